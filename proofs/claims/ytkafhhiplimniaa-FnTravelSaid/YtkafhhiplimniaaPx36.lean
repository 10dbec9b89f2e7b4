-- Written by a program of this session (wip/xprint.py over the print's own program), not by print.sh. Lean checks it.
import Derived.Test.YtkafhhiplimniaaPx0
import Derived.Test.YtkafhhiplimniaaPx1
import Derived.Test.YtkafhhiplimniaaPx8
import Derived.Test.YtkafhhiplimniaaPx16
import Derived.Test.YtkafhhiplimniaaPx20
import Derived.Test.YtkafhhiplimniaaPx35
namespace Go.Proofs.Ytkafhhiplimniaa.P
open Go.RowKit Go.Proofs.YtkafhhiplimniaaW.PrintWords Go.Proofs.YtkafhhiplimniaaW.PrintLast Go.Proofs.YtkafhhiplimniaaW.PrintMore
attribute [local go_sem] max2_int min2_int max_two min_two max_three min_three max_four min_four   -- for this text's walks alone
set_option linter.unusedVariables false
set_option linter.unusedSimpArgs false

attribute [local go_sem high] eqA30
/-! ### laws_FnTravel: function 11 -/
mutual
def laws_FnTravel.j0 : Nat → List Int → List Int → Bool → Option (Bool)
 | 0, _, _, _ => none
 | k + 1, x0, x1, x29 => if x29 = true then (some true) else ((spec_DrawTravelEnd.f k x0).bind fun bt565 => ((impl_TravelEnd.f k bt565.1 bt565.2.1 bt565.2.2).bind fun bt571 => ((spec_TravelEnd.f k bt565.1 bt565.2.1 bt565.2.2).bind fun bt575 => (if (bt571.2.2 != bt575.2.2) = true then (laws_FnTravel.j1 k x1 bt565.2.2 bt571.2.2 bt575.2.2 true bt565.1 bt565.2.1 bt571.1 bt571.2.1 bt575.1 bt575.2.1) else (if (!(bt571.1 == bt575.1) || (!(bt571.2.1 == bt575.2.1))) = true then (laws_FnTravel.j1 k x1 bt565.2.2 bt571.2.2 bt575.2.2 true bt565.1 bt565.2.1 bt571.1 bt571.2.1 bt575.1 bt575.2.1) else (laws_FnTravel.j1 k x1 bt565.2.2 bt571.2.2 bt575.2.2 (!bt571.2.2) bt565.1 bt565.2.1 bt571.1 bt571.2.1 bt575.1 bt575.2.1))))))
def laws_FnTravel.j1 : Nat → List Int → List (S30) → Bool → Bool → Bool → Int → Int → Int → Int → Int → Int → Option (Bool)
 | 0, _, _, _, _, _, _, _, _, _, _, _ => none
 | k + 1, x1, x6, x8, x10, x58, x571000, x571001, x575000, x575001, x579000, x579001 => if x58 = true then (if (x8 == x10) = true then (some (x575000 == x579000 && (x575001 == x579001))) else (some false)) else (if (x6.length : Int) = 0 then (none) else (if 0 ≤ (wrap64 (1 + ((x1.length : Int) % (x6.length : Int)))) then (if (wrap64 (1 + ((x1.length : Int) % (x6.length : Int)))) ≤ (x6.length : Int) then ((impl_TravelEnd.f k x571000 x571001 (x6.take ((wrap64 (1 + ((x1.length : Int) % (x6.length : Int)))) : Int).toNat)).bind fun bt583 => ((impl_TravelGap.f k x6).bind fun bt587 => (laws_FnTravel.l0 k x6 (wrap64 (1 + ((x1.length : Int) % (x6.length : Int)))) bt583.2.2 bt587.2.2 (([] : List (S30))) (wrap64 ((x6.length : Int) - 1)) x571000 x571001 x575000 x575001 bt583.1 bt583.2.1 bt587.1 bt587.2.1))) else (none)) else (none)))
def laws_FnTravel.l0 : Nat → List (S30) → Int → Bool → Bool → List (S30) → Int → Int → Int → Int → Int → Int → Int → Int → Int → Option (Bool)
 | 0, _, _, _, _, _, _, _, _, _, _, _, _, _, _ => none
 | k + 1, x6, x11, x13, x15, x16, x17, x571000, x571001, x575000, x575001, x587000, x587001, x591000, x591001 => if x17 ≥ 0 then (if 0 ≤ x17 then (if x17 < (x6.length : Int) then (if x16.length < 8796093022208 then (laws_FnTravel.l0 k x6 x11 x13 x15 (x16 ++ [(⟨wrap64 (-((rd_T30 x6 x17).f0)), wrap64 (-((rd_T30 x6 x17).f1))⟩ : S30)]) (wrap64 (x17 - 1)) x571000 x571001 x575000 x575001 x587000 x587001 x591000 x591001) else (none)) else (none)) else (none)) else ((impl_TravelEnd.f k x575000 x575001 x16).bind fun bt599 => (if x13 = true then (if x15 = true then (if bt599.2.2 = true then (if (!(bt599.1 == x571000) || (!(bt599.2.1 == x571001))) = true then (laws_FnTravel.j3 k x6 x11 true x575000 x575001 x587000 x587001) else (if x575000 = (wrap64 (x571000 + x591000)) then (laws_FnTravel.j3 k x6 x11 (x575001 != (wrap64 (x571001 + x591001))) x575000 x575001 x587000 x587001) else (laws_FnTravel.j3 k x6 x11 true x575000 x575001 x587000 x587001))) else (laws_FnTravel.j3 k x6 x11 true x575000 x575001 x587000 x587001)) else (laws_FnTravel.j3 k x6 x11 true x575000 x575001 x587000 x587001)) else (laws_FnTravel.j3 k x6 x11 true x575000 x575001 x587000 x587001)))
def laws_FnTravel.j3 : Nat → List (S30) → Int → Bool → Int → Int → Int → Int → Option (Bool)
 | 0, _, _, _, _, _, _, _ => none
 | k + 1, x6, x11, x150, x575000, x575001, x587000, x587001 => if x150 = true then (some false) else (if x11 = (x6.length : Int) then (some (x587000 == x575000 && (x587001 == x575001))) else (if 0 ≤ x11 then (if x11 ≤ (x6.length : Int) then ((impl_TravelEnd.f k x587000 x587001 (x6.drop (x11 : Int).toNat)).bind fun bt607 => (if bt607.2.2 = true then (some (bt607.1 == x575000 && (bt607.2.1 == x575001))) else (some false))) else (none)) else (none)))
end
def laws_FnTravel.f (k : Nat) (l0 : List Int) (l1 : List Int) : Option (Bool) := if (l0.length : Int) > 1048576 then (laws_FnTravel.j0 k l0 l1 true) else (laws_FnTravel.j0 k l0 l1 (decide ((l1.length : Int) > 1048576)))
theorem laws_FnTravel.mono_l : ∀ k, (∀ y0 y1 y2, LeO (laws_FnTravel.j0 k y0 y1 y2) (laws_FnTravel.j0 (k + 1) y0 y1 y2)) ∧ (∀ y0 y1 y2 y3 y4 y5 y6 y7 y8 y9 y10, LeO (laws_FnTravel.j1 k y0 y1 y2 y3 y4 y5 y6 y7 y8 y9 y10) (laws_FnTravel.j1 (k + 1) y0 y1 y2 y3 y4 y5 y6 y7 y8 y9 y10)) ∧ (∀ y0 y1 y2 y3 y4 y5 y6 y7 y8 y9 y10 y11 y12 y13, LeO (laws_FnTravel.l0 k y0 y1 y2 y3 y4 y5 y6 y7 y8 y9 y10 y11 y12 y13) (laws_FnTravel.l0 (k + 1) y0 y1 y2 y3 y4 y5 y6 y7 y8 y9 y10 y11 y12 y13)) ∧ (∀ y0 y1 y2 y3 y4 y5 y6, LeO (laws_FnTravel.j3 k y0 y1 y2 y3 y4 y5 y6) (laws_FnTravel.j3 (k + 1) y0 y1 y2 y3 y4 y5 y6))
 | 0 => ⟨fun _ _ _ r h => by simp [laws_FnTravel.j0] at h, fun _ _ _ _ _ _ _ _ _ _ _ r h => by simp [laws_FnTravel.j1] at h, fun _ _ _ _ _ _ _ _ _ _ _ _ _ _ r h => by simp [laws_FnTravel.l0] at h, fun _ _ _ _ _ _ _ r h => by simp [laws_FnTravel.j3] at h⟩
 | k + 1 => by
  obtain ⟨ih0, ih1, ih2, ih3⟩ := laws_FnTravel.mono_l k
  refine ⟨?_, ?_, ?_, ?_⟩
  ·intro y0 y1 y2
   unfold laws_FnTravel.j0
   repeat' first
   | (with_reducible exact ih0 _ _ _)
   | (with_reducible exact ih1 _ _ _ _ _ _ _ _ _ _ _)
   | (with_reducible exact ih2 _ _ _ _ _ _ _ _ _ _ _ _ _ _)
   | (with_reducible exact ih3 _ _ _ _ _ _ _)
   | (with_reducible exact impl_TravelEnd.mono _ _ _ _)
   | (with_reducible exact impl_TravelGap.mono _ _)
   | (with_reducible exact spec_DrawTravelEnd.mono _ _)
   | (with_reducible exact spec_TravelEnd.mono _ _ _ _)
   | (with_reducible exact LeO.refl _)
   | (with_reducible exact LeO.none _)
   | (with_reducible refine LeO.ite ?_ ?_)
   | (with_reducible refine LeO.bind ?_ (fun _ => ?_))
   | exact ih0 _ _ _
   | exact ih1 _ _ _ _ _ _ _ _ _ _ _
   | exact ih2 _ _ _ _ _ _ _ _ _ _ _ _ _ _
   | exact ih3 _ _ _ _ _ _ _
   | exact impl_TravelEnd.mono _ _ _ _
   | exact impl_TravelGap.mono _ _
   | exact spec_DrawTravelEnd.mono _ _
   | exact spec_TravelEnd.mono _ _ _ _
   | exact LeO.none _
   | refine LeO.ite ?_ ?_
   | refine LeO.bind ?_ (fun _ => ?_)
  ·intro y0 y1 y2 y3 y4 y5 y6 y7 y8 y9 y10
   unfold laws_FnTravel.j1
   repeat' first
   | (with_reducible exact ih0 _ _ _)
   | (with_reducible exact ih1 _ _ _ _ _ _ _ _ _ _ _)
   | (with_reducible exact ih2 _ _ _ _ _ _ _ _ _ _ _ _ _ _)
   | (with_reducible exact ih3 _ _ _ _ _ _ _)
   | (with_reducible exact impl_TravelEnd.mono _ _ _ _)
   | (with_reducible exact impl_TravelGap.mono _ _)
   | (with_reducible exact spec_DrawTravelEnd.mono _ _)
   | (with_reducible exact spec_TravelEnd.mono _ _ _ _)
   | (with_reducible exact LeO.refl _)
   | (with_reducible exact LeO.none _)
   | (with_reducible refine LeO.ite ?_ ?_)
   | (with_reducible refine LeO.bind ?_ (fun _ => ?_))
   | exact ih0 _ _ _
   | exact ih1 _ _ _ _ _ _ _ _ _ _ _
   | exact ih2 _ _ _ _ _ _ _ _ _ _ _ _ _ _
   | exact ih3 _ _ _ _ _ _ _
   | exact impl_TravelEnd.mono _ _ _ _
   | exact impl_TravelGap.mono _ _
   | exact spec_DrawTravelEnd.mono _ _
   | exact spec_TravelEnd.mono _ _ _ _
   | exact LeO.none _
   | refine LeO.ite ?_ ?_
   | refine LeO.bind ?_ (fun _ => ?_)
  ·intro y0 y1 y2 y3 y4 y5 y6 y7 y8 y9 y10 y11 y12 y13
   unfold laws_FnTravel.l0
   repeat' first
   | (with_reducible exact ih0 _ _ _)
   | (with_reducible exact ih1 _ _ _ _ _ _ _ _ _ _ _)
   | (with_reducible exact ih2 _ _ _ _ _ _ _ _ _ _ _ _ _ _)
   | (with_reducible exact ih3 _ _ _ _ _ _ _)
   | (with_reducible exact impl_TravelEnd.mono _ _ _ _)
   | (with_reducible exact impl_TravelGap.mono _ _)
   | (with_reducible exact spec_DrawTravelEnd.mono _ _)
   | (with_reducible exact spec_TravelEnd.mono _ _ _ _)
   | (with_reducible exact LeO.refl _)
   | (with_reducible exact LeO.none _)
   | (with_reducible refine LeO.ite ?_ ?_)
   | (with_reducible refine LeO.bind ?_ (fun _ => ?_))
   | exact ih0 _ _ _
   | exact ih1 _ _ _ _ _ _ _ _ _ _ _
   | exact ih2 _ _ _ _ _ _ _ _ _ _ _ _ _ _
   | exact ih3 _ _ _ _ _ _ _
   | exact impl_TravelEnd.mono _ _ _ _
   | exact impl_TravelGap.mono _ _
   | exact spec_DrawTravelEnd.mono _ _
   | exact spec_TravelEnd.mono _ _ _ _
   | exact LeO.none _
   | refine LeO.ite ?_ ?_
   | refine LeO.bind ?_ (fun _ => ?_)
  ·intro y0 y1 y2 y3 y4 y5 y6
   unfold laws_FnTravel.j3
   repeat' first
   | (with_reducible exact ih0 _ _ _)
   | (with_reducible exact ih1 _ _ _ _ _ _ _ _ _ _ _)
   | (with_reducible exact ih2 _ _ _ _ _ _ _ _ _ _ _ _ _ _)
   | (with_reducible exact ih3 _ _ _ _ _ _ _)
   | (with_reducible exact impl_TravelEnd.mono _ _ _ _)
   | (with_reducible exact impl_TravelGap.mono _ _)
   | (with_reducible exact spec_DrawTravelEnd.mono _ _)
   | (with_reducible exact spec_TravelEnd.mono _ _ _ _)
   | (with_reducible exact LeO.refl _)
   | (with_reducible exact LeO.none _)
   | (with_reducible refine LeO.ite ?_ ?_)
   | (with_reducible refine LeO.bind ?_ (fun _ => ?_))
   | exact ih0 _ _ _
   | exact ih1 _ _ _ _ _ _ _ _ _ _ _
   | exact ih2 _ _ _ _ _ _ _ _ _ _ _ _ _ _
   | exact ih3 _ _ _ _ _ _ _
   | exact impl_TravelEnd.mono _ _ _ _
   | exact impl_TravelGap.mono _ _
   | exact spec_DrawTravelEnd.mono _ _
   | exact spec_TravelEnd.mono _ _ _ _
   | exact LeO.none _
   | refine LeO.ite ?_ ?_
   | refine LeO.bind ?_ (fun _ => ?_)
theorem laws_FnTravel.mono : ∀ a0 a1 k, LeO (laws_FnTravel.f k a0 a1) (laws_FnTravel.f (k + 1) a0 a1) := by
 intro a0 a1 k
 obtain ⟨ih0, ih1, ih2, ih3⟩ := laws_FnTravel.mono_l k
 unfold laws_FnTravel.f
 repeat' first
   | (with_reducible exact ih0 _ _ _)
   | (with_reducible exact ih1 _ _ _ _ _ _ _ _ _ _ _)
   | (with_reducible exact ih2 _ _ _ _ _ _ _ _ _ _ _ _ _ _)
   | (with_reducible exact ih3 _ _ _ _ _ _ _)
   | (with_reducible exact impl_TravelEnd.mono _ _ _ _)
   | (with_reducible exact impl_TravelGap.mono _ _)
   | (with_reducible exact spec_DrawTravelEnd.mono _ _)
   | (with_reducible exact spec_TravelEnd.mono _ _ _ _)
   | (with_reducible exact LeO.refl _)
   | (with_reducible exact LeO.none _)
   | (with_reducible refine LeO.ite ?_ ?_)
   | (with_reducible refine LeO.bind ?_ (fun _ => ?_))
   | exact ih0 _ _ _
   | exact ih1 _ _ _ _ _ _ _ _ _ _ _
   | exact ih2 _ _ _ _ _ _ _ _ _ _ _ _ _ _
   | exact ih3 _ _ _ _ _ _ _
   | exact impl_TravelEnd.mono _ _ _ _
   | exact impl_TravelGap.mono _ _
   | exact spec_DrawTravelEnd.mono _ _
   | exact spec_TravelEnd.mono _ _ _ _
   | exact LeO.none _
   | refine LeO.ite ?_ ?_
   | refine LeO.bind ?_ (fun _ => ?_)
def laws_FnTravel.T9 : Bool × List (List Nat × List Nat) := (true, [([], []), ([], []), ([], []), ([1, 2], [1, 2]), ([0, 3], [0, 3]), ([4], [4]), ([5], [5]), ([5], [5]), ([], []), ([8, 6, 4, 0, 1, 2, 3, 4, 5, 6, 8], [6, 8]), ([7, 9, 0, 1, 2, 3, 4, 5, 6, 7, 8, 9], [7])])
def laws_FnTravel.B9 : List Nat := [0, 0, 0, 6, 15, 31, 63, 63, 0, 383, 1023]
theorem laws_FnTravel.tab9 : rtab .any (opsOf Try.f11 9) = laws_FnTravel.T9 := by kernel_rfl
theorem laws_FnTravel.bits9 : waitsOk laws_FnTravel.T9.2 laws_FnTravel.B9 = true := by kernel_rfl
def laws_FnTravel.T15 : Bool × List (List Nat × List Nat) := (true, [([], []), ([], []), ([], []), ([1, 2], [1, 2]), ([3], [3]), ([4], [4]), ([5], [5]), ([], []), ([], []), ([7, 8], [7, 8]), ([9], [9]), ([10], [10]), ([11], [11]), ([6, 12], [6, 12]), ([13], [13]), ([0, 14], [0, 14]), ([15, 15, 0, 1, 2, 3, 4, 5, 6, 7, 8, 9, 10, 11, 12, 13, 14, 15], [0, 15])])
def laws_FnTravel.B15 : List Nat := [0, 0, 0, 6, 14, 30, 62, 0, 0, 384, 896, 1920, 3968, 8190, 16382, 32767, 65535]
theorem laws_FnTravel.tab15 : rtab .any (opsOf Try.f11 15) = laws_FnTravel.T15 := by kernel_rfl
theorem laws_FnTravel.bits15 : waitsOk laws_FnTravel.T15.2 laws_FnTravel.B15 = true := by kernel_rfl
def laws_FnTravel.T21 : Bool × List (List Nat × List Nat) := (true, [([], []), ([], []), ([], []), ([1, 2], [1, 2]), ([0, 3], [0, 3]), ([4], [4]), ([5], [5]), ([5], [5]), ([], []), ([8, 6, 4, 0, 1, 2, 3, 4, 5, 6, 8], [6, 8]), ([7, 9, 0, 1, 2, 3, 4, 5, 6, 7, 8, 9], [7])])
def laws_FnTravel.B21 : List Nat := [0, 0, 0, 6, 15, 31, 63, 63, 0, 383, 1023]
theorem laws_FnTravel.tab21 : rtab .any (opsOf Try.f11 21) = laws_FnTravel.T21 := by kernel_rfl
theorem laws_FnTravel.bits21 : waitsOk laws_FnTravel.T21.2 laws_FnTravel.B21 = true := by kernel_rfl
set_option maxHeartbeats 8000000 in
set_option maxRecDepth 100000 in
theorem laws_FnTravel.calls (k : Nat) (A0 : Option Addr) (c0 : Nat) (l0 : List Int) (A1 : Option Addr) (c1 : Nat) (l1 : List Int) (r : Bool) (w : World) (hr0 : Kd.C (Kd.int .u8) w A0 l0.length l0) (hc0 : l0.length ≤ c0) (hr1 : Kd.C (Kd.int .u8) w A1 l1.length l1) (hc1 : l1.length ≤ c1) (h : laws_FnTravel.f k l0 l1 = some r) :
  Calls Try.prog 11 #[.slice A0 l0.length c0, .slice A1 l1.length c1] w fun e w' => e = .returned (.bool r) ∧ Below w.heap.size w w' := by
 have hu30 := Try.underlying30
 have HR0 := Aside0.mk hr0
 have HC0 := Aside0.mk hc0
 clear hr0 hc0
 have HR1 := Aside0.mk hr1
 have HC1 := Aside0.mk hc1
 clear hr1 hc1
 have HB := Aside0.mk (Below.refl w.heap.size w)
 have H : (if (l0.length : Int) > 1048576 then (laws_FnTravel.j0 k l0 l1 true) else (laws_FnTravel.j0 k l0 l1 (decide ((l1.length : Int) > 1048576)))) = some r := h
 clear h
 have HC3 := Aside0.mk H
 clear H
 go_enter Try.func11, Try.ntmps11
 go_upto_region 1 with (fail)
 go_cut [29] (fun v29 wc => ∃ (kq : Nat) (x29_2 : Bool), v29 = .bool x29_2 ∧ Aside0 (laws_FnTravel.j0 kq l0 l1 x29_2 = some r) ∧ Aside0 (kq ≤ k) ∧ Aside0 (Below w.heap.size w wc))
 case first =>
  have H := HC3.out
  clear HC3
  by_cases c4 : (l0.length : Int) > 1048576
  ·rw [if_pos c4] at H
   have c4b0 : decide (1048576 < (l0.length : Int)) = true := decide_eq_true c4
   have c4b1 : decide (1048576 < l0.length) = true := decide_eq_true (by omega)
   clear c4
   (first | rw [c4b0] | (simp only [i64_w, i32_w]; rw [c4b0]) | skip)
   have H' := Aside0.mk H
   clear H
   go_wp2
   go_meet
   case rel => exact ⟨_, (true), (by first | rfl | (simp; done) | (simp [*]; done)), H', ⟨by first | omega | exact Nat.le_refl _⟩, ⟨by repeat (first | (with_reducible first | exact HB.out | apply below_alloc | apply pw_below_drewN | apply below_drew1) | exact HB.out)⟩⟩
  ·rw [if_neg c4] at H
   have c4b0 : decide (1048576 < (l0.length : Int)) = false := decide_eq_false c4
   have c4b1 : decide (1048576 < l0.length) = false := decide_eq_false (by omega)
   clear c4
   (first | rw [c4b0] | (simp only [i64_w, i32_w]; rw [c4b0]) | skip)
   have H' := Aside0.mk H
   clear H
   go_wp2
   go_meet
   case rel => exact ⟨_, (decide ((l1.length : Int) > 1048576)), (by first | rfl | (simp; done) | (simp [*]; done)), H', ⟨by first | omega | exact Nat.le_refl _⟩, ⟨by repeat (first | (with_reducible first | exact HB.out | apply below_alloc | apply pw_below_drewN | apply below_drew1) | exact HB.out)⟩⟩
 case rest =>
  clear HC3
  try clear c1
  try clear p2
  try clear c4
  try clear c4b0
  try clear c4b1
  obtain ⟨kq, x29_2, rfl, HA, HJ2, HB⟩ := hcut
  cases kq with
  | zero => exact absurd HA.out (by simp [laws_FnTravel.j0])
  | succ kj2 =>
   have H := HA.out
   clear HA
   simp only [laws_FnTravel.j0] at H
   by_cases c5 : x29_2 = true
   ·subst c5
    have H1 : (some true) = some r := by rw [if_pos rfl] at H; exact H
    clear H
    have H := H1
    clear H1
    obtain rfl := Option.some.inj H
    go_wp2
    go_ret
    exact ⟨by first | rfl | (simp [errW_none, errW_some] <;> rfl) | (simp [*, errW_none, errW_some] <;> rfl), by repeat (first | (with_reducible first | exact HB.out | apply below_alloc | apply pw_below_drewN | apply below_drew1) | exact HB.out)⟩
   ·replace c5 := Bool.eq_false_iff.mpr c5
    subst c5
    have H1 : ((spec_DrawTravelEnd.f kj2 l0).bind fun bt565 => ((impl_TravelEnd.f kj2 bt565.1 bt565.2.1 bt565.2.2).bind fun bt571 => ((spec_TravelEnd.f kj2 bt565.1 bt565.2.1 bt565.2.2).bind fun bt575 => (if (bt571.2.2 != bt575.2.2) = true then (laws_FnTravel.j1 kj2 l1 bt565.2.2 bt571.2.2 bt575.2.2 true bt565.1 bt565.2.1 bt571.1 bt571.2.1 bt575.1 bt575.2.1) else (if (!(bt571.1 == bt575.1) || (!(bt571.2.1 == bt575.2.1))) = true then (laws_FnTravel.j1 kj2 l1 bt565.2.2 bt571.2.2 bt575.2.2 true bt565.1 bt565.2.1 bt571.1 bt571.2.1 bt575.1 bt575.2.1) else (laws_FnTravel.j1 kj2 l1 bt565.2.2 bt571.2.2 bt575.2.2 (!bt571.2.2) bt565.1 bt565.2.1 bt571.1 bt571.2.1 bt575.1 bt575.2.1)))))) = some r := by rw [if_neg (show ¬ (false = true) by decide)] at H; exact H
    clear H
    have H := H1
    clear H1
    replace H := Option.bind_eq_some_iff.mp H
    obtain ⟨⟨t565, t566, t567⟩, A60, H⟩ := H
    replace H : ((impl_TravelEnd.f kj2 t565 t566 t567).bind fun bt571 => ((spec_TravelEnd.f kj2 t565 t566 t567).bind fun bt575 => (if (bt571.2.2 != bt575.2.2) = true then (laws_FnTravel.j1 kj2 l1 t567 bt571.2.2 bt575.2.2 true t565 t566 bt571.1 bt571.2.1 bt575.1 bt575.2.1) else (if (!(bt571.1 == bt575.1) || (!(bt571.2.1 == bt575.2.1))) = true then (laws_FnTravel.j1 kj2 l1 t567 bt571.2.2 bt575.2.2 true t565 t566 bt571.1 bt571.2.1 bt575.1 bt575.2.1) else (laws_FnTravel.j1 kj2 l1 t567 bt571.2.2 bt575.2.2 (!bt571.2.2) t565 t566 bt571.1 bt571.2.1 bt575.1 bt575.2.1))))) = some r := H
    have A6 := Aside0.mk A60
    clear A60
    replace H := Option.bind_eq_some_iff.mp H
    obtain ⟨⟨t571, t572, t573⟩, A70, H⟩ := H
    replace H : ((spec_TravelEnd.f kj2 t565 t566 t567).bind fun bt575 => (if (t573 != bt575.2.2) = true then (laws_FnTravel.j1 kj2 l1 t567 t573 bt575.2.2 true t565 t566 t571 t572 bt575.1 bt575.2.1) else (if (!(t571 == bt575.1) || (!(t572 == bt575.2.1))) = true then (laws_FnTravel.j1 kj2 l1 t567 t573 bt575.2.2 true t565 t566 t571 t572 bt575.1 bt575.2.1) else (laws_FnTravel.j1 kj2 l1 t567 t573 bt575.2.2 (!t573) t565 t566 t571 t572 bt575.1 bt575.2.1)))) = some r := H
    have A7 := Aside0.mk A70
    clear A70
    replace H := Option.bind_eq_some_iff.mp H
    obtain ⟨⟨t575, t576, t577⟩, A80, H⟩ := H
    replace H : (if (t573 != t577) = true then (laws_FnTravel.j1 kj2 l1 t567 t573 t577 true t565 t566 t571 t572 t575 t576) else (if (!(t571 == t575) || (!(t572 == t576))) = true then (laws_FnTravel.j1 kj2 l1 t567 t573 t577 true t565 t566 t571 t572 t575 t576) else (laws_FnTravel.j1 kj2 l1 t567 t573 t577 (!t573) t565 t566 t571 t572 t575 t576))) = some r := H
    have A8 := Aside0.mk A80
    clear A80
    have HC9 := Aside0.mk H
    clear H
    go_upto_region 6 with (first | ((with_reducible refine gate_callee (f := 37) rfl ?_); refine goesL_ (some 32) rfl rfl Try.func37 (by kernel_rfl) rfl #[.slice A0 l0.length c0] rfl (by (try simp only [List.map_toArray, List.map_cons, List.map_nil]); first | done | rfl | (simp only [List.length_drop, List.length_take]; rfl)) ?_; (with_reducible refine (spec_DrawTravelEnd.calls kj2 _ _ l0 t565 t566 t567 _ ?side1 ?side2 A6.out).mono ?_); (case side1 => repeat (first | exact (Kd.C_below HR0.out HB.out) | (with_reducible refine Kd.C_alloc ?_ _) | (with_reducible refine Kd.C_drewN ?_ _) | (with_reducible refine Kd.C_drew ?_))); (case side2 => exact HC0.out); rintro e w10 ⟨v568, rfl, ho0, hb⟩; refine ⟨_, rfl, ?_⟩; have n0_ := Aside0.mk (Kd.R_lower ho0 (below_size (by repeat (first | (with_reducible first | exact HB.out | apply below_alloc | apply pw_below_drewN | apply below_drew1) | exact HB.out)))); have n1_ := Aside0.mk (below_step (by repeat (first | (with_reducible first | exact HB.out | apply below_alloc | apply pw_below_drewN | apply below_drew1) | exact HB.out)) hb); clear HB; have HO569 := n0_; have HB := n1_; clear n0_ n1_; (try clear hb); (try clear hb2); (try clear hk); (try clear hi); (try clear ho0)) | ((with_reducible refine gate_dst (N := 5) rfl ?_); (try (refine gate_guard (by rfl) ?_; dsimp only)); refine box_event ?hg (N := 5) ?hd (cs := #[.int .i64 0, .int .i64 0]) (t := 30) ?hr ?_; (case hd => rfl); (case hg => rfl); (case hr => first | (go_simp; done) | (go_simp; rfl)); intro gb570 hg w11 hbox hb; have n0_ := Aside0.mk (Kd.R_below (Kd.R_elderB (by (with_reducible repeat (first | apply Kd.R_alloc | apply Kd.R_drewN | apply Kd.R_drew)); exact HO569.out) gb570 (Nat.le_of_eq hg.symm)) hb); have n1_ := Aside0.mk (below_step (by repeat (first | (with_reducible first | exact HB.out | apply below_alloc | apply pw_below_drewN | apply below_drew1) | exact HB.out)) hb); have n2_ := Aside0.mk (hbox); have n3_ := Aside0.mk ((by rw [hg]; exact (below_size (by repeat (first | (with_reducible first | exact HB.out | apply below_alloc | apply pw_below_drewN | apply below_drew1) | exact HB.out))) : w.heap.size ≤ gb570)); have n4_ := Aside0.mk ((by rw [hg]; exact (below_size (by repeat (first | (with_reducible first | exact HB.out | apply below_alloc | apply pw_below_drewN | apply below_drew1) | exact HB.out))) : w.heap.size ≤ gb570)); clear HO569; clear HB; have HO569 := n0_; have HB := n1_; have BK570 := n2_; have GW570 := n3_; have GE570 := n4_; clear n0_ n1_ n2_ n3_ n4_; clear hb hbox hg; have hcz12_0 : w11.cell? ⟨gb570, 0, none⟩ = some (.int .i64 0) := (blk_cell BK570.out 0).trans rfl; have hcz12_1 : w11.cell? ⟨gb570, 1, none⟩ = some (.int .i64 0) := (blk_cell BK570.out 1).trans rfl; have hfz12_0 := blk_frozen BK570.out 0; have hfz12_1 := blk_frozen BK570.out 1; obtain ⟨Ao13, co13, eo13⟩ := Kd.R_slice HO569.out; subst eo13) | ((with_reducible refine gate_callee (f := 26) rfl ?_); refine goesL_ (some 38) rfl rfl Try.func26 (by kernel_rfl) rfl #[.agg #[.int .i64 t565, .int .i64 t566], .slice Ao13 t567.length co13] rfl (by (try simp only [List.map_toArray, List.map_cons, List.map_nil]); first | done | rfl | (simp only [List.length_drop, List.length_take]; rfl)) ?_; (with_reducible refine (impl_TravelEnd.calls kj2 t565 t566 _ _ t567 t571 t572 t573 _ ?side1 ?side2 A7.out).mono ?_); (case side1 => refine (Kd.R_reads' (e := 30) (base := w.heap.size) (ok := fun k_ => (True ∧ k_ ≠ gb570)) (n := t567.length) (c := co13) ?_).2.2; exact (by (with_reducible repeat (first | apply Kd.R_alloc | apply Kd.R_drewN | apply Kd.R_drew)); exact (Kd.R_mono (Kd.R_far (p := ⟨gb570, 1, none⟩) (Kd.R_far (p := ⟨gb570, 0, none⟩) (Kd.R_mono HO569.out (fun k_ hk => (⟨hk, hk.2⟩ : _ ∧ k_ ≠ gb570))) (fun _ hk => hk.2) (.int .i64 t565)) (fun _ hk => hk.2) (.int .i64 t566)) (fun _ h_ => h_.1)))); (case side2 => exact (Kd.R_reads' HO569.out).2.1); rintro e w14 ⟨rfl, hb⟩; refine ⟨_, rfl, ?_⟩; have n0_ := Aside0.mk (Kd.R_below (by (with_reducible repeat (first | apply Kd.R_alloc | apply Kd.R_drewN | apply Kd.R_drew)); exact (Kd.R_mono (Kd.R_far (p := ⟨gb570, 1, none⟩) (Kd.R_far (p := ⟨gb570, 0, none⟩) (Kd.R_mono HO569.out (fun k_ hk => (⟨hk, hk.2⟩ : _ ∧ k_ ≠ gb570))) (fun _ hk => hk.2) (.int .i64 t565)) (fun _ hk => hk.2) (.int .i64 t566)) (fun _ h_ => h_.1))) hb); have n1_ := Aside0.mk (blk_below (g := gb570) (o := .cells #[.int .i64 t565, .int .i64 t566] 30 (0, 0)) (by (with_reducible repeat (first | refine blk_drewN ?_ _ | refine blk_drew ?_ | refine blk_alloc ?_ _)); refine blk_put (cs := #[.int .i64 t565, .int .i64 0]) ?_ 1 _ rfl; (with_reducible repeat (first | refine blk_drewN ?_ _ | refine blk_drew ?_ | refine blk_alloc ?_ _)); refine blk_put (cs := #[.int .i64 0, .int .i64 0]) ?_ 0 _ rfl; (with_reducible repeat (first | refine blk_drewN ?_ _ | refine blk_drew ?_ | refine blk_alloc ?_ _)); exact BK570.out) hb); have n2_ := Aside0.mk (below_step (by repeat (first | (with_reducible first | exact HB.out | apply below_alloc | apply pw_below_drewN | apply below_drew1 | refine below_set ?_ GE570.out) | exact HB.out)) hb); clear HO569; clear BK570; clear HB; have HO569 := n0_; have BK570 := n1_; have HB := n2_; clear n0_ n1_ n2_; (try clear hb); (try clear hb2); (try clear hk); (try clear hi)) | ((with_reducible refine gate_dst (N := 7) rfl ?_); (try (refine gate_guard (by rfl) ?_; dsimp only)); refine box_event ?hg (N := 7) ?hd (cs := #[.int .i64 0, .int .i64 0]) (t := 30) ?hr ?_; (case hd => rfl); (case hg => rfl); (case hr => first | (go_simp; done) | (go_simp; rfl)); intro gb574 hg w15 hbox hb; have n0_ := Aside0.mk (Kd.R_below (Kd.R_elderB (by (with_reducible repeat (first | apply Kd.R_alloc | apply Kd.R_drewN | apply Kd.R_drew)); exact HO569.out) gb574 (Nat.le_of_eq hg.symm)) hb); have n1_ := Aside0.mk (blk_below (g := gb570) (o := .cells #[.int .i64 t565, .int .i64 t566] 30 (0, 0)) (by (with_reducible repeat (first | refine blk_drewN ?_ _ | refine blk_drew ?_ | refine blk_alloc ?_ _)); exact BK570.out) hb); have n2_ := Aside0.mk (below_step (by repeat (first | (with_reducible first | exact HB.out | apply below_alloc | apply pw_below_drewN | apply below_drew1 | refine below_set ?_ GE570.out) | exact HB.out)) hb); have n3_ := Aside0.mk (hbox); have n4_ := Aside0.mk ((by rw [hg]; exact (below_size (by repeat (first | (with_reducible first | exact HB.out | apply below_alloc | apply pw_below_drewN | apply below_drew1 | refine below_set ?_ GE570.out) | exact HB.out))) : w.heap.size ≤ gb574)); have n5_ := Aside0.mk ((by rw [hg]; exact (below_size (by repeat (first | (with_reducible first | exact HB.out | apply below_alloc | apply pw_below_drewN | apply below_drew1 | refine below_set ?_ GE570.out) | exact HB.out))) : w.heap.size ≤ gb574)); have n6_ := Aside0.mk ((by rw [hg]; exact Nat.ne_of_lt (blk_lt (g := gb570) (o := .cells #[.int .i64 t565, .int .i64 t566] 30 (0, 0)) (by (with_reducible repeat (first | refine blk_drewN ?_ _ | refine blk_drew ?_ | refine blk_alloc ?_ _)); exact BK570.out)) : gb570 ≠ gb574)); have n7_ := Aside0.mk ((by rw [hg]; exact Nat.ne_of_gt (blk_lt (g := gb570) (o := .cells #[.int .i64 t565, .int .i64 t566] 30 (0, 0)) (by (with_reducible repeat (first | refine blk_drewN ?_ _ | refine blk_drew ?_ | refine blk_alloc ?_ _)); exact BK570.out)) : gb574 ≠ gb570)); clear HO569; clear BK570; clear HB; have HO569 := n0_; have BK570 := n1_; have HB := n2_; have BK574 := n3_; have GW574 := n4_; have GE574 := n5_; have NB570_574 := n6_; have NB574_570 := n7_; clear n0_ n1_ n2_ n3_ n4_ n5_ n6_ n7_; clear hb hbox hg; have hnb16 := NB574_570.out; have hnc16 := NB570_574.out; have hcz17_0 : w15.cell? ⟨gb574, 0, none⟩ = some (.int .i64 0) := (blk_cell BK574.out 0).trans rfl; have hcz17_1 : w15.cell? ⟨gb574, 1, none⟩ = some (.int .i64 0) := (blk_cell BK574.out 1).trans rfl; have hfz17_0 := blk_frozen BK574.out 0; have hfz17_1 := blk_frozen BK574.out 1; have hcz18_0 : w15.cell? ⟨gb570, 0, none⟩ = some (.int .i64 t565) := (blk_cell BK570.out 0).trans rfl; have hcz18_1 : w15.cell? ⟨gb570, 1, none⟩ = some (.int .i64 t566) := (blk_cell BK570.out 1).trans rfl; have hfz18_0 := blk_frozen BK570.out 0; have hfz18_1 := blk_frozen BK570.out 1) | ((with_reducible refine gate_callee (f := 24) rfl ?_); refine goesL_ (some 44) rfl rfl Try.func24 (by kernel_rfl) rfl #[.agg #[.int .i64 t565, .int .i64 t566], .slice Ao13 t567.length co13] rfl (by (try simp only [List.map_toArray, List.map_cons, List.map_nil]); first | done | rfl | (simp only [List.length_drop, List.length_take]; rfl)) ?_; (with_reducible refine (spec_TravelEnd.calls kj2 t565 t566 _ _ t567 t575 t576 t577 _ ?side1 ?side2 A8.out).mono ?_); (case side1 => refine (Kd.R_reads' (e := 30) (base := w.heap.size) (ok := fun k_ => ((True ∧ k_ ≠ gb570) ∧ k_ ≠ gb574)) (n := t567.length) (c := co13) ?_).2.2; exact (by (with_reducible repeat (first | apply Kd.R_alloc | apply Kd.R_drewN | apply Kd.R_drew)); exact (Kd.R_mono (Kd.R_far (p := ⟨gb574, 1, none⟩) (Kd.R_far (p := ⟨gb574, 0, none⟩) (Kd.R_mono HO569.out (fun k_ hk => (⟨hk, hk.2⟩ : _ ∧ k_ ≠ gb574))) (fun _ hk => hk.2) (.int .i64 t571)) (fun _ hk => hk.2) (.int .i64 t572)) (fun _ h_ => h_.1)))); (case side2 => exact (Kd.R_reads' HO569.out).2.1); rintro e w19 ⟨rfl, hb⟩; refine ⟨_, rfl, ?_⟩; have n0_ := Aside0.mk (Kd.R_below (by (with_reducible repeat (first | apply Kd.R_alloc | apply Kd.R_drewN | apply Kd.R_drew)); exact (Kd.R_mono (Kd.R_far (p := ⟨gb574, 1, none⟩) (Kd.R_far (p := ⟨gb574, 0, none⟩) (Kd.R_mono HO569.out (fun k_ hk => (⟨hk, hk.2⟩ : _ ∧ k_ ≠ gb574))) (fun _ hk => hk.2) (.int .i64 t571)) (fun _ hk => hk.2) (.int .i64 t572)) (fun _ h_ => h_.1))) hb); have n1_ := Aside0.mk (blk_below (g := gb570) (o := .cells #[.int .i64 t565, .int .i64 t566] 30 (0, 0)) (by (with_reducible repeat (first | refine blk_drewN ?_ _ | refine blk_drew ?_ | refine blk_alloc ?_ _)); refine blk_far ?_ NB570_574.out _; (with_reducible repeat (first | refine blk_drewN ?_ _ | refine blk_drew ?_ | refine blk_alloc ?_ _)); refine blk_far ?_ NB570_574.out _; (with_reducible repeat (first | refine blk_drewN ?_ _ | refine blk_drew ?_ | refine blk_alloc ?_ _)); exact BK570.out) hb); have n2_ := Aside0.mk (blk_below (g := gb574) (o := .cells #[.int .i64 t571, .int .i64 t572] 30 (0, 0)) (by (with_reducible repeat (first | refine blk_drewN ?_ _ | refine blk_drew ?_ | refine blk_alloc ?_ _)); refine blk_put (cs := #[.int .i64 t571, .int .i64 0]) ?_ 1 _ rfl; (with_reducible repeat (first | refine blk_drewN ?_ _ | refine blk_drew ?_ | refine blk_alloc ?_ _)); refine blk_put (cs := #[.int .i64 0, .int .i64 0]) ?_ 0 _ rfl; (with_reducible repeat (first | refine blk_drewN ?_ _ | refine blk_drew ?_ | refine blk_alloc ?_ _)); exact BK574.out) hb); have n3_ := Aside0.mk (below_step (by repeat (first | (with_reducible first | exact HB.out | apply below_alloc | apply pw_below_drewN | apply below_drew1 | refine below_set ?_ GE570.out | refine below_set ?_ GE574.out) | exact HB.out)) hb); clear HO569; clear BK570; clear BK574; clear HB; have HO569 := n0_; have BK570 := n1_; have BK574 := n2_; have HB := n3_; clear n0_ n1_ n2_ n3_; (try clear hb); (try clear hb2); (try clear hk); (try clear hi)) | ((with_reducible refine gate_dst (N := 9) rfl ?_); (try (refine gate_guard (by rfl) ?_; dsimp only)); refine box_event ?hg (N := 9) ?hd (cs := #[.int .i64 0, .int .i64 0]) (t := 30) ?hr ?_; (case hd => rfl); (case hg => rfl); (case hr => first | (go_simp; done) | (go_simp; rfl)); intro gb578 hg w20 hbox hb; have n0_ := Aside0.mk (Kd.R_below (Kd.R_elderB (by (with_reducible repeat (first | apply Kd.R_alloc | apply Kd.R_drewN | apply Kd.R_drew)); exact HO569.out) gb578 (Nat.le_of_eq hg.symm)) hb); have n1_ := Aside0.mk (blk_below (g := gb570) (o := .cells #[.int .i64 t565, .int .i64 t566] 30 (0, 0)) (by (with_reducible repeat (first | refine blk_drewN ?_ _ | refine blk_drew ?_ | refine blk_alloc ?_ _)); exact BK570.out) hb); have n2_ := Aside0.mk (blk_below (g := gb574) (o := .cells #[.int .i64 t571, .int .i64 t572] 30 (0, 0)) (by (with_reducible repeat (first | refine blk_drewN ?_ _ | refine blk_drew ?_ | refine blk_alloc ?_ _)); exact BK574.out) hb); have n3_ := Aside0.mk (below_step (by repeat (first | (with_reducible first | exact HB.out | apply below_alloc | apply pw_below_drewN | apply below_drew1 | refine below_set ?_ GE570.out | refine below_set ?_ GE574.out) | exact HB.out)) hb); have n4_ := Aside0.mk (hbox); have n5_ := Aside0.mk ((by rw [hg]; exact (below_size (by repeat (first | (with_reducible first | exact HB.out | apply below_alloc | apply pw_below_drewN | apply below_drew1 | refine below_set ?_ GE570.out | refine below_set ?_ GE574.out) | exact HB.out))) : w.heap.size ≤ gb578)); have n6_ := Aside0.mk ((by rw [hg]; exact (below_size (by repeat (first | (with_reducible first | exact HB.out | apply below_alloc | apply pw_below_drewN | apply below_drew1 | refine below_set ?_ GE570.out | refine below_set ?_ GE574.out) | exact HB.out))) : w.heap.size ≤ gb578)); have n7_ := Aside0.mk ((by rw [hg]; exact Nat.ne_of_lt (blk_lt (g := gb570) (o := .cells #[.int .i64 t565, .int .i64 t566] 30 (0, 0)) (by (with_reducible repeat (first | refine blk_drewN ?_ _ | refine blk_drew ?_ | refine blk_alloc ?_ _)); exact BK570.out)) : gb570 ≠ gb578)); have n8_ := Aside0.mk ((by rw [hg]; exact Nat.ne_of_gt (blk_lt (g := gb570) (o := .cells #[.int .i64 t565, .int .i64 t566] 30 (0, 0)) (by (with_reducible repeat (first | refine blk_drewN ?_ _ | refine blk_drew ?_ | refine blk_alloc ?_ _)); exact BK570.out)) : gb578 ≠ gb570)); have n9_ := Aside0.mk ((by rw [hg]; exact Nat.ne_of_lt (blk_lt (g := gb574) (o := .cells #[.int .i64 t571, .int .i64 t572] 30 (0, 0)) (by (with_reducible repeat (first | refine blk_drewN ?_ _ | refine blk_drew ?_ | refine blk_alloc ?_ _)); exact BK574.out)) : gb574 ≠ gb578)); have n10_ := Aside0.mk ((by rw [hg]; exact Nat.ne_of_gt (blk_lt (g := gb574) (o := .cells #[.int .i64 t571, .int .i64 t572] 30 (0, 0)) (by (with_reducible repeat (first | refine blk_drewN ?_ _ | refine blk_drew ?_ | refine blk_alloc ?_ _)); exact BK574.out)) : gb578 ≠ gb574)); clear HO569; clear BK570; clear BK574; clear HB; have HO569 := n0_; have BK570 := n1_; have BK574 := n2_; have HB := n3_; have BK578 := n4_; have GW578 := n5_; have GE578 := n6_; have NB570_578 := n7_; have NB578_570 := n8_; have NB574_578 := n9_; have NB578_574 := n10_; clear n0_ n1_ n2_ n3_ n4_ n5_ n6_ n7_ n8_ n9_ n10_; clear hb hbox hg; have hnb21 := NB578_570.out; have hnc21 := NB570_578.out; have hnb22 := NB578_574.out; have hnc22 := NB574_578.out; have hcz23_0 : w20.cell? ⟨gb578, 0, none⟩ = some (.int .i64 0) := (blk_cell BK578.out 0).trans rfl; have hcz23_1 : w20.cell? ⟨gb578, 1, none⟩ = some (.int .i64 0) := (blk_cell BK578.out 1).trans rfl; have hfz23_0 := blk_frozen BK578.out 0; have hfz23_1 := blk_frozen BK578.out 1))
    (try simp only [Act.put, List.setIfInBounds_toArray, List.set_cons_zero, List.set_cons_succ])
    go_cut [58] (fun v58 wc => ∃ (kq : Nat) (x58_8 : Bool), v58 = .bool x58_8 ∧ Aside0 (laws_FnTravel.j1 kq l1 t567 t573 t577 x58_8 t565 t566 t571 t572 t575 t576 = some r) ∧ Aside0 (kq ≤ kj2) ∧ Aside0 (Kd.R k30 30 wc w.heap.size (fun k_ => k_ ≠ gb570 ∧ k_ ≠ gb574 ∧ k_ ≠ gb578) (.slice Ao13 t567.length co13) t567) ∧ Aside0 (wc.heap[gb570]? = some (.cells #[.int .i64 t565, .int .i64 t566] 30 (0, 0))) ∧ Aside0 (wc.heap[gb574]? = some (.cells #[.int .i64 t571, .int .i64 t572] 30 (0, 0))) ∧ Aside0 (wc.heap[gb578]? = some (.cells #[.int .i64 t575, .int .i64 t576] 30 (0, 0))) ∧ Aside0 (Below w.heap.size w wc))
    case first =>
     have H := HC9.out
     clear HC9
     by_cases c24 : (t573 != t577) = true
     ·rw [if_pos c24] at H
      have c24b0 : (t573 != t577) = true := c24
      (try (have c24b1 : decide (t573 = t577) = false := by simpa using c24))
      (try (have c24b2 : (t573 == t577) = false := by simpa using c24))
      (try (have c24b3 : ¬ (t573 = t577) := by simpa using c24))
      clear c24
      (first | rw [c24b0] | (simp only [i64_w, i32_w]; rw [c24b0]) | skip)
      have H' := Aside0.mk H
      clear H
      go_wp2
      go_meet
      case rel => exact ⟨_, (true), (by first | rfl | (simp; done) | (simp [*]; done)), H', ⟨by have := HJ2.out; first | omega | exact Nat.le_refl _⟩, ⟨by (with_reducible repeat (first | apply Kd.R_alloc | apply Kd.R_drewN | apply Kd.R_drew)); exact Kd.R_mono (Kd.R_far (p := ⟨gb578, 1, none⟩) (Kd.R_far (p := ⟨gb578, 0, none⟩) (Kd.R_mono HO569.out (fun k_ hk => (⟨hk, hk.2⟩ : _ ∧ k_ ≠ gb578))) (fun _ hk => hk.2) (.int .i64 t575)) (fun _ hk => hk.2) (.int .i64 t576)) (fun _ hk => ⟨hk.1.1.1.2, ⟨hk.1.1.2, hk.1.2⟩⟩)⟩, ⟨by (with_reducible repeat (first | refine blk_drewN ?_ _ | refine blk_drew ?_ | refine blk_alloc ?_ _)); refine blk_far ?_ NB570_578.out _; (with_reducible repeat (first | refine blk_drewN ?_ _ | refine blk_drew ?_ | refine blk_alloc ?_ _)); refine blk_far ?_ NB570_578.out _; (with_reducible repeat (first | refine blk_drewN ?_ _ | refine blk_drew ?_ | refine blk_alloc ?_ _)); exact BK570.out⟩, ⟨by (with_reducible repeat (first | refine blk_drewN ?_ _ | refine blk_drew ?_ | refine blk_alloc ?_ _)); refine blk_far ?_ NB574_578.out _; (with_reducible repeat (first | refine blk_drewN ?_ _ | refine blk_drew ?_ | refine blk_alloc ?_ _)); refine blk_far ?_ NB574_578.out _; (with_reducible repeat (first | refine blk_drewN ?_ _ | refine blk_drew ?_ | refine blk_alloc ?_ _)); exact BK574.out⟩, ⟨by (with_reducible repeat (first | refine blk_drewN ?_ _ | refine blk_drew ?_ | refine blk_alloc ?_ _)); refine blk_put (cs := #[.int .i64 t575, .int .i64 0]) ?_ 1 _ rfl; (with_reducible repeat (first | refine blk_drewN ?_ _ | refine blk_drew ?_ | refine blk_alloc ?_ _)); refine blk_put (cs := #[.int .i64 0, .int .i64 0]) ?_ 0 _ rfl; (with_reducible repeat (first | refine blk_drewN ?_ _ | refine blk_drew ?_ | refine blk_alloc ?_ _)); exact BK578.out⟩, ⟨by repeat (first | (with_reducible first | exact HB.out | apply below_alloc | apply pw_below_drewN | apply below_drew1 | refine below_set ?_ GE570.out | refine below_set ?_ GE574.out | refine below_set ?_ GE578.out) | exact HB.out)⟩⟩
     ·rw [if_neg c24] at H
      have c24b0 : (t573 != t577) = false := by simpa using c24
      (try (have c24b1 : decide (t573 = t577) = true := by simpa using c24))
      (try (have c24b2 : (t573 == t577) = true := by simpa using c24))
      clear c24
      (first | rw [c24b0] | (simp only [i64_w, i32_w]; rw [c24b0]) | skip)
      by_cases c25 : (!(t571 == t575) || (!(t572 == t576))) = true
      ·rw [if_pos c25] at H
       have c25b0 : (!(t571 == t575) || (!(t572 == t576))) = true := c25
       clear c25
       have H' := Aside0.mk H
       clear H
       have hnb26 := NB574_570.out
       have hnc26 := NB570_574.out
       have hnb27 := NB574_578.out
       have hnc27 := NB578_574.out
       have hcz28_0 : w20.cell? ⟨gb574, 0, none⟩ = some (.int .i64 t571) := (blk_cell BK574.out 0).trans rfl
       have hcz28_1 : w20.cell? ⟨gb574, 1, none⟩ = some (.int .i64 t572) := (blk_cell BK574.out 1).trans rfl
       have hfz28_0 := blk_frozen BK574.out 0
       have hfz28_1 := blk_frozen BK574.out 1
       have hnb29 := NB578_570.out
       have hnc29 := NB570_578.out
       have hcz30_0 : w20.cell? ⟨gb578, 0, none⟩ = some (.int .i64 0) := (blk_cell BK578.out 0).trans rfl
       have hcz30_1 : w20.cell? ⟨gb578, 1, none⟩ = some (.int .i64 0) := (blk_cell BK578.out 1).trans rfl
       have hfz30_0 := blk_frozen BK578.out 0
       have hfz30_1 := blk_frozen BK578.out 1
       go_wp2
       go_meet
       case rel => exact ⟨_, (true), (by first | rfl | (simp; done) | (simp [*]; done)), H', ⟨by have := HJ2.out; first | omega | exact Nat.le_refl _⟩, ⟨by (with_reducible repeat (first | apply Kd.R_alloc | apply Kd.R_drewN | apply Kd.R_drew)); exact Kd.R_mono (Kd.R_far (p := ⟨gb578, 1, none⟩) (Kd.R_far (p := ⟨gb578, 0, none⟩) (Kd.R_mono HO569.out (fun k_ hk => (⟨hk, hk.2⟩ : _ ∧ k_ ≠ gb578))) (fun _ hk => hk.2) (.int .i64 t575)) (fun _ hk => hk.2) (.int .i64 t576)) (fun _ hk => ⟨hk.1.1.1.2, ⟨hk.1.1.2, hk.1.2⟩⟩)⟩, ⟨by (with_reducible repeat (first | refine blk_drewN ?_ _ | refine blk_drew ?_ | refine blk_alloc ?_ _)); refine blk_far ?_ NB570_578.out _; (with_reducible repeat (first | refine blk_drewN ?_ _ | refine blk_drew ?_ | refine blk_alloc ?_ _)); refine blk_far ?_ NB570_578.out _; (with_reducible repeat (first | refine blk_drewN ?_ _ | refine blk_drew ?_ | refine blk_alloc ?_ _)); exact BK570.out⟩, ⟨by (with_reducible repeat (first | refine blk_drewN ?_ _ | refine blk_drew ?_ | refine blk_alloc ?_ _)); refine blk_far ?_ NB574_578.out _; (with_reducible repeat (first | refine blk_drewN ?_ _ | refine blk_drew ?_ | refine blk_alloc ?_ _)); refine blk_far ?_ NB574_578.out _; (with_reducible repeat (first | refine blk_drewN ?_ _ | refine blk_drew ?_ | refine blk_alloc ?_ _)); exact BK574.out⟩, ⟨by (with_reducible repeat (first | refine blk_drewN ?_ _ | refine blk_drew ?_ | refine blk_alloc ?_ _)); refine blk_put (cs := #[.int .i64 t575, .int .i64 0]) ?_ 1 _ rfl; (with_reducible repeat (first | refine blk_drewN ?_ _ | refine blk_drew ?_ | refine blk_alloc ?_ _)); refine blk_put (cs := #[.int .i64 0, .int .i64 0]) ?_ 0 _ rfl; (with_reducible repeat (first | refine blk_drewN ?_ _ | refine blk_drew ?_ | refine blk_alloc ?_ _)); exact BK578.out⟩, ⟨by repeat (first | (with_reducible first | exact HB.out | apply below_alloc | apply pw_below_drewN | apply below_drew1 | refine below_set ?_ GE570.out | refine below_set ?_ GE574.out | refine below_set ?_ GE578.out) | exact HB.out)⟩⟩
      ·rw [if_neg c25] at H
       have c25b0 : (!(t571 == t575) || (!(t572 == t576))) = false := by simpa using c25
       clear c25
       have H' := Aside0.mk H
       clear H
       have hnb31 := NB574_570.out
       have hnc31 := NB570_574.out
       have hnb32 := NB574_578.out
       have hnc32 := NB578_574.out
       have hcz33_0 : w20.cell? ⟨gb574, 0, none⟩ = some (.int .i64 t571) := (blk_cell BK574.out 0).trans rfl
       have hcz33_1 : w20.cell? ⟨gb574, 1, none⟩ = some (.int .i64 t572) := (blk_cell BK574.out 1).trans rfl
       have hfz33_0 := blk_frozen BK574.out 0
       have hfz33_1 := blk_frozen BK574.out 1
       have hnb34 := NB578_570.out
       have hnc34 := NB570_578.out
       have hcz35_0 : w20.cell? ⟨gb578, 0, none⟩ = some (.int .i64 0) := (blk_cell BK578.out 0).trans rfl
       have hcz35_1 : w20.cell? ⟨gb578, 1, none⟩ = some (.int .i64 0) := (blk_cell BK578.out 1).trans rfl
       have hfz35_0 := blk_frozen BK578.out 0
       have hfz35_1 := blk_frozen BK578.out 1
       go_wp2
       go_meet
       case rel => exact ⟨_, (!t573), (by first | rfl | (simp; done) | (simp [*]; done)), H', ⟨by have := HJ2.out; first | omega | exact Nat.le_refl _⟩, ⟨by (with_reducible repeat (first | apply Kd.R_alloc | apply Kd.R_drewN | apply Kd.R_drew)); exact Kd.R_mono (Kd.R_far (p := ⟨gb578, 1, none⟩) (Kd.R_far (p := ⟨gb578, 0, none⟩) (Kd.R_mono HO569.out (fun k_ hk => (⟨hk, hk.2⟩ : _ ∧ k_ ≠ gb578))) (fun _ hk => hk.2) (.int .i64 t575)) (fun _ hk => hk.2) (.int .i64 t576)) (fun _ hk => ⟨hk.1.1.1.2, ⟨hk.1.1.2, hk.1.2⟩⟩)⟩, ⟨by (with_reducible repeat (first | refine blk_drewN ?_ _ | refine blk_drew ?_ | refine blk_alloc ?_ _)); refine blk_far ?_ NB570_578.out _; (with_reducible repeat (first | refine blk_drewN ?_ _ | refine blk_drew ?_ | refine blk_alloc ?_ _)); refine blk_far ?_ NB570_578.out _; (with_reducible repeat (first | refine blk_drewN ?_ _ | refine blk_drew ?_ | refine blk_alloc ?_ _)); exact BK570.out⟩, ⟨by (with_reducible repeat (first | refine blk_drewN ?_ _ | refine blk_drew ?_ | refine blk_alloc ?_ _)); refine blk_far ?_ NB574_578.out _; (with_reducible repeat (first | refine blk_drewN ?_ _ | refine blk_drew ?_ | refine blk_alloc ?_ _)); refine blk_far ?_ NB574_578.out _; (with_reducible repeat (first | refine blk_drewN ?_ _ | refine blk_drew ?_ | refine blk_alloc ?_ _)); exact BK574.out⟩, ⟨by (with_reducible repeat (first | refine blk_drewN ?_ _ | refine blk_drew ?_ | refine blk_alloc ?_ _)); refine blk_put (cs := #[.int .i64 t575, .int .i64 0]) ?_ 1 _ rfl; (with_reducible repeat (first | refine blk_drewN ?_ _ | refine blk_drew ?_ | refine blk_alloc ?_ _)); refine blk_put (cs := #[.int .i64 0, .int .i64 0]) ?_ 0 _ rfl; (with_reducible repeat (first | refine blk_drewN ?_ _ | refine blk_drew ?_ | refine blk_alloc ?_ _)); exact BK578.out⟩, ⟨by repeat (first | (with_reducible first | exact HB.out | apply below_alloc | apply pw_below_drewN | apply below_drew1 | refine below_set ?_ GE570.out | refine below_set ?_ GE574.out | refine below_set ?_ GE578.out) | exact HB.out)⟩⟩
    case rest =>
     clear HC9
     try clear c1
     try clear c2
     try clear p2
     try clear c3
     try clear c4
     try clear c4b0
     try clear c4b1
     try clear c5
     try clear c11
     try clear c16
     try clear c21
     try clear c22
     try clear c24
     try clear c24b0
     try clear c24b1
     try clear c24b2
     try clear c25
     try clear c25b0
     try clear c26
     try clear c27
     try clear c29
     try clear c31
     try clear c32
     try clear c34
     try clear hcz12_0
     try clear hcz12_1
     try clear hcz17_0
     try clear hcz17_1
     try clear hcz18_0
     try clear hcz18_1
     try clear hcz23_0
     try clear hcz23_1
     try clear hcz28_0
     try clear hcz28_1
     try clear hcz30_0
     try clear hcz30_1
     try clear hcz33_0
     try clear hcz33_1
     try clear hcz35_0
     try clear hcz35_1
     try clear hfz12_0
     try clear hfz12_1
     try clear hfz17_0
     try clear hfz17_1
     try clear hfz18_0
     try clear hfz18_1
     try clear hfz23_0
     try clear hfz23_1
     try clear hfz28_0
     try clear hfz28_1
     try clear hfz30_0
     try clear hfz30_1
     try clear hfz33_0
     try clear hfz33_1
     try clear hfz35_0
     try clear hfz35_1
     try clear p2
     obtain ⟨kq, x58_8, rfl, HA, HJ8, HO_6, BK570, BK574, BK578, HB⟩ := hcut
     cases kq with
     | zero => exact absurd HA.out (by simp [laws_FnTravel.j1])
     | succ kj8 =>
      have H := HA.out
      clear HA
      simp only [laws_FnTravel.j1] at H
      by_cases c36 : x58_8 = true
      ·subst c36
       have H1 : (if (t573 == t577) = true then (some (t571 == t575 && (t572 == t576))) else (some false)) = some r := by rw [if_pos rfl] at H; exact H
       clear H
       have H := H1
       clear H1
       by_cases c37 : (t573 == t577) = true
       ·rw [if_pos c37] at H
        have c37b0 : (t573 == t577) = true := c37
        (try (have c37b1 : decide (t573 = t577) = true := by simpa using c37))
        (try (have c37b2 : (t573 == t577) = true := by simpa using c37))
        clear c37
        obtain rfl := Option.some.inj H
        have hnb38 := NB574_570.out
        have hnc38 := NB570_574.out
        have hnb39 := NB574_578.out
        have hnc39 := NB578_574.out
        have hcz40_0 : wc.cell? ⟨gb574, 0, none⟩ = some (.int .i64 t571) := (blk_cell BK574.out 0).trans rfl
        have hcz40_1 : wc.cell? ⟨gb574, 1, none⟩ = some (.int .i64 t572) := (blk_cell BK574.out 1).trans rfl
        have hfz40_0 := blk_frozen BK574.out 0
        have hfz40_1 := blk_frozen BK574.out 1
        have hnb41 := NB578_570.out
        have hnc41 := NB570_578.out
        have hcz42_0 : wc.cell? ⟨gb578, 0, none⟩ = some (.int .i64 t575) := (blk_cell BK578.out 0).trans rfl
        have hcz42_1 : wc.cell? ⟨gb578, 1, none⟩ = some (.int .i64 t576) := (blk_cell BK578.out 1).trans rfl
        have hfz42_0 := blk_frozen BK578.out 0
        have hfz42_1 := blk_frozen BK578.out 1
        go_wp2
        go_ret
        exact ⟨by first | rfl | (simp [errW_none, errW_some] <;> rfl) | (simp [*, errW_none, errW_some] <;> rfl), by repeat (first | (with_reducible first | exact HB.out | apply below_alloc | apply pw_below_drewN | apply below_drew1 | refine below_set ?_ GE570.out | refine below_set ?_ GE574.out | refine below_set ?_ GE578.out) | exact HB.out)⟩
       ·rw [if_neg c37] at H
        have c37b0 : (t573 == t577) = false := by simpa using c37
        (try (have c37b1 : decide (t573 = t577) = false := by simpa using c37))
        (try (have c37b2 : (t573 == t577) = false := by simpa using c37))
        (try (have c37b3 : ¬ (t573 = t577) := by simpa using c37))
        clear c37
        obtain rfl := Option.some.inj H
        go_wp2
        go_ret
        exact ⟨by first | rfl | (simp [errW_none, errW_some] <;> rfl) | (simp [*, errW_none, errW_some] <;> rfl), by repeat (first | (with_reducible first | exact HB.out | apply below_alloc | apply pw_below_drewN | apply below_drew1 | refine below_set ?_ GE570.out | refine below_set ?_ GE574.out | refine below_set ?_ GE578.out) | exact HB.out)⟩
      ·replace c36 := Bool.eq_false_iff.mpr c36
       subst c36
       have H1 : (if (t567.length : Int) = 0 then (none) else (if 0 ≤ (wrap64 (1 + ((l1.length : Int) % (t567.length : Int)))) then (if (wrap64 (1 + ((l1.length : Int) % (t567.length : Int)))) ≤ (t567.length : Int) then ((impl_TravelEnd.f kj8 t565 t566 (t567.take ((wrap64 (1 + ((l1.length : Int) % (t567.length : Int)))) : Int).toNat)).bind fun bt583 => ((impl_TravelGap.f kj8 t567).bind fun bt587 => (laws_FnTravel.l0 kj8 t567 (wrap64 (1 + ((l1.length : Int) % (t567.length : Int)))) bt583.2.2 bt587.2.2 (([] : List (S30))) (wrap64 ((t567.length : Int) - 1)) t565 t566 t571 t572 bt583.1 bt583.2.1 bt587.1 bt587.2.1))) else (none)) else (none))) = some r := by rw [if_neg (show ¬ (false = true) by decide)] at H; exact H
       clear H
       have H := H1
       clear H1
       by_cases c43 : (t567.length : Int) = 0
       ·rw [if_pos c43] at H
        exact absurd H (by simp)
       ·rw [if_neg c43] at H
        have c43b0 : ((t567.length : Int) == 0) = false := beq_eq_false_iff_ne.mpr c43
        have c43b1 : ((t567.length : Int) != 0) = true := bne_iff_ne.mpr c43
        have c43b2 : ¬ (t567 = []) := fun h_ => c43 (by rw [h_]; rfl)
        obtain ⟨ji44, hji44⟩ : ∃ j_ : Int, (wrap64 (1 + ((l1.length : Int) % (t567.length : Int)))) = j_ := ⟨_, rfl⟩
        replace H : (if 0 ≤ (ji44) then (if (ji44) ≤ (t567.length : Int) then ((impl_TravelEnd.f kj8 t565 t566 (t567.take ((ji44) : Int).toNat)).bind fun bt583 => ((impl_TravelGap.f kj8 t567).bind fun bt587 => (laws_FnTravel.l0 kj8 t567 ji44 bt583.2.2 bt587.2.2 (([] : List (S30))) (wrap64 ((t567.length : Int) - 1)) t565 t566 t571 t572 bt583.1 bt583.2.1 bt587.1 bt587.2.1))) else (none)) else (none)) = some r := by first | (rw [hji44] at H; exact H) | (simp only [hji44] at H ⊢; exact H)
        have hji44w : (IntKind.i64.wrap (1 + ((l1.length : Int) % (t567.length : Int)))) = ji44 := (i64_w _).trans hji44
        by_cases c45 : 0 ≤ (ji44)
        ·rw [if_pos c45] at H
         have c45b0 := eq_true c45
         have c45b1 : decide (0 ≤ (ji44)) = true := decide_eq_true c45
         clear c45
         by_cases c46 : (ji44) ≤ (t567.length : Int)
         ·rw [if_pos c46] at H
          have c46b0 := eq_true c46
          have c46b1 : decide ((ji44) ≤ (t567.length : Int)) = true := decide_eq_true c46
          clear c46
          obtain ⟨y579, hy579⟩ : ∃ y_ : List (S30), y_ = (t567.take ((ji44) : Int).toNat) := ⟨_, rfl⟩
          replace H : ((impl_TravelEnd.f kj8 t565 t566 y579).bind fun bt583 => ((impl_TravelGap.f kj8 t567).bind fun bt587 => (laws_FnTravel.l0 kj8 t567 ji44 bt583.2.2 bt587.2.2 (([] : List (S30))) (wrap64 ((t567.length : Int) - 1)) t565 t566 t571 t572 bt583.1 bt583.2.1 bt587.1 bt587.2.1))) = some r := by first | (rw [hy579]; with_reducible exact H) | (have H2_ := (Option.bind_some _ _).symm.trans H; rw [hy579]; with_reducible exact H2_) | (have H2_ := (Option.bind_some _ _).symm.trans H; with_reducible exact H2_) | with_reducible exact H | (rw [hy579]; exact H) | exact H
          have Ny579 := Aside0.mk hy579
          clear hy579
          replace H := Option.bind_eq_some_iff.mp H
          obtain ⟨⟨t583, t584, t585⟩, A470, H⟩ := H
          replace H : ((impl_TravelGap.f kj8 t567).bind fun bt587 => (laws_FnTravel.l0 kj8 t567 ji44 t585 bt587.2.2 (([] : List (S30))) (wrap64 ((t567.length : Int) - 1)) t565 t566 t571 t572 t583 t584 bt587.1 bt587.2.1)) = some r := H
          have A47 := Aside0.mk A470
          clear A470
          replace H := Option.bind_eq_some_iff.mp H
          obtain ⟨⟨t587, t588, t589⟩, A480, H⟩ := H
          replace H : (laws_FnTravel.l0 kj8 t567 ji44 t585 t589 (([] : List (S30))) (wrap64 ((t567.length : Int) - 1)) t565 t566 t571 t572 t583 t584 t587 t588) = some r := H
          have A48 := Aside0.mk A480
          clear A480
          obtain ⟨y591, hy591⟩ : ∃ y_ : List (S30), y_ = (([] : List (S30))) := ⟨_, rfl⟩
          replace H : (laws_FnTravel.l0 kj8 t567 ji44 t585 t589 y591 (wrap64 ((t567.length : Int) - 1)) t565 t566 t571 t572 t583 t584 t587 t588) = some r := by first | (rw [hy591]; with_reducible exact H) | (have H2_ := (Option.bind_some _ _).symm.trans H; rw [hy591]; with_reducible exact H2_) | (have H2_ := (Option.bind_some _ _).symm.trans H; with_reducible exact H2_) | with_reducible exact H | (rw [hy591]; exact H) | exact H
          have Ny591 := Aside0.mk hy591
          clear hy591
          have H' := Aside0.mk H
          clear H
          try go_wp2
          have n0_ := Aside0.mk (Kd.R_drew HO_6.out)
          have n1_ := Aside0.mk (blk_drew BK570.out)
          have n2_ := Aside0.mk (blk_drew BK574.out)
          have n3_ := Aside0.mk (blk_drew BK578.out)
          have n4_ := Aside0.mk (below_drew1 HB.out)
          clear HO_6
          clear BK570
          clear BK574
          clear BK578
          clear HB
          have HO_6 := n0_
          have BK570 := n1_
          have BK574 := n2_
          have BK578 := n3_
          have HB := n4_
          clear n0_ n1_ n2_ n3_ n4_
          have q50 : ((ji44) : Int) ≤ ((t567.length : Int) : Int) := of_decide_eq_true (by first | (with_reducible assumption) | assumption)
          obtain ⟨i050, hi050, _, hsz50, _⟩ := info_parts info30
          have hroom50 : t567.length ≤ co13 := (Kd.R_reads' HO_6.out).2.1
          have hC50 : Kd.C k30 _ Ao13 t567.length t567 := (Kd.R_reads' HO_6.out).2.2
          have hcut50 := cut_to (P := Try.prog) 25 30 .i64 Try.underlying25 hi050 Ao13 t567.length co13 (ji44) (of_decide_eq_true (by first | (with_reducible assumption) | assumption)) q50 hroom50
          have hr50 := Kd.C_take (m := ((ji44) : Int).toNat) hC50 (by omega)
          have hy50 : y579.length = ((ji44) : Int).toNat := (by rw [Ny579.out, List.length_take]; omega)
          rw [← Ny579.out] at hr50
          rw [← hy50] at hcut50
          have HR582 := Aside0.mk hr50
          have HC582 := Aside0.mk (show y579.length ≤ co13 from by omega)
          clear hr50 hC50 hroom50 hi050 hsz50
          have KY50 := Aside0.mk hy50
          clear hy50
          have KL50 := Aside0.mk (show ((ji44) : Int).toNat ≤ t567.length from by omega)
          replace q50 := eq_true q50
          refine start_ (n := 11) (S := fun w' => w'.cell? ⟨gb570, 0, none⟩ = some (.int .i64 t565) ∧ w'.cell? ⟨gb570, 1, none⟩ = some (.int .i64 t566)) (ds := []) #[false, false, false, false, false, false, false, false, false, false, false] (by kernel_rfl) rfl rfl ⟨(blk_cell BK570.out 0).trans rfl, (blk_cell BK570.out 1).trans rfl⟩ (fun hHeld => ?_); refine with_tabW laws_FnTravel.tab9 laws_FnTravel.bits9 (fun HT_ HW_ => ?_)
          generalize wc.drew = w49 at HO_6 BK570 BK574 BK578 HB HR582 hHeld ⊢
          refine pure_ (i := 1) (N := some 75) (v := ?_) (a' := ?_) #[false, true, false, false, false, false, false, false, false, false, false] rfl rfl (any_of HT_.out (by kernel_rfl)) (fun _ _ _ h => h) (Or.inl ⟨by rfl, ?_⟩) ?_ ?_
          rotate_left
          ·intro w'
           go_simp
           with_reducible rfl
          rotate_left
          ·simp only [Act.put, List.setIfInBounds_toArray, List.set_cons_zero, List.set_cons_succ, i64_w, i32_w]
           rfl
          refine pure_ (i := 2) (N := some 76) (v := ?_) (a' := ?_) #[false, true, true, false, false, false, false, false, false, false, false] rfl rfl (any_of HT_.out (by kernel_rfl)) (fun _ _ _ h => h) (Or.inl ⟨by rfl, ?_⟩) ?_ ?_
          rotate_left
          ·intro w'
           go_simp
           with_reducible rfl
          rotate_left
          ·simp only [Act.put, List.setIfInBounds_toArray, List.set_cons_zero, List.set_cons_succ, i64_w, i32_w]
           rfl
          refine pure_ (i := 3) (N := some 77) (v := ?_) (a' := ?_) #[false, true, true, true, false, false, false, false, false, false, false] rfl rfl (any_of HT_.out (by kernel_rfl)) (fun _ _ _ h => h) (Or.inl ⟨by rfl, ?_⟩) ?_ ?_
          rotate_left
          ·intro w'
           go_simp
           with_reducible rfl
          rotate_left
          ·simp only [Act.put, List.setIfInBounds_toArray, List.set_cons_zero, List.set_cons_succ, i64_w, i32_w]
           rfl
          refine take_ (i := 0) (N := some 74) (v := ?_) (a' := ?_) #[true, true, true, true, false, false, false, false, false, false, false] rfl rfl (take_ofW HT_.out HW_.out (by kernel_rfl)) (fun _ _ _ h => h) (Or.inl ⟨by rfl, ?_⟩) hHeld ?_ ?_
          rotate_left
          ·rintro w' ⟨s0, s1⟩
           go_simp
           with_reducible rfl
          rotate_left
          ·simp only [Act.put, List.setIfInBounds_toArray, List.set_cons_zero, List.set_cons_succ, i64_w, i32_w]
           rfl
          refine join_ (σ := Nat) 2 #[true, true, true, true, true, true, true, true, true, false, false] (fun s_ => [(78, .tuple #[.agg #[.int .i64 t583, .int .i64 t584], .bool t585]), (12, .pointer (some ⟨s_, 0, none⟩)), (73, .tuple #[.agg #[.int .i64 t583, .int .i64 t584], .bool t585]), (79, .agg #[.int .i64 t583, .int .i64 t584]), (80, .bool t585)]) (fun s_ w' => (w'.cell? ⟨gb570, 0, none⟩ = some (.int .i64 t565) ∧ w'.cell? ⟨gb570, 1, none⟩ = some (.int .i64 t566)) ∧ (Kd.R k30 30 w' w.heap.size (fun k_ => k_ ≠ gb570 ∧ k_ ≠ gb574 ∧ k_ ≠ gb578 ∧ k_ ≠ s_) (.slice Ao13 t567.length co13) t567) ∧ (w'.heap[gb570]? = some (.cells #[.int .i64 t565, .int .i64 t566] 30 (0, 0))) ∧ (w'.heap[gb574]? = some (.cells #[.int .i64 t571, .int .i64 t572] 30 (0, 0))) ∧ (w'.heap[gb578]? = some (.cells #[.int .i64 t575, .int .i64 t576] 30 (0, 0))) ∧ (w'.heap[s_]? = some (.cells #[.int .i64 0, .int .i64 0] 30 (0, 0))) ∧ (w.heap.size ≤ s_) ∧ (w.heap.size ≤ s_) ∧ (gb570 ≠ s_) ∧ (s_ ≠ gb570) ∧ (gb574 ≠ s_) ∧ (s_ ≠ gb574) ∧ (gb578 ≠ s_) ∧ (s_ ≠ gb578) ∧ (Below w.heap.size w w')) ?_ ?_
          rotate_left
          ·intro hCont
           refine two_ (i := 4) (j := 8) (Ni := some 78) (Nj := some 12) #[true, true, true, true, true, false, false, false, false, false, false] #[true, true, true, true, false, false, false, false, true, false, false] rfl rfl rfl rfl (two_of HT_.out (by kernel_rfl)) (by decide) (by decide) (fun K hK => ?_) (fun K hK => ?_)
           ·skip
            refine goes_ Try.func26 (by kernel_rfl) rfl #[.agg #[.int .i64 t565, .int .i64 t566], .slice Ao13 y579.length co13] (by rfl) rfl rfl (by (try simp only [List.map_toArray, List.map_cons, List.map_nil]); first | done | rfl | (simp only [List.length_drop, List.length_take]; rfl)) ?_
            with_reducible refine (impl_TravelEnd.calls kj8 t565 t566 _ _ y579 t583 t584 t585 _ ?side1 ?side2 A47.out).mono ?_
            (case side1 => repeat (first | exact (by repeat (first | (with_reducible exact HR582.out) | (with_reducible refine Kd.C_alloc ?_ _) | (with_reducible refine Kd.C_drewN ?_ _) | (with_reducible refine Kd.C_drew ?_) | exact HR582.out)) | (with_reducible refine Kd.C_alloc ?_ _) | (with_reducible refine Kd.C_drewN ?_ _) | (with_reducible refine Kd.C_drew ?_)))
            (case side2 => exact HC582.out)
            rintro e w51 ⟨rfl, hb⟩
            refine ⟨_, rfl, ?_⟩
            have n0_ := Aside0.mk (Kd.R_below (by (with_reducible repeat (first | apply Kd.R_alloc | apply Kd.R_drewN | apply Kd.R_drew)); exact HO_6.out) hb)
            have n1_ := Aside0.mk (blk_below (g := gb570) (o := .cells #[.int .i64 t565, .int .i64 t566] 30 (0, 0)) (by (with_reducible repeat (first | refine blk_drewN ?_ _ | refine blk_drew ?_ | refine blk_alloc ?_ _)); exact BK570.out) hb)
            have n2_ := Aside0.mk (blk_below (g := gb574) (o := .cells #[.int .i64 t571, .int .i64 t572] 30 (0, 0)) (by (with_reducible repeat (first | refine blk_drewN ?_ _ | refine blk_drew ?_ | refine blk_alloc ?_ _)); exact BK574.out) hb)
            have n3_ := Aside0.mk (blk_below (g := gb578) (o := .cells #[.int .i64 t575, .int .i64 t576] 30 (0, 0)) (by (with_reducible repeat (first | refine blk_drewN ?_ _ | refine blk_drew ?_ | refine blk_alloc ?_ _)); exact BK578.out) hb)
            have n4_ := Aside0.mk (Kd.C_below (by repeat (first | (with_reducible exact HR582.out) | (with_reducible refine Kd.C_alloc ?_ _) | (with_reducible refine Kd.C_drewN ?_ _) | (with_reducible refine Kd.C_drew ?_) | exact HR582.out)) hb)
            have n5_ := Aside0.mk (below_step (by repeat (first | (with_reducible first | exact HB.out | apply below_alloc | apply pw_below_drewN | apply below_drew1 | refine below_set ?_ GE570.out | refine below_set ?_ GE574.out | refine below_set ?_ GE578.out) | exact HB.out)) hb)
            clear HO_6
            clear BK570
            clear BK574
            clear BK578
            clear HR582
            clear HB
            have HO_6 := n0_
            have BK570 := n1_
            have BK574 := n2_
            have BK578 := n3_
            have HR582 := n4_
            have HB := n5_
            clear n0_ n1_ n2_ n3_ n4_ n5_
            (try clear hb)
            (try clear hb2)
            (try clear hk)
            (try clear hi)
            refine hK.out _ _ ⟨(blk_cell BK570.out 0).trans rfl, (blk_cell BK570.out 1).trans rfl⟩ (fun hHeld => ?_)
            clear hK K
            refine norm_ (a' := ?_) ?_ ?_
            rotate_left
            ·show Act.put _ (some 78) _ = _
             simp only [Act.put, List.setIfInBounds_toArray, List.set_cons_zero, List.set_cons_succ, i64_w, i32_w]
             rfl
            refine pure_ (i := 5) (N := some 73) (v := ?_) (a' := ?_) #[true, true, true, true, true, true, false, false, false, false, false] rfl rfl (any_of HT_.out (by kernel_rfl)) (fun _ _ _ h => h) (Or.inl ⟨by rfl, ?_⟩) ?_ ?_
            rotate_left
            ·intro w'
             go_simp
             with_reducible rfl
            rotate_left
            ·simp only [Act.put, List.setIfInBounds_toArray, List.set_cons_zero, List.set_cons_succ, i64_w, i32_w]
             rfl
            refine pure_ (i := 6) (N := some 79) (v := ?_) (a' := ?_) #[true, true, true, true, true, true, true, false, false, false, false] rfl rfl (any_of HT_.out (by kernel_rfl)) (fun _ _ _ h => h) (Or.inl ⟨by rfl, ?_⟩) ?_ ?_
            rotate_left
            ·intro w'
             go_simp
             with_reducible rfl
            rotate_left
            ·simp only [Act.put, List.setIfInBounds_toArray, List.set_cons_zero, List.set_cons_succ, i64_w, i32_w]
             rfl
            refine pure_ (i := 7) (N := some 80) (v := ?_) (a' := ?_) #[true, true, true, true, true, true, true, true, false, false, false] rfl rfl (any_of HT_.out (by kernel_rfl)) (fun _ _ _ h => h) (Or.inl ⟨by rfl, ?_⟩) ?_ ?_
            rotate_left
            ·intro w'
             go_simp
             with_reducible rfl
            rotate_left
            ·simp only [Act.put, List.setIfInBounds_toArray, List.set_cons_zero, List.set_cons_succ, i64_w, i32_w]
             rfl
            refine one_ (i := 8) (N := some 12) #[true, true, true, true, true, true, true, true, true, false, false] rfl rfl (one_of HT_.out (by kernel_rfl)) (by decide) (fun K hK => ?_)
            refine box_step ?hg (N := 12) ?hd (cs := #[.int .i64 0, .int .i64 0]) (t := 30) ?hr ?_; (case hd => rfl); (case hg => rfl); (case hr => first | (go_simp; done) | (go_simp; rfl))
            intro gb586 hg w52 hbox hb
            have n0_ := Aside0.mk (Kd.R_below (Kd.R_elderB (by (with_reducible repeat (first | apply Kd.R_alloc | apply Kd.R_drewN | apply Kd.R_drew)); exact HO_6.out) gb586 (Nat.le_of_eq hg.symm)) hb)
            have n1_ := Aside0.mk (blk_below (g := gb570) (o := .cells #[.int .i64 t565, .int .i64 t566] 30 (0, 0)) (by (with_reducible repeat (first | refine blk_drewN ?_ _ | refine blk_drew ?_ | refine blk_alloc ?_ _)); exact BK570.out) hb)
            have n2_ := Aside0.mk (blk_below (g := gb574) (o := .cells #[.int .i64 t571, .int .i64 t572] 30 (0, 0)) (by (with_reducible repeat (first | refine blk_drewN ?_ _ | refine blk_drew ?_ | refine blk_alloc ?_ _)); exact BK574.out) hb)
            have n3_ := Aside0.mk (blk_below (g := gb578) (o := .cells #[.int .i64 t575, .int .i64 t576] 30 (0, 0)) (by (with_reducible repeat (first | refine blk_drewN ?_ _ | refine blk_drew ?_ | refine blk_alloc ?_ _)); exact BK578.out) hb)
            have n4_ := Aside0.mk (Kd.C_below (by repeat (first | (with_reducible exact HR582.out) | (with_reducible refine Kd.C_alloc ?_ _) | (with_reducible refine Kd.C_drewN ?_ _) | (with_reducible refine Kd.C_drew ?_) | exact HR582.out)) hb)
            have n5_ := Aside0.mk (below_step (by repeat (first | (with_reducible first | exact HB.out | apply below_alloc | apply pw_below_drewN | apply below_drew1 | refine below_set ?_ GE570.out | refine below_set ?_ GE574.out | refine below_set ?_ GE578.out) | exact HB.out)) hb)
            have n6_ := Aside0.mk (hbox)
            have n7_ := Aside0.mk ((by rw [hg]; exact (below_size (by repeat (first | (with_reducible first | exact HB.out | apply below_alloc | apply pw_below_drewN | apply below_drew1 | refine below_set ?_ GE570.out | refine below_set ?_ GE574.out | refine below_set ?_ GE578.out) | exact HB.out))) : w.heap.size ≤ gb586))
            have n8_ := Aside0.mk ((by rw [hg]; exact (below_size (by repeat (first | (with_reducible first | exact HB.out | apply below_alloc | apply pw_below_drewN | apply below_drew1 | refine below_set ?_ GE570.out | refine below_set ?_ GE574.out | refine below_set ?_ GE578.out) | exact HB.out))) : w.heap.size ≤ gb586))
            have n9_ := Aside0.mk ((by rw [hg]; exact Nat.ne_of_lt (blk_lt (g := gb570) (o := .cells #[.int .i64 t565, .int .i64 t566] 30 (0, 0)) (by (with_reducible repeat (first | refine blk_drewN ?_ _ | refine blk_drew ?_ | refine blk_alloc ?_ _)); exact BK570.out)) : gb570 ≠ gb586))
            have n10_ := Aside0.mk ((by rw [hg]; exact Nat.ne_of_gt (blk_lt (g := gb570) (o := .cells #[.int .i64 t565, .int .i64 t566] 30 (0, 0)) (by (with_reducible repeat (first | refine blk_drewN ?_ _ | refine blk_drew ?_ | refine blk_alloc ?_ _)); exact BK570.out)) : gb586 ≠ gb570))
            have n11_ := Aside0.mk ((by rw [hg]; exact Nat.ne_of_lt (blk_lt (g := gb574) (o := .cells #[.int .i64 t571, .int .i64 t572] 30 (0, 0)) (by (with_reducible repeat (first | refine blk_drewN ?_ _ | refine blk_drew ?_ | refine blk_alloc ?_ _)); exact BK574.out)) : gb574 ≠ gb586))
            have n12_ := Aside0.mk ((by rw [hg]; exact Nat.ne_of_gt (blk_lt (g := gb574) (o := .cells #[.int .i64 t571, .int .i64 t572] 30 (0, 0)) (by (with_reducible repeat (first | refine blk_drewN ?_ _ | refine blk_drew ?_ | refine blk_alloc ?_ _)); exact BK574.out)) : gb586 ≠ gb574))
            have n13_ := Aside0.mk ((by rw [hg]; exact Nat.ne_of_lt (blk_lt (g := gb578) (o := .cells #[.int .i64 t575, .int .i64 t576] 30 (0, 0)) (by (with_reducible repeat (first | refine blk_drewN ?_ _ | refine blk_drew ?_ | refine blk_alloc ?_ _)); exact BK578.out)) : gb578 ≠ gb586))
            have n14_ := Aside0.mk ((by rw [hg]; exact Nat.ne_of_gt (blk_lt (g := gb578) (o := .cells #[.int .i64 t575, .int .i64 t576] 30 (0, 0)) (by (with_reducible repeat (first | refine blk_drewN ?_ _ | refine blk_drew ?_ | refine blk_alloc ?_ _)); exact BK578.out)) : gb586 ≠ gb578))
            clear HO_6
            clear BK570
            clear BK574
            clear BK578
            clear HR582
            clear HB
            have HO_6 := n0_
            have BK570 := n1_
            have BK574 := n2_
            have BK578 := n3_
            have HR582 := n4_
            have HB := n5_
            have BK586 := n6_
            have GW586 := n7_
            have GE586 := n8_
            have NB570_586 := n9_
            have NB586_570 := n10_
            have NB574_586 := n11_
            have NB586_574 := n12_
            have NB578_586 := n13_
            have NB586_578 := n14_
            clear n0_ n1_ n2_ n3_ n4_ n5_ n6_ n7_ n8_ n9_ n10_ n11_ n12_ n13_ n14_
            clear hb hbox hg
            refine hK.out _ _ ⟨(blk_cell BK570.out 0).trans rfl, (blk_cell BK570.out 1).trans rfl⟩ (fun hHeld => ?_)
            clear hK K
            refine norm_ (a' := ?_) ?_ ?_
            rotate_left
            ·show Act.put _ (some 12) _ = _
             simp only [Act.put, List.setIfInBounds_toArray, List.set_cons_zero, List.set_cons_succ, i64_w, i32_w]
             rfl
            exact norm_ (by simp only [putAll, Act.put, List.setIfInBounds_toArray, List.set_cons_zero, List.set_cons_succ]) (hCont (gb586) _ ⟨hHeld, (by (with_reducible repeat (first | apply Kd.R_alloc | apply Kd.R_drewN | apply Kd.R_drew)); exact Kd.R_mono HO_6.out (fun _ hk => ⟨hk.1.1, ⟨hk.1.2.1, ⟨hk.1.2.2, hk.2⟩⟩⟩)), (by (with_reducible repeat (first | refine blk_drewN ?_ _ | refine blk_drew ?_ | refine blk_alloc ?_ _)); exact BK570.out), (by (with_reducible repeat (first | refine blk_drewN ?_ _ | refine blk_drew ?_ | refine blk_alloc ?_ _)); exact BK574.out), (by (with_reducible repeat (first | refine blk_drewN ?_ _ | refine blk_drew ?_ | refine blk_alloc ?_ _)); exact BK578.out), (by (with_reducible repeat (first | refine blk_drewN ?_ _ | refine blk_drew ?_ | refine blk_alloc ?_ _)); exact BK586.out), GW586.out, GE586.out, NB570_586.out, NB586_570.out, NB574_586.out, NB586_574.out, NB578_586.out, NB586_578.out, (by repeat (first | (with_reducible first | exact HB.out | apply below_alloc | apply pw_below_drewN | apply below_drew1 | refine below_set ?_ GE570.out | refine below_set ?_ GE574.out | refine below_set ?_ GE578.out | refine below_set ?_ GE586.out) | exact HB.out))⟩)
           ·skip
            refine box_step ?hg (N := 12) ?hd (cs := #[.int .i64 0, .int .i64 0]) (t := 30) ?hr ?_; (case hd => rfl); (case hg => rfl); (case hr => first | (go_simp; done) | (go_simp; rfl))
            intro gb586 hg w51 hbox hb
            have n0_ := Aside0.mk (Kd.R_below (Kd.R_elderB (by (with_reducible repeat (first | apply Kd.R_alloc | apply Kd.R_drewN | apply Kd.R_drew)); exact HO_6.out) gb586 (Nat.le_of_eq hg.symm)) hb)
            have n1_ := Aside0.mk (blk_below (g := gb570) (o := .cells #[.int .i64 t565, .int .i64 t566] 30 (0, 0)) (by (with_reducible repeat (first | refine blk_drewN ?_ _ | refine blk_drew ?_ | refine blk_alloc ?_ _)); exact BK570.out) hb)
            have n2_ := Aside0.mk (blk_below (g := gb574) (o := .cells #[.int .i64 t571, .int .i64 t572] 30 (0, 0)) (by (with_reducible repeat (first | refine blk_drewN ?_ _ | refine blk_drew ?_ | refine blk_alloc ?_ _)); exact BK574.out) hb)
            have n3_ := Aside0.mk (blk_below (g := gb578) (o := .cells #[.int .i64 t575, .int .i64 t576] 30 (0, 0)) (by (with_reducible repeat (first | refine blk_drewN ?_ _ | refine blk_drew ?_ | refine blk_alloc ?_ _)); exact BK578.out) hb)
            have n4_ := Aside0.mk (Kd.C_below (by repeat (first | (with_reducible exact HR582.out) | (with_reducible refine Kd.C_alloc ?_ _) | (with_reducible refine Kd.C_drewN ?_ _) | (with_reducible refine Kd.C_drew ?_) | exact HR582.out)) hb)
            have n5_ := Aside0.mk (below_step (by repeat (first | (with_reducible first | exact HB.out | apply below_alloc | apply pw_below_drewN | apply below_drew1 | refine below_set ?_ GE570.out | refine below_set ?_ GE574.out | refine below_set ?_ GE578.out) | exact HB.out)) hb)
            have n6_ := Aside0.mk (hbox)
            have n7_ := Aside0.mk ((by rw [hg]; exact (below_size (by repeat (first | (with_reducible first | exact HB.out | apply below_alloc | apply pw_below_drewN | apply below_drew1 | refine below_set ?_ GE570.out | refine below_set ?_ GE574.out | refine below_set ?_ GE578.out) | exact HB.out))) : w.heap.size ≤ gb586))
            have n8_ := Aside0.mk ((by rw [hg]; exact (below_size (by repeat (first | (with_reducible first | exact HB.out | apply below_alloc | apply pw_below_drewN | apply below_drew1 | refine below_set ?_ GE570.out | refine below_set ?_ GE574.out | refine below_set ?_ GE578.out) | exact HB.out))) : w.heap.size ≤ gb586))
            have n9_ := Aside0.mk ((by rw [hg]; exact Nat.ne_of_lt (blk_lt (g := gb570) (o := .cells #[.int .i64 t565, .int .i64 t566] 30 (0, 0)) (by (with_reducible repeat (first | refine blk_drewN ?_ _ | refine blk_drew ?_ | refine blk_alloc ?_ _)); exact BK570.out)) : gb570 ≠ gb586))
            have n10_ := Aside0.mk ((by rw [hg]; exact Nat.ne_of_gt (blk_lt (g := gb570) (o := .cells #[.int .i64 t565, .int .i64 t566] 30 (0, 0)) (by (with_reducible repeat (first | refine blk_drewN ?_ _ | refine blk_drew ?_ | refine blk_alloc ?_ _)); exact BK570.out)) : gb586 ≠ gb570))
            have n11_ := Aside0.mk ((by rw [hg]; exact Nat.ne_of_lt (blk_lt (g := gb574) (o := .cells #[.int .i64 t571, .int .i64 t572] 30 (0, 0)) (by (with_reducible repeat (first | refine blk_drewN ?_ _ | refine blk_drew ?_ | refine blk_alloc ?_ _)); exact BK574.out)) : gb574 ≠ gb586))
            have n12_ := Aside0.mk ((by rw [hg]; exact Nat.ne_of_gt (blk_lt (g := gb574) (o := .cells #[.int .i64 t571, .int .i64 t572] 30 (0, 0)) (by (with_reducible repeat (first | refine blk_drewN ?_ _ | refine blk_drew ?_ | refine blk_alloc ?_ _)); exact BK574.out)) : gb586 ≠ gb574))
            have n13_ := Aside0.mk ((by rw [hg]; exact Nat.ne_of_lt (blk_lt (g := gb578) (o := .cells #[.int .i64 t575, .int .i64 t576] 30 (0, 0)) (by (with_reducible repeat (first | refine blk_drewN ?_ _ | refine blk_drew ?_ | refine blk_alloc ?_ _)); exact BK578.out)) : gb578 ≠ gb586))
            have n14_ := Aside0.mk ((by rw [hg]; exact Nat.ne_of_gt (blk_lt (g := gb578) (o := .cells #[.int .i64 t575, .int .i64 t576] 30 (0, 0)) (by (with_reducible repeat (first | refine blk_drewN ?_ _ | refine blk_drew ?_ | refine blk_alloc ?_ _)); exact BK578.out)) : gb586 ≠ gb578))
            clear HO_6
            clear BK570
            clear BK574
            clear BK578
            clear HR582
            clear HB
            have HO_6 := n0_
            have BK570 := n1_
            have BK574 := n2_
            have BK578 := n3_
            have HR582 := n4_
            have HB := n5_
            have BK586 := n6_
            have GW586 := n7_
            have GE586 := n8_
            have NB570_586 := n9_
            have NB586_570 := n10_
            have NB574_586 := n11_
            have NB586_574 := n12_
            have NB578_586 := n13_
            have NB586_578 := n14_
            clear n0_ n1_ n2_ n3_ n4_ n5_ n6_ n7_ n8_ n9_ n10_ n11_ n12_ n13_ n14_
            clear hb hbox hg
            refine hK.out _ _ ⟨(blk_cell BK570.out 0).trans rfl, (blk_cell BK570.out 1).trans rfl⟩ (fun hHeld => ?_)
            clear hK K
            refine norm_ (a' := ?_) ?_ ?_
            rotate_left
            ·show Act.put _ (some 12) _ = _
             simp only [Act.put, List.setIfInBounds_toArray, List.set_cons_zero, List.set_cons_succ, i64_w, i32_w]
             rfl
            refine one_ (i := 4) (N := some 78) #[true, true, true, true, true, false, false, false, true, false, false] rfl rfl (one_of HT_.out (by kernel_rfl)) (by decide) (fun K hK => ?_)
            refine goes_ Try.func26 (by kernel_rfl) rfl #[.agg #[.int .i64 t565, .int .i64 t566], .slice Ao13 y579.length co13] (by rfl) rfl rfl (by (try simp only [List.map_toArray, List.map_cons, List.map_nil]); first | done | rfl | (simp only [List.length_drop, List.length_take]; rfl)) ?_
            with_reducible refine (impl_TravelEnd.calls kj8 t565 t566 _ _ y579 t583 t584 t585 _ ?side1 ?side2 A47.out).mono ?_
            (case side1 => repeat (first | exact (by repeat (first | (with_reducible exact HR582.out) | (with_reducible refine Kd.C_alloc ?_ _) | (with_reducible refine Kd.C_drewN ?_ _) | (with_reducible refine Kd.C_drew ?_) | exact HR582.out)) | (with_reducible refine Kd.C_alloc ?_ _) | (with_reducible refine Kd.C_drewN ?_ _) | (with_reducible refine Kd.C_drew ?_)))
            (case side2 => exact HC582.out)
            rintro e w52 ⟨rfl, hb⟩
            refine ⟨_, rfl, ?_⟩
            have n0_ := Aside0.mk (Kd.R_below (by (with_reducible repeat (first | apply Kd.R_alloc | apply Kd.R_drewN | apply Kd.R_drew)); exact HO_6.out) hb)
            have n1_ := Aside0.mk (blk_below (g := gb570) (o := .cells #[.int .i64 t565, .int .i64 t566] 30 (0, 0)) (by (with_reducible repeat (first | refine blk_drewN ?_ _ | refine blk_drew ?_ | refine blk_alloc ?_ _)); exact BK570.out) hb)
            have n2_ := Aside0.mk (blk_below (g := gb574) (o := .cells #[.int .i64 t571, .int .i64 t572] 30 (0, 0)) (by (with_reducible repeat (first | refine blk_drewN ?_ _ | refine blk_drew ?_ | refine blk_alloc ?_ _)); exact BK574.out) hb)
            have n3_ := Aside0.mk (blk_below (g := gb578) (o := .cells #[.int .i64 t575, .int .i64 t576] 30 (0, 0)) (by (with_reducible repeat (first | refine blk_drewN ?_ _ | refine blk_drew ?_ | refine blk_alloc ?_ _)); exact BK578.out) hb)
            have n4_ := Aside0.mk (Kd.C_below (by repeat (first | (with_reducible exact HR582.out) | (with_reducible refine Kd.C_alloc ?_ _) | (with_reducible refine Kd.C_drewN ?_ _) | (with_reducible refine Kd.C_drew ?_) | exact HR582.out)) hb)
            have n5_ := Aside0.mk (blk_below (g := gb586) (o := .cells #[.int .i64 0, .int .i64 0] 30 (0, 0)) (by (with_reducible repeat (first | refine blk_drewN ?_ _ | refine blk_drew ?_ | refine blk_alloc ?_ _)); exact BK586.out) hb)
            have n6_ := Aside0.mk (below_step (by repeat (first | (with_reducible first | exact HB.out | apply below_alloc | apply pw_below_drewN | apply below_drew1 | refine below_set ?_ GE570.out | refine below_set ?_ GE574.out | refine below_set ?_ GE578.out | refine below_set ?_ GE586.out) | exact HB.out)) hb)
            clear HO_6
            clear BK570
            clear BK574
            clear BK578
            clear HR582
            clear BK586
            clear HB
            have HO_6 := n0_
            have BK570 := n1_
            have BK574 := n2_
            have BK578 := n3_
            have HR582 := n4_
            have BK586 := n5_
            have HB := n6_
            clear n0_ n1_ n2_ n3_ n4_ n5_ n6_
            (try clear hb)
            (try clear hb2)
            (try clear hk)
            (try clear hi)
            refine hK.out _ _ ⟨(blk_cell BK570.out 0).trans rfl, (blk_cell BK570.out 1).trans rfl⟩ (fun hHeld => ?_)
            clear hK K
            refine norm_ (a' := ?_) ?_ ?_
            rotate_left
            ·show Act.put _ (some 78) _ = _
             simp only [Act.put, List.setIfInBounds_toArray, List.set_cons_zero, List.set_cons_succ, i64_w, i32_w]
             rfl
            refine pure_ (i := 5) (N := some 73) (v := ?_) (a' := ?_) #[true, true, true, true, true, true, false, false, true, false, false] rfl rfl (any_of HT_.out (by kernel_rfl)) (fun _ _ _ h => h) (Or.inl ⟨by rfl, ?_⟩) ?_ ?_
            rotate_left
            ·intro w'
             go_simp
             with_reducible rfl
            rotate_left
            ·simp only [Act.put, List.setIfInBounds_toArray, List.set_cons_zero, List.set_cons_succ, i64_w, i32_w]
             rfl
            refine pure_ (i := 6) (N := some 79) (v := ?_) (a' := ?_) #[true, true, true, true, true, true, true, false, true, false, false] rfl rfl (any_of HT_.out (by kernel_rfl)) (fun _ _ _ h => h) (Or.inl ⟨by rfl, ?_⟩) ?_ ?_
            rotate_left
            ·intro w'
             go_simp
             with_reducible rfl
            rotate_left
            ·simp only [Act.put, List.setIfInBounds_toArray, List.set_cons_zero, List.set_cons_succ, i64_w, i32_w]
             rfl
            refine pure_ (i := 7) (N := some 80) (v := ?_) (a' := ?_) #[true, true, true, true, true, true, true, true, true, false, false] rfl rfl (any_of HT_.out (by kernel_rfl)) (fun _ _ _ h => h) (Or.inl ⟨by rfl, ?_⟩) ?_ ?_
            rotate_left
            ·intro w'
             go_simp
             with_reducible rfl
            rotate_left
            ·simp only [Act.put, List.setIfInBounds_toArray, List.set_cons_zero, List.set_cons_succ, i64_w, i32_w]
             rfl
            exact norm_ (by simp only [putAll, Act.put, List.setIfInBounds_toArray, List.set_cons_zero, List.set_cons_succ]) (hCont (gb586) _ ⟨hHeld, (by (with_reducible repeat (first | apply Kd.R_alloc | apply Kd.R_drewN | apply Kd.R_drew)); exact Kd.R_mono HO_6.out (fun _ hk => ⟨hk.1.1, ⟨hk.1.2.1, ⟨hk.1.2.2, hk.2⟩⟩⟩)), (by (with_reducible repeat (first | refine blk_drewN ?_ _ | refine blk_drew ?_ | refine blk_alloc ?_ _)); exact BK570.out), (by (with_reducible repeat (first | refine blk_drewN ?_ _ | refine blk_drew ?_ | refine blk_alloc ?_ _)); exact BK574.out), (by (with_reducible repeat (first | refine blk_drewN ?_ _ | refine blk_drew ?_ | refine blk_alloc ?_ _)); exact BK578.out), (by (with_reducible repeat (first | refine blk_drewN ?_ _ | refine blk_drew ?_ | refine blk_alloc ?_ _)); exact BK586.out), GW586.out, GE586.out, NB570_586.out, NB586_570.out, NB574_586.out, NB586_574.out, NB578_586.out, NB586_578.out, (by repeat (first | (with_reducible first | exact HB.out | apply below_alloc | apply pw_below_drewN | apply below_drew1 | refine below_set ?_ GE570.out | refine below_set ?_ GE574.out | refine below_set ?_ GE578.out | refine below_set ?_ GE586.out) | exact HB.out))⟩)
          rintro gb586 w53 ⟨hS_, h0_, h1_, h2_, h3_, h4_, h5_, h6_, h7_, h8_, h9_, h10_, h11_, h12_, h13_⟩
          have n0_ : Aside0 (Kd.R k30 30 w53 w.heap.size (fun k_ => k_ ≠ gb570 ∧ k_ ≠ gb574 ∧ k_ ≠ gb578 ∧ k_ ≠ gb586) (.slice Ao13 t567.length co13) t567) := ⟨h0_⟩
          have n1_ : Aside0 (w53.heap[gb570]? = some (.cells #[.int .i64 t565, .int .i64 t566] 30 (0, 0))) := ⟨h1_⟩
          have n2_ : Aside0 (w53.heap[gb574]? = some (.cells #[.int .i64 t571, .int .i64 t572] 30 (0, 0))) := ⟨h2_⟩
          have n3_ : Aside0 (w53.heap[gb578]? = some (.cells #[.int .i64 t575, .int .i64 t576] 30 (0, 0))) := ⟨h3_⟩
          have n4_ : Aside0 (w53.heap[gb586]? = some (.cells #[.int .i64 0, .int .i64 0] 30 (0, 0))) := ⟨h4_⟩
          have n5_ : Aside0 (w.heap.size ≤ gb586) := ⟨h5_⟩
          have n6_ : Aside0 (w.heap.size ≤ gb586) := ⟨h6_⟩
          have n7_ : Aside0 (gb570 ≠ gb586) := ⟨h7_⟩
          have n8_ : Aside0 (gb586 ≠ gb570) := ⟨h8_⟩
          have n9_ : Aside0 (gb574 ≠ gb586) := ⟨h9_⟩
          have n10_ : Aside0 (gb586 ≠ gb574) := ⟨h10_⟩
          have n11_ : Aside0 (gb578 ≠ gb586) := ⟨h11_⟩
          have n12_ : Aside0 (gb586 ≠ gb578) := ⟨h12_⟩
          have n13_ : Aside0 (Below w.heap.size w w53) := ⟨h13_⟩
          clear HO_6
          clear BK570
          clear BK574
          clear BK578
          clear HB
          clear h0_ h1_ h2_ h3_ h4_ h5_ h6_ h7_ h8_ h9_ h10_ h11_ h12_ h13_
          have HO_6 := n0_
          have BK570 := n1_
          have BK574 := n2_
          have BK578 := n3_
          have BK586 := n4_
          have GW586 := n5_
          have GE586 := n6_
          have NB570_586 := n7_
          have NB586_570 := n8_
          have NB574_586 := n9_
          have NB586_574 := n10_
          have NB578_586 := n11_
          have NB586_578 := n12_
          have HB := n13_
          clear n0_ n1_ n2_ n3_ n4_ n5_ n6_ n7_ n8_ n9_ n10_ n11_ n12_ n13_
          have hHeld : w53.cell? ⟨gb570, 0, none⟩ = some (.int .i64 t565) ∧ w53.cell? ⟨gb570, 1, none⟩ = some (.int .i64 t566) := hS_
          refine norm_ (a' := ?_) ?_ ?_
          rotate_left
          ·simp only [putAll, Act.put, List.setIfInBounds_toArray, List.set_cons_zero, List.set_cons_succ]
           rfl
          refine one_ (i := 9) (N := none) #[true, true, true, true, true, true, true, true, true, true, false] rfl rfl (one_of HT_.out (by kernel_rfl)) (by decide) (fun K hK => ?_)
          have hs54 : w53.cell? ⟨gb586, 0, none⟩ = some (.int .i64 0) := (blk_cell BK586.out 0).trans rfl
          have hfs54 := blk_frozen BK586.out 0
          have hns54_0 := NB570_586.out
          have hns54_1 := NB574_586.out
          have hns54_2 := NB578_586.out
          have hms54_0 := NB586_570.out
          have hms54_1 := NB586_574.out
          have hms54_2 := NB586_578.out
          have hs55 : w53.cell? ⟨gb586, 1, none⟩ = some (.int .i64 0) := (blk_cell BK586.out 1).trans rfl
          have hfs55 := blk_frozen BK586.out 1
          have hns55_0 := NB570_586.out
          have hns55_1 := NB574_586.out
          have hns55_2 := NB578_586.out
          have hms55_0 := NB586_570.out
          have hms55_1 := NB586_574.out
          have hms55_2 := NB586_578.out
          refine skip_ (w1 := ?_) (by rfl) rfl ?_ ?_
          rotate_left
          ·go_simp
           rfl
          refine hK.out _ _ ⟨((cell_far (p := ⟨gb586, _, none⟩) NB570_586.out _).trans (((cell_far (p := ⟨gb586, _, none⟩) NB570_586.out _).trans (hHeld.1)))), ((cell_far (p := ⟨gb586, _, none⟩) NB570_586.out _).trans (((cell_far (p := ⟨gb586, _, none⟩) NB570_586.out _).trans (hHeld.2))))⟩ (fun hHeld => ?_)
          clear hK K
          refine pure_ (i := 10) (N := some 13) (v := ?_) (a' := ?_) #[true, true, true, true, true, true, true, true, true, true, true] rfl rfl (any_of HT_.out (by kernel_rfl)) (fun _ _ _ h => h) (Or.inl ⟨by rfl, ?_⟩) ?_ ?_
          rotate_left
          ·intro w'
           go_simp
           with_reducible rfl
          rotate_left
          ·simp only [Act.put, List.setIfInBounds_toArray, List.set_cons_zero, List.set_cons_succ, i64_w, i32_w]
           rfl
          refine done_ (done_of HT_.out (by kernel_rfl)) ?_
          try go_wp2_with (first | ((with_reducible refine gate_callee (f := 20) rfl ?_); refine goesL_ (some 83) rfl rfl Try.func20 (by kernel_rfl) rfl #[.slice Ao13 t567.length co13] rfl (by (try simp only [List.map_toArray, List.map_cons, List.map_nil]); first | done | rfl | (simp only [List.length_drop, List.length_take]; rfl)) ?_; (with_reducible refine (impl_TravelGap.calls kj8 _ _ t567 t587 t588 t589 _ ?side1 ?side2 A48.out).mono ?_); (case side1 => refine (Kd.R_reads' (e := 30) (base := w.heap.size) (ok := fun k_ => (k_ ≠ gb570 ∧ (k_ ≠ gb574 ∧ (k_ ≠ gb578 ∧ k_ ≠ gb586)))) (n := t567.length) (c := co13) ?_).2.2; exact (by (with_reducible repeat (first | apply Kd.R_alloc | apply Kd.R_drewN | apply Kd.R_drew)); exact (Kd.R_mono (Kd.R_far (p := ⟨gb586, 1, none⟩) (Kd.R_far (p := ⟨gb586, 0, none⟩) (Kd.R_mono HO_6.out (fun k_ hk => (⟨hk, hk.2.2.2⟩ : _ ∧ k_ ≠ gb586))) (fun _ hk => hk.2) (.int .i64 t583)) (fun _ hk => hk.2) (.int .i64 t584)) (fun _ h_ => h_.1)))); (case side2 => exact (Kd.R_reads' HO_6.out).2.1); rintro e w56 ⟨rfl, hb⟩; refine ⟨_, rfl, ?_⟩; have n0_ := Aside0.mk (Kd.R_below (by (with_reducible repeat (first | apply Kd.R_alloc | apply Kd.R_drewN | apply Kd.R_drew)); exact (Kd.R_mono (Kd.R_far (p := ⟨gb586, 1, none⟩) (Kd.R_far (p := ⟨gb586, 0, none⟩) (Kd.R_mono HO_6.out (fun k_ hk => (⟨hk, hk.2.2.2⟩ : _ ∧ k_ ≠ gb586))) (fun _ hk => hk.2) (.int .i64 t583)) (fun _ hk => hk.2) (.int .i64 t584)) (fun _ h_ => h_.1))) hb); have n1_ := Aside0.mk (blk_below (g := gb570) (o := .cells #[.int .i64 t565, .int .i64 t566] 30 (0, 0)) (by (with_reducible repeat (first | refine blk_drewN ?_ _ | refine blk_drew ?_ | refine blk_alloc ?_ _)); refine blk_far ?_ NB570_586.out _; (with_reducible repeat (first | refine blk_drewN ?_ _ | refine blk_drew ?_ | refine blk_alloc ?_ _)); refine blk_far ?_ NB570_586.out _; (with_reducible repeat (first | refine blk_drewN ?_ _ | refine blk_drew ?_ | refine blk_alloc ?_ _)); exact BK570.out) hb); have n2_ := Aside0.mk (blk_below (g := gb574) (o := .cells #[.int .i64 t571, .int .i64 t572] 30 (0, 0)) (by (with_reducible repeat (first | refine blk_drewN ?_ _ | refine blk_drew ?_ | refine blk_alloc ?_ _)); refine blk_far ?_ NB574_586.out _; (with_reducible repeat (first | refine blk_drewN ?_ _ | refine blk_drew ?_ | refine blk_alloc ?_ _)); refine blk_far ?_ NB574_586.out _; (with_reducible repeat (first | refine blk_drewN ?_ _ | refine blk_drew ?_ | refine blk_alloc ?_ _)); exact BK574.out) hb); have n3_ := Aside0.mk (blk_below (g := gb578) (o := .cells #[.int .i64 t575, .int .i64 t576] 30 (0, 0)) (by (with_reducible repeat (first | refine blk_drewN ?_ _ | refine blk_drew ?_ | refine blk_alloc ?_ _)); refine blk_far ?_ NB578_586.out _; (with_reducible repeat (first | refine blk_drewN ?_ _ | refine blk_drew ?_ | refine blk_alloc ?_ _)); refine blk_far ?_ NB578_586.out _; (with_reducible repeat (first | refine blk_drewN ?_ _ | refine blk_drew ?_ | refine blk_alloc ?_ _)); exact BK578.out) hb); have n4_ := Aside0.mk (blk_below (g := gb586) (o := .cells #[.int .i64 t583, .int .i64 t584] 30 (0, 0)) (by (with_reducible repeat (first | refine blk_drewN ?_ _ | refine blk_drew ?_ | refine blk_alloc ?_ _)); refine blk_put (cs := #[.int .i64 t583, .int .i64 0]) ?_ 1 _ rfl; (with_reducible repeat (first | refine blk_drewN ?_ _ | refine blk_drew ?_ | refine blk_alloc ?_ _)); refine blk_put (cs := #[.int .i64 0, .int .i64 0]) ?_ 0 _ rfl; (with_reducible repeat (first | refine blk_drewN ?_ _ | refine blk_drew ?_ | refine blk_alloc ?_ _)); exact BK586.out) hb); have n5_ := Aside0.mk (below_step (by repeat (first | (with_reducible first | exact HB.out | apply below_alloc | apply pw_below_drewN | apply below_drew1 | refine below_set ?_ GE570.out | refine below_set ?_ GE574.out | refine below_set ?_ GE578.out | refine below_set ?_ GE586.out) | exact HB.out)) hb); clear HO_6; clear BK570; clear BK574; clear BK578; clear BK586; clear HB; have HO_6 := n0_; have BK570 := n1_; have BK574 := n2_; have BK578 := n3_; have BK586 := n4_; have HB := n5_; clear n0_ n1_ n2_ n3_ n4_ n5_; (try clear hb); (try clear hb2); (try clear hk); (try clear hi)) | ((with_reducible refine gate_dst (N := 14) rfl ?_); (try (refine gate_guard (by rfl) ?_; dsimp only)); refine box_event ?hg (N := 14) ?hd (cs := #[.int .i64 0, .int .i64 0]) (t := 30) ?hr ?_; (case hd => rfl); (case hg => rfl); (case hr => first | (go_simp; done) | (go_simp; rfl)); intro gb590 hg w57 hbox hb; have n0_ := Aside0.mk (Kd.R_below (Kd.R_elderB (by (with_reducible repeat (first | apply Kd.R_alloc | apply Kd.R_drewN | apply Kd.R_drew)); exact HO_6.out) gb590 (Nat.le_of_eq hg.symm)) hb); have n1_ := Aside0.mk (blk_below (g := gb570) (o := .cells #[.int .i64 t565, .int .i64 t566] 30 (0, 0)) (by (with_reducible repeat (first | refine blk_drewN ?_ _ | refine blk_drew ?_ | refine blk_alloc ?_ _)); exact BK570.out) hb); have n2_ := Aside0.mk (blk_below (g := gb574) (o := .cells #[.int .i64 t571, .int .i64 t572] 30 (0, 0)) (by (with_reducible repeat (first | refine blk_drewN ?_ _ | refine blk_drew ?_ | refine blk_alloc ?_ _)); exact BK574.out) hb); have n3_ := Aside0.mk (blk_below (g := gb578) (o := .cells #[.int .i64 t575, .int .i64 t576] 30 (0, 0)) (by (with_reducible repeat (first | refine blk_drewN ?_ _ | refine blk_drew ?_ | refine blk_alloc ?_ _)); exact BK578.out) hb); have n4_ := Aside0.mk (blk_below (g := gb586) (o := .cells #[.int .i64 t583, .int .i64 t584] 30 (0, 0)) (by (with_reducible repeat (first | refine blk_drewN ?_ _ | refine blk_drew ?_ | refine blk_alloc ?_ _)); exact BK586.out) hb); have n5_ := Aside0.mk (below_step (by repeat (first | (with_reducible first | exact HB.out | apply below_alloc | apply pw_below_drewN | apply below_drew1 | refine below_set ?_ GE570.out | refine below_set ?_ GE574.out | refine below_set ?_ GE578.out | refine below_set ?_ GE586.out) | exact HB.out)) hb); have n6_ := Aside0.mk (hbox); have n7_ := Aside0.mk ((by rw [hg]; exact (below_size (by repeat (first | (with_reducible first | exact HB.out | apply below_alloc | apply pw_below_drewN | apply below_drew1 | refine below_set ?_ GE570.out | refine below_set ?_ GE574.out | refine below_set ?_ GE578.out | refine below_set ?_ GE586.out) | exact HB.out))) : w.heap.size ≤ gb590)); have n8_ := Aside0.mk ((by rw [hg]; exact (below_size (by repeat (first | (with_reducible first | exact HB.out | apply below_alloc | apply pw_below_drewN | apply below_drew1 | refine below_set ?_ GE570.out | refine below_set ?_ GE574.out | refine below_set ?_ GE578.out | refine below_set ?_ GE586.out) | exact HB.out))) : w.heap.size ≤ gb590)); have n9_ := Aside0.mk ((by rw [hg]; exact Nat.ne_of_lt (blk_lt (g := gb570) (o := .cells #[.int .i64 t565, .int .i64 t566] 30 (0, 0)) (by (with_reducible repeat (first | refine blk_drewN ?_ _ | refine blk_drew ?_ | refine blk_alloc ?_ _)); exact BK570.out)) : gb570 ≠ gb590)); have n10_ := Aside0.mk ((by rw [hg]; exact Nat.ne_of_gt (blk_lt (g := gb570) (o := .cells #[.int .i64 t565, .int .i64 t566] 30 (0, 0)) (by (with_reducible repeat (first | refine blk_drewN ?_ _ | refine blk_drew ?_ | refine blk_alloc ?_ _)); exact BK570.out)) : gb590 ≠ gb570)); have n11_ := Aside0.mk ((by rw [hg]; exact Nat.ne_of_lt (blk_lt (g := gb574) (o := .cells #[.int .i64 t571, .int .i64 t572] 30 (0, 0)) (by (with_reducible repeat (first | refine blk_drewN ?_ _ | refine blk_drew ?_ | refine blk_alloc ?_ _)); exact BK574.out)) : gb574 ≠ gb590)); have n12_ := Aside0.mk ((by rw [hg]; exact Nat.ne_of_gt (blk_lt (g := gb574) (o := .cells #[.int .i64 t571, .int .i64 t572] 30 (0, 0)) (by (with_reducible repeat (first | refine blk_drewN ?_ _ | refine blk_drew ?_ | refine blk_alloc ?_ _)); exact BK574.out)) : gb590 ≠ gb574)); have n13_ := Aside0.mk ((by rw [hg]; exact Nat.ne_of_lt (blk_lt (g := gb578) (o := .cells #[.int .i64 t575, .int .i64 t576] 30 (0, 0)) (by (with_reducible repeat (first | refine blk_drewN ?_ _ | refine blk_drew ?_ | refine blk_alloc ?_ _)); exact BK578.out)) : gb578 ≠ gb590)); have n14_ := Aside0.mk ((by rw [hg]; exact Nat.ne_of_gt (blk_lt (g := gb578) (o := .cells #[.int .i64 t575, .int .i64 t576] 30 (0, 0)) (by (with_reducible repeat (first | refine blk_drewN ?_ _ | refine blk_drew ?_ | refine blk_alloc ?_ _)); exact BK578.out)) : gb590 ≠ gb578)); have n15_ := Aside0.mk ((by rw [hg]; exact Nat.ne_of_lt (blk_lt (g := gb586) (o := .cells #[.int .i64 t583, .int .i64 t584] 30 (0, 0)) (by (with_reducible repeat (first | refine blk_drewN ?_ _ | refine blk_drew ?_ | refine blk_alloc ?_ _)); exact BK586.out)) : gb586 ≠ gb590)); have n16_ := Aside0.mk ((by rw [hg]; exact Nat.ne_of_gt (blk_lt (g := gb586) (o := .cells #[.int .i64 t583, .int .i64 t584] 30 (0, 0)) (by (with_reducible repeat (first | refine blk_drewN ?_ _ | refine blk_drew ?_ | refine blk_alloc ?_ _)); exact BK586.out)) : gb590 ≠ gb586)); clear HO_6; clear BK570; clear BK574; clear BK578; clear BK586; clear HB; have HO_6 := n0_; have BK570 := n1_; have BK574 := n2_; have BK578 := n3_; have BK586 := n4_; have HB := n5_; have BK590 := n6_; have GW590 := n7_; have GE590 := n8_; have NB570_590 := n9_; have NB590_570 := n10_; have NB574_590 := n11_; have NB590_574 := n12_; have NB578_590 := n13_; have NB590_578 := n14_; have NB586_590 := n15_; have NB590_586 := n16_; clear n0_ n1_ n2_ n3_ n4_ n5_ n6_ n7_ n8_ n9_ n10_ n11_ n12_ n13_ n14_ n15_ n16_; clear hb hbox hg; have hnb58 := NB590_570.out; have hnc58 := NB570_590.out; have hnb59 := NB590_574.out; have hnc59 := NB574_590.out; have hnb60 := NB590_578.out; have hnc60 := NB578_590.out; have hnb61 := NB590_586.out; have hnc61 := NB586_590.out; have hcz62_0 : w57.cell? ⟨gb590, 0, none⟩ = some (.int .i64 0) := (blk_cell BK590.out 0).trans rfl; have hcz62_1 : w57.cell? ⟨gb590, 1, none⟩ = some (.int .i64 0) := (blk_cell BK590.out 1).trans rfl; have hfz62_0 := blk_frozen BK590.out 0; have hfz62_1 := blk_frozen BK590.out 1) | ((with_reducible refine gate_dst (N := 86) rfl ?_); (try (refine gate_guard (by rfl) ?_; dsimp only)); refine Kd.R_lit k30 _ 30 ?hg (N := 86) ?hd (xs := ([] : List (S30))) (inner := []) (ok := fun _ => True) (okp := fun _ => True) ?hr ?hp (fun _ hk => hk) trivial (Below.refl _ _) (Nat.le_refl _) (by simp) ?_; (case hd => rfl); (case hg => rfl); (case hr => first | (go_simp; done) | (go_simp; rfl)); (case hp => exact (Reps.none _ _)); intro v592 w63 ho64 hb hg_ hnew_; clear hg_ hnew_; (first | rw [← Ny591.out] at ho64 | (simp only [Int.reduceToNat] at ho64; rw [← Ny591.out] at ho64)); have n0_ := Aside0.mk (Kd.R_elder' (by (with_reducible repeat (first | apply Kd.R_alloc | apply Kd.R_drewN | apply Kd.R_drew)); exact (Kd.R_mono (Kd.R_far (p := ⟨gb590, 1, none⟩) (Kd.R_far (p := ⟨gb590, 0, none⟩) (Kd.R_mono HO_6.out (fun k_ hk => (⟨hk, hk.2⟩ : _ ∧ k_ ≠ gb590))) (fun _ hk => hk.2) (.int .i64 t587)) (fun _ hk => hk.2) (.int .i64 t588)) (fun _ h_ => h_.1))) (Kd.R_base ho64) hb); have n1_ := Aside0.mk (Kd.R_lower (Kd.R_newB (Kd.R_newB (Kd.R_newB (Kd.R_newB (Kd.R_newB (Kd.R_new' ho64 (Kd.R_lt (by (with_reducible repeat (first | apply Kd.R_alloc | apply Kd.R_drewN | apply Kd.R_drew)); exact (Kd.R_mono (Kd.R_far (p := ⟨gb590, 1, none⟩) (Kd.R_far (p := ⟨gb590, 0, none⟩) (Kd.R_mono HO_6.out (fun k_ hk => (⟨hk, hk.2⟩ : _ ∧ k_ ≠ gb590))) (fun _ hk => hk.2) (.int .i64 t587)) (fun _ hk => hk.2) (.int .i64 t588)) (fun _ h_ => h_.1))))) (g := gb570) (o := .cells #[.int .i64 t565, .int .i64 t566] 30 (0, 0)) (by (with_reducible repeat (first | refine blk_drewN ?_ _ | refine blk_drew ?_ | refine blk_alloc ?_ _)); refine blk_far ?_ NB570_590.out _; (with_reducible repeat (first | refine blk_drewN ?_ _ | refine blk_drew ?_ | refine blk_alloc ?_ _)); refine blk_far ?_ NB570_590.out _; (with_reducible repeat (first | refine blk_drewN ?_ _ | refine blk_drew ?_ | refine blk_alloc ?_ _)); exact BK570.out)) (g := gb574) (o := .cells #[.int .i64 t571, .int .i64 t572] 30 (0, 0)) (by (with_reducible repeat (first | refine blk_drewN ?_ _ | refine blk_drew ?_ | refine blk_alloc ?_ _)); refine blk_far ?_ NB574_590.out _; (with_reducible repeat (first | refine blk_drewN ?_ _ | refine blk_drew ?_ | refine blk_alloc ?_ _)); refine blk_far ?_ NB574_590.out _; (with_reducible repeat (first | refine blk_drewN ?_ _ | refine blk_drew ?_ | refine blk_alloc ?_ _)); exact BK574.out)) (g := gb578) (o := .cells #[.int .i64 t575, .int .i64 t576] 30 (0, 0)) (by (with_reducible repeat (first | refine blk_drewN ?_ _ | refine blk_drew ?_ | refine blk_alloc ?_ _)); refine blk_far ?_ NB578_590.out _; (with_reducible repeat (first | refine blk_drewN ?_ _ | refine blk_drew ?_ | refine blk_alloc ?_ _)); refine blk_far ?_ NB578_590.out _; (with_reducible repeat (first | refine blk_drewN ?_ _ | refine blk_drew ?_ | refine blk_alloc ?_ _)); exact BK578.out)) (g := gb586) (o := .cells #[.int .i64 t583, .int .i64 t584] 30 (0, 0)) (by (with_reducible repeat (first | refine blk_drewN ?_ _ | refine blk_drew ?_ | refine blk_alloc ?_ _)); refine blk_far ?_ NB586_590.out _; (with_reducible repeat (first | refine blk_drewN ?_ _ | refine blk_drew ?_ | refine blk_alloc ?_ _)); refine blk_far ?_ NB586_590.out _; (with_reducible repeat (first | refine blk_drewN ?_ _ | refine blk_drew ?_ | refine blk_alloc ?_ _)); exact BK586.out)) (g := gb590) (o := .cells #[.int .i64 t587, .int .i64 t588] 30 (0, 0)) (by (with_reducible repeat (first | refine blk_drewN ?_ _ | refine blk_drew ?_ | refine blk_alloc ?_ _)); refine blk_put (cs := #[.int .i64 t587, .int .i64 0]) ?_ 1 _ rfl; (with_reducible repeat (first | refine blk_drewN ?_ _ | refine blk_drew ?_ | refine blk_alloc ?_ _)); refine blk_put (cs := #[.int .i64 0, .int .i64 0]) ?_ 0 _ rfl; (with_reducible repeat (first | refine blk_drewN ?_ _ | refine blk_drew ?_ | refine blk_alloc ?_ _)); exact BK590.out)) (below_size (by repeat (first | (with_reducible first | exact HB.out | apply below_alloc | apply pw_below_drewN | apply below_drew1 | refine below_set ?_ GE570.out | refine below_set ?_ GE574.out | refine below_set ?_ GE578.out | refine below_set ?_ GE586.out | refine below_set ?_ GE590.out) | exact HB.out)))); have n2_ := Aside0.mk (blk_below (g := gb570) (o := .cells #[.int .i64 t565, .int .i64 t566] 30 (0, 0)) (by (with_reducible repeat (first | refine blk_drewN ?_ _ | refine blk_drew ?_ | refine blk_alloc ?_ _)); refine blk_far ?_ NB570_590.out _; (with_reducible repeat (first | refine blk_drewN ?_ _ | refine blk_drew ?_ | refine blk_alloc ?_ _)); refine blk_far ?_ NB570_590.out _; (with_reducible repeat (first | refine blk_drewN ?_ _ | refine blk_drew ?_ | refine blk_alloc ?_ _)); exact BK570.out) hb); have n3_ := Aside0.mk (blk_below (g := gb574) (o := .cells #[.int .i64 t571, .int .i64 t572] 30 (0, 0)) (by (with_reducible repeat (first | refine blk_drewN ?_ _ | refine blk_drew ?_ | refine blk_alloc ?_ _)); refine blk_far ?_ NB574_590.out _; (with_reducible repeat (first | refine blk_drewN ?_ _ | refine blk_drew ?_ | refine blk_alloc ?_ _)); refine blk_far ?_ NB574_590.out _; (with_reducible repeat (first | refine blk_drewN ?_ _ | refine blk_drew ?_ | refine blk_alloc ?_ _)); exact BK574.out) hb); have n4_ := Aside0.mk (blk_below (g := gb578) (o := .cells #[.int .i64 t575, .int .i64 t576] 30 (0, 0)) (by (with_reducible repeat (first | refine blk_drewN ?_ _ | refine blk_drew ?_ | refine blk_alloc ?_ _)); refine blk_far ?_ NB578_590.out _; (with_reducible repeat (first | refine blk_drewN ?_ _ | refine blk_drew ?_ | refine blk_alloc ?_ _)); refine blk_far ?_ NB578_590.out _; (with_reducible repeat (first | refine blk_drewN ?_ _ | refine blk_drew ?_ | refine blk_alloc ?_ _)); exact BK578.out) hb); have n5_ := Aside0.mk (blk_below (g := gb586) (o := .cells #[.int .i64 t583, .int .i64 t584] 30 (0, 0)) (by (with_reducible repeat (first | refine blk_drewN ?_ _ | refine blk_drew ?_ | refine blk_alloc ?_ _)); refine blk_far ?_ NB586_590.out _; (with_reducible repeat (first | refine blk_drewN ?_ _ | refine blk_drew ?_ | refine blk_alloc ?_ _)); refine blk_far ?_ NB586_590.out _; (with_reducible repeat (first | refine blk_drewN ?_ _ | refine blk_drew ?_ | refine blk_alloc ?_ _)); exact BK586.out) hb); have n6_ := Aside0.mk (blk_below (g := gb590) (o := .cells #[.int .i64 t587, .int .i64 t588] 30 (0, 0)) (by (with_reducible repeat (first | refine blk_drewN ?_ _ | refine blk_drew ?_ | refine blk_alloc ?_ _)); refine blk_put (cs := #[.int .i64 t587, .int .i64 0]) ?_ 1 _ rfl; (with_reducible repeat (first | refine blk_drewN ?_ _ | refine blk_drew ?_ | refine blk_alloc ?_ _)); refine blk_put (cs := #[.int .i64 0, .int .i64 0]) ?_ 0 _ rfl; (with_reducible repeat (first | refine blk_drewN ?_ _ | refine blk_drew ?_ | refine blk_alloc ?_ _)); exact BK590.out) hb); have n7_ := Aside0.mk (below_step (by repeat (first | (with_reducible first | exact HB.out | apply below_alloc | apply pw_below_drewN | apply below_drew1 | refine below_set ?_ GE570.out | refine below_set ?_ GE574.out | refine below_set ?_ GE578.out | refine below_set ?_ GE586.out | refine below_set ?_ GE590.out) | exact HB.out)) hb); clear HO_6; clear BK570; clear BK574; clear BK578; clear BK586; clear BK590; clear HB; have HO_6 := n0_; have HO593 := n1_; have BK570 := n2_; have BK574 := n3_; have BK578 := n4_; have BK586 := n5_; have BK590 := n6_; have HB := n7_; clear n0_ n1_ n2_ n3_ n4_ n5_ n6_ n7_; clear hb ho64))
          go_loopg [16, 17] kj8 (fun kq v16 v17 w' => ∃ (x16_3 : List (S30)) (x17_3 : Int), v17 = .int .i64 x17_3 ∧ Aside0 (laws_FnTravel.l0 kq t567 ji44 t585 t589 x16_3 x17_3 t565 t566 t571 t572 t583 t584 t587 t588 = some r) ∧ Aside0 (kq ≤ kj8) ∧ Aside0 (Kd.R k30 30 w' w.heap.size (fun k_ => some k_ ≠ (v16 : Value).ownBlock ∧ k_ ≠ gb570 ∧ k_ ≠ gb574 ∧ k_ ≠ gb578 ∧ k_ ≠ gb586 ∧ k_ ≠ gb590) (.slice Ao13 t567.length co13) t567) ∧ Aside0 (Kd.R k30 30 w' w.heap.size (fun k_ => some k_ ≠ ((.slice Ao13 t567.length co13) : Value).ownBlock ∧ k_ ≠ gb570 ∧ k_ ≠ gb574 ∧ k_ ≠ gb578 ∧ k_ ≠ gb586 ∧ k_ ≠ gb590) v16 x16_3) ∧ Aside0 (w'.heap[gb570]? = some (.cells #[.int .i64 t565, .int .i64 t566] 30 (0, 0))) ∧ Aside0 (w'.heap[gb574]? = some (.cells #[.int .i64 t571, .int .i64 t572] 30 (0, 0))) ∧ Aside0 (w'.heap[gb578]? = some (.cells #[.int .i64 t575, .int .i64 t576] 30 (0, 0))) ∧ Aside0 (w'.heap[gb586]? = some (.cells #[.int .i64 t583, .int .i64 t584] 30 (0, 0))) ∧ Aside0 (w'.heap[gb590]? = some (.cells #[.int .i64 t587, .int .i64 t588] 30 (0, 0))) ∧ Aside0 (Below w.heap.size w w'))
          case atStart => exact ⟨(y591), (wrap64 ((t567.length : Int) - 1)), (by first | rfl | (simp; done) | (simp [*]; done)), H', ⟨Nat.le_refl _⟩, ⟨by (with_reducible repeat (first | apply Kd.R_alloc | apply Kd.R_drewN | apply Kd.R_drew)); exact Kd.R_mono HO_6.out (fun _ hk => ⟨hk.2, ⟨hk.1.1.1, ⟨hk.1.1.2.1, ⟨hk.1.1.2.2.1, ⟨hk.1.1.2.2.2, hk.1.2⟩⟩⟩⟩⟩)⟩, ⟨by (with_reducible repeat (first | apply Kd.R_alloc | apply Kd.R_drewN | apply Kd.R_drew)); exact Kd.R_mono HO593.out (fun _ hk => ⟨hk.1.1.1.1.1.2, ⟨hk.1.1.1.1.2, ⟨hk.1.1.1.2, ⟨hk.1.1.2, ⟨hk.1.2, hk.2⟩⟩⟩⟩⟩)⟩, ⟨by (with_reducible repeat (first | refine blk_drewN ?_ _ | refine blk_drew ?_ | refine blk_alloc ?_ _)); exact BK570.out⟩, ⟨by (with_reducible repeat (first | refine blk_drewN ?_ _ | refine blk_drew ?_ | refine blk_alloc ?_ _)); exact BK574.out⟩, ⟨by (with_reducible repeat (first | refine blk_drewN ?_ _ | refine blk_drew ?_ | refine blk_alloc ?_ _)); exact BK578.out⟩, ⟨by (with_reducible repeat (first | refine blk_drewN ?_ _ | refine blk_drew ?_ | refine blk_alloc ?_ _)); exact BK586.out⟩, ⟨by (with_reducible repeat (first | refine blk_drewN ?_ _ | refine blk_drew ?_ | refine blk_alloc ?_ _)); exact BK590.out⟩, ⟨by repeat (first | (with_reducible first | exact HB.out | apply below_alloc | apply pw_below_drewN | apply below_drew1 | refine below_set ?_ GE570.out | refine below_set ?_ GE574.out | refine below_set ?_ GE578.out | refine below_set ?_ GE586.out | refine below_set ?_ GE590.out) | exact HB.out)⟩⟩
          case round =>
           clear H'
           try clear c1
           try clear c2
           try clear p2
           try clear c3
           try clear c4
           try clear c4b0
           try clear c4b1
           try clear c5
           try clear q5
           try clear c6
           try clear p6
           try clear c11
           try clear c16
           try clear c20
           try clear c21
           try clear c22
           try clear c24
           try clear c24b0
           try clear c24b1
           try clear c24b2
           try clear c25
           try clear c25b0
           try clear c26
           try clear c27
           try clear c29
           try clear c31
           try clear c32
           try clear c34
           try clear c36
           try clear c37
           try clear c37b0
           try clear c37b1
           try clear c37b2
           try clear c38
           try clear c39
           try clear c41
           try clear c43
           try clear c43b0
           try clear c43b1
           try clear c43b2
           try clear c45
           try clear c45b0
           try clear c45b1
           try clear c46
           try clear c46b0
           try clear c46b1
           try clear q50
           try clear c58
           try clear c59
           try clear c60
           try clear c61
           try clear p64
           try clear hcz12_0
           try clear hcz12_1
           try clear hcz17_0
           try clear hcz17_1
           try clear hcz18_0
           try clear hcz18_1
           try clear hcz23_0
           try clear hcz23_1
           try clear hcz28_0
           try clear hcz28_1
           try clear hcz30_0
           try clear hcz30_1
           try clear hcz33_0
           try clear hcz33_1
           try clear hcz35_0
           try clear hcz35_1
           try clear hcz40_0
           try clear hcz40_1
           try clear hcz42_0
           try clear hcz42_1
           try clear hcz62_0
           try clear hcz62_1
           try clear hfz12_0
           try clear hfz12_1
           try clear hfz17_0
           try clear hfz17_1
           try clear hfz18_0
           try clear hfz18_1
           try clear hfz23_0
           try clear hfz23_1
           try clear hfz28_0
           try clear hfz28_1
           try clear hfz30_0
           try clear hfz30_1
           try clear hfz33_0
           try clear hfz33_1
           try clear hfz35_0
           try clear hfz35_1
           try clear hfz40_0
           try clear hfz40_1
           try clear hfz42_0
           try clear hfz42_1
           try clear hfz62_0
           try clear hfz62_1
           try clear p2
           try clear q50
           obtain ⟨x16_3, x17_3, rfl, HA, HK3, HO_6, HO_16, BK570, BK574, BK578, BK586, BK590, HB⟩ := hrel
           cases gk with
           | zero => exact absurd HA.out (by simp [laws_FnTravel.l0])
           | succ k3 =>
            have H := HA.out
            clear HA
            simp only [laws_FnTravel.l0] at H
            by_cases c65 : x17_3 ≥ 0
            ·rw [if_pos c65] at H
             have c65b0 : decide (0 ≤ x17_3) = true := decide_eq_true c65
             clear c65
             by_cases c66 : 0 ≤ x17_3
             ·rw [if_pos c66] at H
              have c66b0 : decide (0 ≤ x17_3) = true := decide_eq_true c66
              clear c66
              by_cases c67 : x17_3 < (t567.length : Int)
              ·rw [if_pos c67] at H
               have c67b0 : decide (x17_3 < (t567.length : Int)) = true := decide_eq_true c67
               clear c67
               by_cases c68 : x16_3.length < 8796093022208
               ·rw [if_pos c68] at H
                have LMc68 := Aside0.mk c68
                clear c68
                obtain ⟨y596, hy596⟩ : ∃ y_ : List (S30), y_ = (x16_3 ++ [(⟨wrap64 (-((rd_T30 t567 x17_3).f0)), wrap64 (-((rd_T30 t567 x17_3).f1))⟩ : S30)]) := ⟨_, rfl⟩
                replace H : (laws_FnTravel.l0 k3 t567 ji44 t585 t589 y596 (wrap64 (x17_3 - 1)) t565 t566 t571 t572 t583 t584 t587 t588) = some r := by first | (rw [hy596]; with_reducible exact H) | (have H2_ := (Option.bind_some _ _).symm.trans H; rw [hy596]; with_reducible exact H2_) | (have H2_ := (Option.bind_some _ _).symm.trans H; with_reducible exact H2_) | with_reducible exact H | (rw [hy596]; exact H) | exact H
                have Ny596 := Aside0.mk hy596
                clear hy596
                have H' := Aside0.mk H
                clear H
                try go_wp2
                have n0_ := Aside0.mk (Kd.R_drew HO_6.out)
                have n1_ := Aside0.mk (Kd.R_drew HO_16.out)
                have n2_ := Aside0.mk (blk_drew BK570.out)
                have n3_ := Aside0.mk (blk_drew BK574.out)
                have n4_ := Aside0.mk (blk_drew BK578.out)
                have n5_ := Aside0.mk (blk_drew BK586.out)
                have n6_ := Aside0.mk (blk_drew BK590.out)
                have n7_ := Aside0.mk (below_drew1 HB.out)
                clear HO_6
                clear HO_16
                clear BK570
                clear BK574
                clear BK578
                clear BK586
                clear BK590
                clear HB
                have HO_6 := n0_
                have HO_16 := n1_
                have BK570 := n2_
                have BK574 := n3_
                have BK578 := n4_
                have BK586 := n5_
                have BK590 := n6_
                have HB := n7_
                clear n0_ n1_ n2_ n3_ n4_ n5_ n6_ n7_
                have p594 : 0 ≤ (x17_3 : Int) := of_decide_eq_true (by first | (with_reducible assumption) | assumption)
                have q594 : x17_3 < (t567.length : Int) := of_decide_eq_true (by first | (with_reducible assumption) | assumption)
                obtain ⟨ad594, e594, hx594_0, hx594_1⟩ := at_T30 (Kd.R_reads' HO_6.out).2.2 x17_3 p594 q594
                cases e594
                replace p594 := eq_true p594
                replace q594 := eq_true q594
                have p595 : 0 ≤ (x17_3 : Int) := of_decide_eq_true (by first | (with_reducible assumption) | assumption)
                have q595 : x17_3 < (t567.length : Int) := of_decide_eq_true (by first | (with_reducible assumption) | assumption)
                obtain ⟨ad595, e595, hx595_0, hx595_1⟩ := at_T30 (Kd.R_reads' HO_6.out).2.2 x17_3 p595 q595
                obtain rfl : ad594 = ad595 := (by injection e595)
                replace p595 := eq_true p595
                replace q595 := eq_true q595
                refine start_ (n := 17) (S := fun w' => w'.cell? (ad594.add ((x17_3).toNat * 2)) = some (.int .i64 ((rd_T30 t567 x17_3).f0)) ∧ w'.cell? ⟨(ad594.add ((x17_3).toNat * 2)).block, (ad594.add ((x17_3).toNat * 2)).off + 1, none⟩ = some (.int .i64 ((rd_T30 t567 x17_3).f1)) ∧ w'.cell? (ad594.add ((x17_3).toNat * 2)) = some (.int .i64 ((rd_T30 t567 x17_3).f0)) ∧ w'.cell? ⟨(ad594.add ((x17_3).toNat * 2)).block, (ad594.add ((x17_3).toNat * 2)).off + 1, none⟩ = some (.int .i64 ((rd_T30 t567 x17_3).f1))) (ds := [14, 15]) #[false, false, false, false, false, false, false, false, false, false, false, false, false, false, false, false, false] (by kernel_rfl) rfl rfl ⟨hx594_0, hx594_1, hx595_0, hx595_1⟩ (fun hHeld => ?_); refine with_tabW laws_FnTravel.tab15 laws_FnTravel.bits15 (fun HT_ HW_ => ?_)
                generalize wr.drew = w69 at HO_6 HO_16 BK570 BK574 BK578 BK586 BK590 HB hx594_0 hx594_1 hx595_0 hx595_1 hHeld ⊢
                refine pure_ (i := 0) (N := some 94) (v := ?_) (a' := ?_) #[true, false, false, false, false, false, false, false, false, false, false, false, false, false, false, false, false] rfl rfl (any_of HT_.out (by kernel_rfl)) (fun _ _ _ h => h) (Or.inl ⟨by rfl, ?_⟩) ?_ ?_
                rotate_left
                ·intro w'
                 go_simp
                 with_reducible rfl
                rotate_left
                ·simp only [Act.put, List.setIfInBounds_toArray, List.set_cons_zero, List.set_cons_succ, i64_w, i32_w]
                 rfl
                refine pure_ (i := 1) (N := some 95) (v := ?_) (a' := ?_) #[true, true, false, false, false, false, false, false, false, false, false, false, false, false, false, false, false] rfl rfl (any_of HT_.out (by kernel_rfl)) (fun _ _ _ h => h) (Or.inl ⟨by rfl, ?_⟩) ?_ ?_
                rotate_left
                ·intro w'
                 go_simp
                 with_reducible rfl
                rotate_left
                ·simp only [Act.put, List.setIfInBounds_toArray, List.set_cons_zero, List.set_cons_succ, i64_w, i32_w]
                 rfl
                refine pure_ (i := 2) (N := some 96) (v := ?_) (a' := ?_) #[true, true, true, false, false, false, false, false, false, false, false, false, false, false, false, false, false] rfl rfl (any_of HT_.out (by kernel_rfl)) (fun _ _ _ h => h) (Or.inl ⟨by rfl, ?_⟩) ?_ ?_
                rotate_left
                ·intro w'
                 go_simp
                 with_reducible rfl
                rotate_left
                ·simp only [Act.put, List.setIfInBounds_toArray, List.set_cons_zero, List.set_cons_succ, i64_w, i32_w]
                 rfl
                refine pure_ (i := 3) (N := some 97) (v := ?_) (a' := ?_) #[true, true, true, true, false, false, false, false, false, false, false, false, false, false, false, false, false] rfl rfl (any_of HT_.out (by kernel_rfl)) (fun _ _ _ h => h) (Or.inl ⟨by rfl, ?_⟩) ?_ ?_
                rotate_left
                ·intro w'
                 go_simp
                 with_reducible rfl
                rotate_left
                ·simp only [Act.put, List.setIfInBounds_toArray, List.set_cons_zero, List.set_cons_succ, i64_w, i32_w]
                 rfl
                refine pure_ (i := 4) (N := some 98) (v := ?_) (a' := ?_) #[true, true, true, true, true, false, false, false, false, false, false, false, false, false, false, false, false] rfl rfl (any_of HT_.out (by kernel_rfl)) (fun _ _ _ h => h) (Or.inl ⟨by rfl, ?_⟩) ?_ ?_
                rotate_left
                ·intro w'
                 go_simp
                 with_reducible rfl
                rotate_left
                ·simp only [Act.put, List.setIfInBounds_toArray, List.set_cons_zero, List.set_cons_succ, i64_w, i32_w]
                 rfl
                refine pure_ (i := 7) (N := some 101) (v := ?_) (a' := ?_) #[true, true, true, true, true, false, false, true, false, false, false, false, false, false, false, false, false] rfl rfl (any_of HT_.out (by kernel_rfl)) (fun _ _ _ h => h) (Or.inl ⟨by rfl, ?_⟩) ?_ ?_
                rotate_left
                ·intro w'
                 go_simp
                 with_reducible rfl
                rotate_left
                ·simp only [Act.put, List.setIfInBounds_toArray, List.set_cons_zero, List.set_cons_succ, i64_w, i32_w]
                 rfl
                refine pure_ (i := 8) (N := some 102) (v := ?_) (a' := ?_) #[true, true, true, true, true, false, false, true, true, false, false, false, false, false, false, false, false] rfl rfl (any_of HT_.out (by kernel_rfl)) (fun _ _ _ h => h) (Or.inl ⟨by rfl, ?_⟩) ?_ ?_
                rotate_left
                ·intro w'
                 go_simp
                 with_reducible rfl
                rotate_left
                ·simp only [Act.put, List.setIfInBounds_toArray, List.set_cons_zero, List.set_cons_succ, i64_w, i32_w]
                 rfl
                refine pure_ (i := 9) (N := some 103) (v := ?_) (a' := ?_) #[true, true, true, true, true, false, false, true, true, true, false, false, false, false, false, false, false] rfl rfl (any_of HT_.out (by kernel_rfl)) (fun _ _ _ h => h) (Or.inl ⟨by rfl, ?_⟩) ?_ ?_
                rotate_left
                ·intro w'
                 go_simp
                 with_reducible rfl
                rotate_left
                ·simp only [Act.put, List.setIfInBounds_toArray, List.set_cons_zero, List.set_cons_succ, i64_w, i32_w]
                 rfl
                refine pure_ (i := 10) (N := some 104) (v := ?_) (a' := ?_) #[true, true, true, true, true, false, false, true, true, true, true, false, false, false, false, false, false] rfl rfl (any_of HT_.out (by kernel_rfl)) (fun _ _ _ h => h) (Or.inl ⟨by rfl, ?_⟩) ?_ ?_
                rotate_left
                ·intro w'
                 go_simp
                 with_reducible rfl
                rotate_left
                ·simp only [Act.put, List.setIfInBounds_toArray, List.set_cons_zero, List.set_cons_succ, i64_w, i32_w]
                 rfl
                refine take_ (i := 5) (N := some 99) (v := ?_) (a' := ?_) #[true, true, true, true, true, true, false, true, true, true, true, false, false, false, false, false, false] rfl rfl (take_ofW HT_.out HW_.out (by kernel_rfl)) (fun _ _ _ h => h) (Or.inl ⟨by rfl, ?_⟩) hHeld ?_ ?_
                rotate_left
                ·rintro w' ⟨s0, s1, s2, s3⟩
                 go_simp
                 with_reducible rfl
                rotate_left
                ·simp only [Act.put, List.setIfInBounds_toArray, List.set_cons_zero, List.set_cons_succ, i64_w, i32_w]
                 rfl
                refine pure_ (i := 6) (N := some 100) (v := ?_) (a' := ?_) #[true, true, true, true, true, true, true, true, true, true, true, false, false, false, false, false, false] rfl rfl (any_of HT_.out (by kernel_rfl)) (fun _ _ _ h => h) (Or.inl ⟨by rfl, ?_⟩) ?_ ?_
                rotate_left
                ·intro w'
                 go_simp
                 with_reducible rfl
                rotate_left
                ·simp only [Act.put, List.setIfInBounds_toArray, List.set_cons_zero, List.set_cons_succ, i64_w, i32_w]
                 rfl
                refine take_ (i := 11) (N := some 105) (v := ?_) (a' := ?_) #[true, true, true, true, true, true, true, true, true, true, true, true, false, false, false, false, false] rfl rfl (take_ofW HT_.out HW_.out (by kernel_rfl)) (fun _ _ _ h => h) (Or.inl ⟨by rfl, ?_⟩) hHeld ?_ ?_
                rotate_left
                ·rintro w' ⟨s0, s1, s2, s3⟩
                 go_simp
                 with_reducible rfl
                rotate_left
                ·simp only [Act.put, List.setIfInBounds_toArray, List.set_cons_zero, List.set_cons_succ, i64_w, i32_w]
                 rfl
                refine pure_ (i := 12) (N := some 106) (v := ?_) (a' := ?_) #[true, true, true, true, true, true, true, true, true, true, true, true, true, false, false, false, false] rfl rfl (any_of HT_.out (by kernel_rfl)) (fun _ _ _ h => h) (Or.inl ⟨by rfl, ?_⟩) ?_ ?_
                rotate_left
                ·intro w'
                 go_simp
                 with_reducible rfl
                rotate_left
                ·simp only [Act.put, List.setIfInBounds_toArray, List.set_cons_zero, List.set_cons_succ, i64_w, i32_w]
                 rfl
                refine pure_ (i := 13) (N := some 107) (v := ?_) (a' := ?_) #[true, true, true, true, true, true, true, true, true, true, true, true, true, true, false, false, false] rfl rfl (any_of HT_.out (by kernel_rfl)) (fun _ _ _ h => h) (Or.inl ⟨by rfl, ?_⟩) ?_ ?_
                rotate_left
                ·intro w'
                 go_simp
                 with_reducible rfl
                rotate_left
                ·simp only [Act.put, List.setIfInBounds_toArray, List.set_cons_zero, List.set_cons_succ, i64_w, i32_w]
                 rfl
                refine last_ (i := 14) (N := some 108) #[true, true, true, true, true, true, true, true, true, true, true, true, true, true, true, false, false] rfl rfl (one_of HT_.out (by kernel_rfl)) (by decide) (fun K hK => ?_)
                refine value_ (w1 := ?_) (v := ?_) (by rfl) rfl ?_ ?_
                rotate_left 2
                ·go_simp
                 constructor
                 ·rfl
                 ·rfl
                refine hK.out _ _ ?_
                clear hK K
                refine norm_ (a' := ?_) ?_ ?_
                rotate_left
                ·show Act.put _ (some 108) _ = _
                 simp only [Act.put, List.setIfInBounds_toArray, List.set_cons_zero, List.set_cons_succ, i64_w, i32_w]
                 rfl
                refine last_ (i := 15) (N := some 109) #[true, true, true, true, true, true, true, true, true, true, true, true, true, true, true, true, false] rfl rfl (one_of HT_.out (by kernel_rfl)) (by decide) (fun K hK => ?_)
                refine Kd.R_append_step k30 (w0 := w) w.heap.size (by rfl) (.tmp 94) (.tmp 108) 25 30 (.agg #[(.int .i64 0), (.int .i64 0)]) 16 rfl Try.underlying25 info30 rfl (by decide) (by omega) u16 x16_3 (⟨wrap64 (-((rd_T30 t567 x17_3).f0)), wrap64 (-((rd_T30 t567 x17_3).f1))⟩ : S30) [.int .i64 (wrap64 (-((rd_T30 t567 x17_3).f0))), .int .i64 (wrap64 (-((rd_T30 t567 x17_3).f1)))] (fun k_ => some k_ ≠ (.slice (some ad594) t567.length co13 : Value).ownBlock ∧ k_ ≠ gb570 ∧ k_ ≠ gb574 ∧ k_ ≠ gb578 ∧ k_ ≠ gb586 ∧ k_ ≠ gb590) (fun _ => False) rfl rfl ?aP (fun _ hk => hk.elim) ?aF ?aO ?aB ?aS ?aL ?_
                (case aP => exact k30_mkM _ _ _ (⟨wrap64 (-((rd_T30 t567 x17_3).f0)), wrap64 (-((rd_T30 t567 x17_3).f1))⟩ : S30))
                (case aB => exact (by repeat (first | (with_reducible first | exact HB.out | apply below_alloc | apply pw_below_drewN | apply below_drew1 | refine below_set ?_ GE570.out | refine below_set ?_ GE574.out | refine below_set ?_ GE578.out | refine below_set ?_ GE586.out | refine below_set ?_ GE590.out) | exact HB.out)))
                (case aF => exact (fun k_ hk => ⟨Kd.fresh' (Kd.R_lt (by (with_reducible repeat (first | apply Kd.R_alloc | apply Kd.R_drewN | apply Kd.R_drew)); exact HO_6.out)) k_ hk, Kd.freshB (g := gb570) (o := .cells #[.int .i64 t565, .int .i64 t566] 30 (0, 0)) (by (with_reducible repeat (first | refine blk_drewN ?_ _ | refine blk_drew ?_ | refine blk_alloc ?_ _)); exact BK570.out) k_ hk, Kd.freshB (g := gb574) (o := .cells #[.int .i64 t571, .int .i64 t572] 30 (0, 0)) (by (with_reducible repeat (first | refine blk_drewN ?_ _ | refine blk_drew ?_ | refine blk_alloc ?_ _)); exact BK574.out) k_ hk, Kd.freshB (g := gb578) (o := .cells #[.int .i64 t575, .int .i64 t576] 30 (0, 0)) (by (with_reducible repeat (first | refine blk_drewN ?_ _ | refine blk_drew ?_ | refine blk_alloc ?_ _)); exact BK578.out) k_ hk, Kd.freshB (g := gb586) (o := .cells #[.int .i64 t583, .int .i64 t584] 30 (0, 0)) (by (with_reducible repeat (first | refine blk_drewN ?_ _ | refine blk_drew ?_ | refine blk_alloc ?_ _)); exact BK586.out) k_ hk, Kd.freshB (g := gb590) (o := .cells #[.int .i64 t587, .int .i64 t588] 30 (0, 0)) (by (with_reducible repeat (first | refine blk_drewN ?_ _ | refine blk_drew ?_ | refine blk_alloc ?_ _)); exact BK590.out) k_ hk⟩))
                (case aO => exact (by (with_reducible repeat (first | apply Kd.R_alloc | apply Kd.R_drewN | apply Kd.R_drew)); exact HO_16.out))
                (case aS => exact (below_size (by repeat (first | (with_reducible first | exact HB.out | apply below_alloc | apply pw_below_drewN | apply below_drew1 | refine below_set ?_ GE570.out | refine below_set ?_ GE574.out | refine below_set ?_ GE578.out | refine below_set ?_ GE586.out | refine below_set ?_ GE590.out) | exact HB.out))))
                (case aL => have := LMc68.out; omega)
                intro v597 w70 ho hb hg hat
                rw [← Ny596.out] at ho
                have n0_ := Aside0.mk (Kd.R_after (ok := (fun k_ => k_ ≠ gb570 ∧ k_ ≠ gb574 ∧ k_ ≠ gb578 ∧ k_ ≠ gb586 ∧ k_ ≠ gb590)) (by (with_reducible repeat (first | apply Kd.R_alloc | apply Kd.R_drewN | apply Kd.R_drew)); exact Kd.R_mono HO_6.out (fun _ hk => ⟨⟨hk.2.1, ⟨hk.2.2.1, ⟨hk.2.2.2.1, ⟨hk.2.2.2.2.1, hk.2.2.2.2.2⟩⟩⟩⟩, hk.1⟩)) hg hat)
                have n1_ := Aside0.mk (blk_grown (g := gb570) (o := .cells #[.int .i64 t565, .int .i64 t566] 30 (0, 0)) (by (with_reducible repeat (first | refine blk_drewN ?_ _ | refine blk_drew ?_ | refine blk_alloc ?_ _)); exact BK570.out) hg (Kd.R_away HO_16.out (fun _ hk => hk.2.1)))
                have n2_ := Aside0.mk (blk_grown (g := gb574) (o := .cells #[.int .i64 t571, .int .i64 t572] 30 (0, 0)) (by (with_reducible repeat (first | refine blk_drewN ?_ _ | refine blk_drew ?_ | refine blk_alloc ?_ _)); exact BK574.out) hg (Kd.R_away HO_16.out (fun _ hk => hk.2.2.1)))
                have n3_ := Aside0.mk (blk_grown (g := gb578) (o := .cells #[.int .i64 t575, .int .i64 t576] 30 (0, 0)) (by (with_reducible repeat (first | refine blk_drewN ?_ _ | refine blk_drew ?_ | refine blk_alloc ?_ _)); exact BK578.out) hg (Kd.R_away HO_16.out (fun _ hk => hk.2.2.2.1)))
                have n4_ := Aside0.mk (blk_grown (g := gb586) (o := .cells #[.int .i64 t583, .int .i64 t584] 30 (0, 0)) (by (with_reducible repeat (first | refine blk_drewN ?_ _ | refine blk_drew ?_ | refine blk_alloc ?_ _)); exact BK586.out) hg (Kd.R_away HO_16.out (fun _ hk => hk.2.2.2.2.1)))
                have n5_ := Aside0.mk (blk_grown (g := gb590) (o := .cells #[.int .i64 t587, .int .i64 t588] 30 (0, 0)) (by (with_reducible repeat (first | refine blk_drewN ?_ _ | refine blk_drew ?_ | refine blk_alloc ?_ _)); exact BK590.out) hg (Kd.R_away HO_16.out (fun _ hk => hk.2.2.2.2.2)))
                have n6_ := Aside0.mk (hb)
                have n7_ := Aside0.mk (ho)
                clear HO_6
                clear BK570
                clear BK574
                clear BK578
                clear BK586
                clear BK590
                clear HB
                clear HO_16
                have HO_6 := n0_
                have BK570 := n1_
                have BK574 := n2_
                have BK578 := n3_
                have BK586 := n4_
                have BK590 := n5_
                have HB := n6_
                have HO598 := n7_
                clear n0_ n1_ n2_ n3_ n4_ n5_ n6_ n7_
                clear ho hb hg hat
                refine hK.out _ _ ?_
                clear hK K
                refine norm_ (a' := ?_) ?_ ?_
                rotate_left
                ·show Act.put _ (some 109) _ = _
                 simp only [Act.put, List.setIfInBounds_toArray, List.set_cons_zero, List.set_cons_succ, i64_w, i32_w]
                 rfl
                refine pure_ (i := 16) (N := some 16) (v := ?_) (a' := ?_) #[true, true, true, true, true, true, true, true, true, true, true, true, true, true, true, true, true] rfl rfl (any_of HT_.out (by kernel_rfl)) (fun _ _ _ h => h) (Or.inl ⟨by rfl, ?_⟩) ?_ ?_
                rotate_left
                ·intro w'
                 go_simp
                 with_reducible rfl
                rotate_left
                ·simp only [Act.put, List.setIfInBounds_toArray, List.set_cons_zero, List.set_cons_succ, i64_w, i32_w]
                 rfl
                refine done_ (done_of HT_.out (by kernel_rfl)) ?_
                try go_wp2
                go_roundg k3
                case measure => have := HJ2.out; have := HJ8.out; have := HK3.out; omega
                case rel => exact ⟨(y596), (wrap64 (x17_3 - 1)), (by first | rfl | (simp; done) | (simp [*]; done)), H', ⟨by have := HJ2.out; have := HJ8.out; have := HK3.out; omega⟩, ⟨by (with_reducible repeat (first | apply Kd.R_alloc | apply Kd.R_drewN | apply Kd.R_drew)); exact Kd.R_mono HO_6.out (fun _ hk => ⟨hk.2, ⟨hk.1.1, ⟨hk.1.2.1, ⟨hk.1.2.2.1, ⟨hk.1.2.2.2.1, hk.1.2.2.2.2⟩⟩⟩⟩⟩)⟩, ⟨by (with_reducible repeat (first | apply Kd.R_alloc | apply Kd.R_drewN | apply Kd.R_drew)); exact HO598.out⟩, ⟨by (with_reducible repeat (first | refine blk_drewN ?_ _ | refine blk_drew ?_ | refine blk_alloc ?_ _)); exact BK570.out⟩, ⟨by (with_reducible repeat (first | refine blk_drewN ?_ _ | refine blk_drew ?_ | refine blk_alloc ?_ _)); exact BK574.out⟩, ⟨by (with_reducible repeat (first | refine blk_drewN ?_ _ | refine blk_drew ?_ | refine blk_alloc ?_ _)); exact BK578.out⟩, ⟨by (with_reducible repeat (first | refine blk_drewN ?_ _ | refine blk_drew ?_ | refine blk_alloc ?_ _)); exact BK586.out⟩, ⟨by (with_reducible repeat (first | refine blk_drewN ?_ _ | refine blk_drew ?_ | refine blk_alloc ?_ _)); exact BK590.out⟩, ⟨by repeat (first | (with_reducible first | exact HB.out | apply below_alloc | apply pw_below_drewN | apply below_drew1 | refine below_set ?_ GE570.out | refine below_set ?_ GE574.out | refine below_set ?_ GE578.out | refine below_set ?_ GE586.out | refine below_set ?_ GE590.out) | exact HB.out)⟩⟩
               ·rw [if_neg c68] at H
                exact absurd H (by simp)
              ·rw [if_neg c67] at H
               exact absurd H (by simp)
             ·rw [if_neg c66] at H
              exact absurd H (by simp)
            ·rw [if_neg c65] at H
             have c65b0 : decide (0 ≤ x17_3) = false := decide_eq_false c65
             clear c65
             replace H := Option.bind_eq_some_iff.mp H
             obtain ⟨⟨t599, t600, t601⟩, A710, H⟩ := H
             replace H : (if t585 = true then (if t589 = true then (if t601 = true then (if (!(t599 == t565) || (!(t600 == t566))) = true then (laws_FnTravel.j3 k3 t567 ji44 true t571 t572 t583 t584) else (if t571 = (wrap64 (t565 + t587)) then (laws_FnTravel.j3 k3 t567 ji44 (t572 != (wrap64 (t566 + t588))) t571 t572 t583 t584) else (laws_FnTravel.j3 k3 t567 ji44 true t571 t572 t583 t584))) else (laws_FnTravel.j3 k3 t567 ji44 true t571 t572 t583 t584)) else (laws_FnTravel.j3 k3 t567 ji44 true t571 t572 t583 t584)) else (laws_FnTravel.j3 k3 t567 ji44 true t571 t572 t583 t584)) = some r := H
             have A71 := Aside0.mk A710
             clear A710
             have HC72 := Aside0.mk H
             clear H
             have hnb73 := NB574_570.out
             have hnc73 := NB570_574.out
             have hnb74 := NB574_578.out
             have hnc74 := NB578_574.out
             have hnb75 := NB574_586.out
             have hnc75 := NB586_574.out
             have hnb76 := NB574_590.out
             have hnc76 := NB590_574.out
             have hcz77_0 : wr.cell? ⟨gb574, 0, none⟩ = some (.int .i64 t571) := (blk_cell BK574.out 0).trans rfl
             have hcz77_1 : wr.cell? ⟨gb574, 1, none⟩ = some (.int .i64 t572) := (blk_cell BK574.out 1).trans rfl
             have hfz77_0 := blk_frozen BK574.out 0
             have hfz77_1 := blk_frozen BK574.out 1
             obtain ⟨Ao78, co78, eo78⟩ := Kd.R_slice HO_16.out
             subst eo78
             go_upto_region 17 with (first | ((with_reducible refine gate_callee (f := 26) rfl ?_); refine goesL_ (some 113) rfl rfl Try.func26 (by kernel_rfl) rfl #[.agg #[.int .i64 t571, .int .i64 t572], .slice Ao78 x16_3.length co78] rfl (by (try simp only [List.map_toArray, List.map_cons, List.map_nil]); first | done | rfl | (simp only [List.length_drop, List.length_take]; rfl)) ?_; (with_reducible refine (impl_TravelEnd.calls k3 t571 t572 _ _ x16_3 t599 t600 t601 _ ?side1 ?side2 A71.out).mono ?_); (case side1 => repeat (first | exact (Kd.R_reads' HO_16.out).2.2 | (with_reducible refine Kd.C_alloc ?_ _) | (with_reducible refine Kd.C_drewN ?_ _) | (with_reducible refine Kd.C_drew ?_))); (case side2 => exact (Kd.R_reads' HO_16.out).2.1); rintro e w79 ⟨rfl, hb⟩; refine ⟨_, rfl, ?_⟩; have n0_ := Aside0.mk (Kd.R_below (by (with_reducible repeat (first | apply Kd.R_alloc | apply Kd.R_drewN | apply Kd.R_drew)); exact HO_6.out) hb); have n1_ := Aside0.mk (Kd.R_below (by (with_reducible repeat (first | apply Kd.R_alloc | apply Kd.R_drewN | apply Kd.R_drew)); exact HO_16.out) hb); have n2_ := Aside0.mk (blk_below (g := gb570) (o := .cells #[.int .i64 t565, .int .i64 t566] 30 (0, 0)) (by (with_reducible repeat (first | refine blk_drewN ?_ _ | refine blk_drew ?_ | refine blk_alloc ?_ _)); exact BK570.out) hb); have n3_ := Aside0.mk (blk_below (g := gb574) (o := .cells #[.int .i64 t571, .int .i64 t572] 30 (0, 0)) (by (with_reducible repeat (first | refine blk_drewN ?_ _ | refine blk_drew ?_ | refine blk_alloc ?_ _)); exact BK574.out) hb); have n4_ := Aside0.mk (blk_below (g := gb578) (o := .cells #[.int .i64 t575, .int .i64 t576] 30 (0, 0)) (by (with_reducible repeat (first | refine blk_drewN ?_ _ | refine blk_drew ?_ | refine blk_alloc ?_ _)); exact BK578.out) hb); have n5_ := Aside0.mk (blk_below (g := gb586) (o := .cells #[.int .i64 t583, .int .i64 t584] 30 (0, 0)) (by (with_reducible repeat (first | refine blk_drewN ?_ _ | refine blk_drew ?_ | refine blk_alloc ?_ _)); exact BK586.out) hb); have n6_ := Aside0.mk (blk_below (g := gb590) (o := .cells #[.int .i64 t587, .int .i64 t588] 30 (0, 0)) (by (with_reducible repeat (first | refine blk_drewN ?_ _ | refine blk_drew ?_ | refine blk_alloc ?_ _)); exact BK590.out) hb); have n7_ := Aside0.mk (below_step (by repeat (first | (with_reducible first | exact HB.out | apply below_alloc | apply pw_below_drewN | apply below_drew1 | refine below_set ?_ GE570.out | refine below_set ?_ GE574.out | refine below_set ?_ GE578.out | refine below_set ?_ GE586.out | refine below_set ?_ GE590.out) | exact HB.out)) hb); clear HO_6; clear HO_16; clear BK570; clear BK574; clear BK578; clear BK586; clear BK590; clear HB; have HO_6 := n0_; have HO_16 := n1_; have BK570 := n2_; have BK574 := n3_; have BK578 := n4_; have BK586 := n5_; have BK590 := n6_; have HB := n7_; clear n0_ n1_ n2_ n3_ n4_ n5_ n6_ n7_; (try clear hb); (try clear hb2); (try clear hk); (try clear hi)) | ((with_reducible refine gate_dst (N := 18) rfl ?_); (try (refine gate_guard (by rfl) ?_; dsimp only)); refine box_event ?hg (N := 18) ?hd (cs := #[.int .i64 0, .int .i64 0]) (t := 30) ?hr ?_; (case hd => rfl); (case hg => rfl); (case hr => first | (go_simp; done) | (go_simp; rfl)); intro gb602 hg w80 hbox hb; have n0_ := Aside0.mk (Kd.R_below (Kd.R_elderB (by (with_reducible repeat (first | apply Kd.R_alloc | apply Kd.R_drewN | apply Kd.R_drew)); exact HO_6.out) gb602 (Nat.le_of_eq hg.symm)) hb); have n1_ := Aside0.mk (Kd.R_below (Kd.R_elderB (by (with_reducible repeat (first | apply Kd.R_alloc | apply Kd.R_drewN | apply Kd.R_drew)); exact HO_16.out) gb602 (Nat.le_of_eq hg.symm)) hb); have n2_ := Aside0.mk (blk_below (g := gb570) (o := .cells #[.int .i64 t565, .int .i64 t566] 30 (0, 0)) (by (with_reducible repeat (first | refine blk_drewN ?_ _ | refine blk_drew ?_ | refine blk_alloc ?_ _)); exact BK570.out) hb); have n3_ := Aside0.mk (blk_below (g := gb574) (o := .cells #[.int .i64 t571, .int .i64 t572] 30 (0, 0)) (by (with_reducible repeat (first | refine blk_drewN ?_ _ | refine blk_drew ?_ | refine blk_alloc ?_ _)); exact BK574.out) hb); have n4_ := Aside0.mk (blk_below (g := gb578) (o := .cells #[.int .i64 t575, .int .i64 t576] 30 (0, 0)) (by (with_reducible repeat (first | refine blk_drewN ?_ _ | refine blk_drew ?_ | refine blk_alloc ?_ _)); exact BK578.out) hb); have n5_ := Aside0.mk (blk_below (g := gb586) (o := .cells #[.int .i64 t583, .int .i64 t584] 30 (0, 0)) (by (with_reducible repeat (first | refine blk_drewN ?_ _ | refine blk_drew ?_ | refine blk_alloc ?_ _)); exact BK586.out) hb); have n6_ := Aside0.mk (blk_below (g := gb590) (o := .cells #[.int .i64 t587, .int .i64 t588] 30 (0, 0)) (by (with_reducible repeat (first | refine blk_drewN ?_ _ | refine blk_drew ?_ | refine blk_alloc ?_ _)); exact BK590.out) hb); have n7_ := Aside0.mk (below_step (by repeat (first | (with_reducible first | exact HB.out | apply below_alloc | apply pw_below_drewN | apply below_drew1 | refine below_set ?_ GE570.out | refine below_set ?_ GE574.out | refine below_set ?_ GE578.out | refine below_set ?_ GE586.out | refine below_set ?_ GE590.out) | exact HB.out)) hb); have n8_ := Aside0.mk (hbox); have n9_ := Aside0.mk ((by rw [hg]; exact (below_size (by repeat (first | (with_reducible first | exact HB.out | apply below_alloc | apply pw_below_drewN | apply below_drew1 | refine below_set ?_ GE570.out | refine below_set ?_ GE574.out | refine below_set ?_ GE578.out | refine below_set ?_ GE586.out | refine below_set ?_ GE590.out) | exact HB.out))) : w.heap.size ≤ gb602)); have n10_ := Aside0.mk ((by rw [hg]; exact (below_size (by repeat (first | (with_reducible first | exact HB.out | apply below_alloc | apply pw_below_drewN | apply below_drew1 | refine below_set ?_ GE570.out | refine below_set ?_ GE574.out | refine below_set ?_ GE578.out | refine below_set ?_ GE586.out | refine below_set ?_ GE590.out) | exact HB.out))) : w.heap.size ≤ gb602)); have n11_ := Aside0.mk ((by rw [hg]; exact Nat.ne_of_lt (blk_lt (g := gb570) (o := .cells #[.int .i64 t565, .int .i64 t566] 30 (0, 0)) (by (with_reducible repeat (first | refine blk_drewN ?_ _ | refine blk_drew ?_ | refine blk_alloc ?_ _)); exact BK570.out)) : gb570 ≠ gb602)); have n12_ := Aside0.mk ((by rw [hg]; exact Nat.ne_of_gt (blk_lt (g := gb570) (o := .cells #[.int .i64 t565, .int .i64 t566] 30 (0, 0)) (by (with_reducible repeat (first | refine blk_drewN ?_ _ | refine blk_drew ?_ | refine blk_alloc ?_ _)); exact BK570.out)) : gb602 ≠ gb570)); have n13_ := Aside0.mk ((by rw [hg]; exact Nat.ne_of_lt (blk_lt (g := gb574) (o := .cells #[.int .i64 t571, .int .i64 t572] 30 (0, 0)) (by (with_reducible repeat (first | refine blk_drewN ?_ _ | refine blk_drew ?_ | refine blk_alloc ?_ _)); exact BK574.out)) : gb574 ≠ gb602)); have n14_ := Aside0.mk ((by rw [hg]; exact Nat.ne_of_gt (blk_lt (g := gb574) (o := .cells #[.int .i64 t571, .int .i64 t572] 30 (0, 0)) (by (with_reducible repeat (first | refine blk_drewN ?_ _ | refine blk_drew ?_ | refine blk_alloc ?_ _)); exact BK574.out)) : gb602 ≠ gb574)); have n15_ := Aside0.mk ((by rw [hg]; exact Nat.ne_of_lt (blk_lt (g := gb578) (o := .cells #[.int .i64 t575, .int .i64 t576] 30 (0, 0)) (by (with_reducible repeat (first | refine blk_drewN ?_ _ | refine blk_drew ?_ | refine blk_alloc ?_ _)); exact BK578.out)) : gb578 ≠ gb602)); have n16_ := Aside0.mk ((by rw [hg]; exact Nat.ne_of_gt (blk_lt (g := gb578) (o := .cells #[.int .i64 t575, .int .i64 t576] 30 (0, 0)) (by (with_reducible repeat (first | refine blk_drewN ?_ _ | refine blk_drew ?_ | refine blk_alloc ?_ _)); exact BK578.out)) : gb602 ≠ gb578)); have n17_ := Aside0.mk ((by rw [hg]; exact Nat.ne_of_lt (blk_lt (g := gb586) (o := .cells #[.int .i64 t583, .int .i64 t584] 30 (0, 0)) (by (with_reducible repeat (first | refine blk_drewN ?_ _ | refine blk_drew ?_ | refine blk_alloc ?_ _)); exact BK586.out)) : gb586 ≠ gb602)); have n18_ := Aside0.mk ((by rw [hg]; exact Nat.ne_of_gt (blk_lt (g := gb586) (o := .cells #[.int .i64 t583, .int .i64 t584] 30 (0, 0)) (by (with_reducible repeat (first | refine blk_drewN ?_ _ | refine blk_drew ?_ | refine blk_alloc ?_ _)); exact BK586.out)) : gb602 ≠ gb586)); have n19_ := Aside0.mk ((by rw [hg]; exact Nat.ne_of_lt (blk_lt (g := gb590) (o := .cells #[.int .i64 t587, .int .i64 t588] 30 (0, 0)) (by (with_reducible repeat (first | refine blk_drewN ?_ _ | refine blk_drew ?_ | refine blk_alloc ?_ _)); exact BK590.out)) : gb590 ≠ gb602)); have n20_ := Aside0.mk ((by rw [hg]; exact Nat.ne_of_gt (blk_lt (g := gb590) (o := .cells #[.int .i64 t587, .int .i64 t588] 30 (0, 0)) (by (with_reducible repeat (first | refine blk_drewN ?_ _ | refine blk_drew ?_ | refine blk_alloc ?_ _)); exact BK590.out)) : gb602 ≠ gb590)); clear HO_6; clear HO_16; clear BK570; clear BK574; clear BK578; clear BK586; clear BK590; clear HB; have HO_6 := n0_; have HO_16 := n1_; have BK570 := n2_; have BK574 := n3_; have BK578 := n4_; have BK586 := n5_; have BK590 := n6_; have HB := n7_; have BK602 := n8_; have GW602 := n9_; have GE602 := n10_; have NB570_602 := n11_; have NB602_570 := n12_; have NB574_602 := n13_; have NB602_574 := n14_; have NB578_602 := n15_; have NB602_578 := n16_; have NB586_602 := n17_; have NB602_586 := n18_; have NB590_602 := n19_; have NB602_590 := n20_; clear n0_ n1_ n2_ n3_ n4_ n5_ n6_ n7_ n8_ n9_ n10_ n11_ n12_ n13_ n14_ n15_ n16_ n17_ n18_ n19_ n20_; clear hb hbox hg; have hnb81 := NB602_570.out; have hnc81 := NB570_602.out; have hnb82 := NB602_574.out; have hnc82 := NB574_602.out; have hnb83 := NB602_578.out; have hnc83 := NB578_602.out; have hnb84 := NB602_586.out; have hnc84 := NB586_602.out; have hnb85 := NB602_590.out; have hnc85 := NB590_602.out; have hcz86_0 : w80.cell? ⟨gb602, 0, none⟩ = some (.int .i64 0) := (blk_cell BK602.out 0).trans rfl; have hcz86_1 : w80.cell? ⟨gb602, 1, none⟩ = some (.int .i64 0) := (blk_cell BK602.out 1).trans rfl; have hfz86_0 := blk_frozen BK602.out 0; have hfz86_1 := blk_frozen BK602.out 1))
             (try simp only [Act.put, List.setIfInBounds_toArray, List.set_cons_zero, List.set_cons_succ])
             go_cut [150] (fun v150 wc => ∃ (kq : Nat) (x150_71 : Bool), v150 = .bool x150_71 ∧ Aside0 (laws_FnTravel.j3 kq t567 ji44 x150_71 t571 t572 t583 t584 = some r) ∧ Aside0 (kq ≤ k3) ∧ Aside0 (Kd.R k30 30 wc w.heap.size (fun k_ => k_ ≠ gb570 ∧ k_ ≠ gb574 ∧ k_ ≠ gb578 ∧ k_ ≠ gb586 ∧ k_ ≠ gb590 ∧ k_ ≠ gb602) (.slice Ao13 t567.length co13) t567) ∧ Aside0 (wc.heap[gb570]? = some (.cells #[.int .i64 t565, .int .i64 t566] 30 (0, 0))) ∧ Aside0 (wc.heap[gb574]? = some (.cells #[.int .i64 t571, .int .i64 t572] 30 (0, 0))) ∧ Aside0 (wc.heap[gb578]? = some (.cells #[.int .i64 t575, .int .i64 t576] 30 (0, 0))) ∧ Aside0 (wc.heap[gb586]? = some (.cells #[.int .i64 t583, .int .i64 t584] 30 (0, 0))) ∧ Aside0 (wc.heap[gb590]? = some (.cells #[.int .i64 t587, .int .i64 t588] 30 (0, 0))) ∧ Aside0 (wc.heap[gb602]? = some (.cells #[.int .i64 t599, .int .i64 t600] 30 (0, 0))) ∧ Aside0 (Below w.heap.size w wc))
             case first =>
              have H := HC72.out
              clear HC72
              by_cases c87 : t585 = true
              ·subst c87
               have H1 : (if t589 = true then (if t601 = true then (if (!(t599 == t565) || (!(t600 == t566))) = true then (laws_FnTravel.j3 k3 t567 ji44 true t571 t572 t583 t584) else (if t571 = (wrap64 (t565 + t587)) then (laws_FnTravel.j3 k3 t567 ji44 (t572 != (wrap64 (t566 + t588))) t571 t572 t583 t584) else (laws_FnTravel.j3 k3 t567 ji44 true t571 t572 t583 t584))) else (laws_FnTravel.j3 k3 t567 ji44 true t571 t572 t583 t584)) else (laws_FnTravel.j3 k3 t567 ji44 true t571 t572 t583 t584)) = some r := by rw [if_pos rfl] at H; exact H
               clear H
               have H := H1
               clear H1
               by_cases c88 : t589 = true
               ·subst c88
                have H1 : (if t601 = true then (if (!(t599 == t565) || (!(t600 == t566))) = true then (laws_FnTravel.j3 k3 t567 ji44 true t571 t572 t583 t584) else (if t571 = (wrap64 (t565 + t587)) then (laws_FnTravel.j3 k3 t567 ji44 (t572 != (wrap64 (t566 + t588))) t571 t572 t583 t584) else (laws_FnTravel.j3 k3 t567 ji44 true t571 t572 t583 t584))) else (laws_FnTravel.j3 k3 t567 ji44 true t571 t572 t583 t584)) = some r := by rw [if_pos rfl] at H; exact H
                clear H
                have H := H1
                clear H1
                by_cases c89 : t601 = true
                ·subst c89
                 have H1 : (if (!(t599 == t565) || (!(t600 == t566))) = true then (laws_FnTravel.j3 k3 t567 ji44 true t571 t572 t583 t584) else (if t571 = (wrap64 (t565 + t587)) then (laws_FnTravel.j3 k3 t567 ji44 (t572 != (wrap64 (t566 + t588))) t571 t572 t583 t584) else (laws_FnTravel.j3 k3 t567 ji44 true t571 t572 t583 t584))) = some r := by rw [if_pos rfl] at H; exact H
                 clear H
                 have H := H1
                 clear H1
                 by_cases c90 : (!(t599 == t565) || (!(t600 == t566))) = true
                 ·rw [if_pos c90] at H
                  have c90b0 : (!(t599 == t565) || (!(t600 == t566))) = true := c90
                  clear c90
                  (first | rw [c90b0] | (simp only [i64_w, i32_w]; rw [c90b0]) | skip)
                  have H' := Aside0.mk H
                  clear H
                  have hnb91 := NB602_570.out
                  have hnc91 := NB570_602.out
                  have hnb92 := NB602_574.out
                  have hnc92 := NB574_602.out
                  have hnb93 := NB602_578.out
                  have hnc93 := NB578_602.out
                  have hnb94 := NB602_586.out
                  have hnc94 := NB586_602.out
                  have hnb95 := NB602_590.out
                  have hnc95 := NB590_602.out
                  have hcz96_0 : w80.cell? ⟨gb602, 0, none⟩ = some (.int .i64 0) := (blk_cell BK602.out 0).trans rfl
                  have hcz96_1 : w80.cell? ⟨gb602, 1, none⟩ = some (.int .i64 0) := (blk_cell BK602.out 1).trans rfl
                  have hfz96_0 := blk_frozen BK602.out 0
                  have hfz96_1 := blk_frozen BK602.out 1
                  have hnb97 := NB570_574.out
                  have hnc97 := NB574_570.out
                  have hnb98 := NB570_578.out
                  have hnc98 := NB578_570.out
                  have hnb99 := NB570_586.out
                  have hnc99 := NB586_570.out
                  have hnb100 := NB570_590.out
                  have hnc100 := NB590_570.out
                  have hcz101_0 : w80.cell? ⟨gb570, 0, none⟩ = some (.int .i64 t565) := (blk_cell BK570.out 0).trans rfl
                  have hcz101_1 : w80.cell? ⟨gb570, 1, none⟩ = some (.int .i64 t566) := (blk_cell BK570.out 1).trans rfl
                  have hfz101_0 := blk_frozen BK570.out 0
                  have hfz101_1 := blk_frozen BK570.out 1
                  go_wp2
                  go_meet
                  case rel => exact ⟨_, (true), (by first | rfl | (simp; done) | (simp [*]; done)), H', ⟨by have := HJ2.out; have := HJ8.out; have := HK3.out; first | omega | exact Nat.le_refl _⟩, ⟨by (with_reducible repeat (first | apply Kd.R_alloc | apply Kd.R_drewN | apply Kd.R_drew)); exact Kd.R_mono (Kd.R_far (p := ⟨gb602, 1, none⟩) (Kd.R_far (p := ⟨gb602, 0, none⟩) (Kd.R_mono HO_6.out (fun k_ hk => (⟨hk, hk.2⟩ : _ ∧ k_ ≠ gb602))) (fun _ hk => hk.2) (.int .i64 t599)) (fun _ hk => hk.2) (.int .i64 t600)) (fun _ hk => ⟨hk.1.1.2.1, ⟨hk.1.1.2.2.1, ⟨hk.1.1.2.2.2.1, ⟨hk.1.1.2.2.2.2.1, ⟨hk.1.1.2.2.2.2.2, hk.1.2⟩⟩⟩⟩⟩)⟩, ⟨by (with_reducible repeat (first | refine blk_drewN ?_ _ | refine blk_drew ?_ | refine blk_alloc ?_ _)); refine blk_far ?_ NB570_602.out _; (with_reducible repeat (first | refine blk_drewN ?_ _ | refine blk_drew ?_ | refine blk_alloc ?_ _)); refine blk_far ?_ NB570_602.out _; (with_reducible repeat (first | refine blk_drewN ?_ _ | refine blk_drew ?_ | refine blk_alloc ?_ _)); exact BK570.out⟩, ⟨by (with_reducible repeat (first | refine blk_drewN ?_ _ | refine blk_drew ?_ | refine blk_alloc ?_ _)); refine blk_far ?_ NB574_602.out _; (with_reducible repeat (first | refine blk_drewN ?_ _ | refine blk_drew ?_ | refine blk_alloc ?_ _)); refine blk_far ?_ NB574_602.out _; (with_reducible repeat (first | refine blk_drewN ?_ _ | refine blk_drew ?_ | refine blk_alloc ?_ _)); exact BK574.out⟩, ⟨by (with_reducible repeat (first | refine blk_drewN ?_ _ | refine blk_drew ?_ | refine blk_alloc ?_ _)); refine blk_far ?_ NB578_602.out _; (with_reducible repeat (first | refine blk_drewN ?_ _ | refine blk_drew ?_ | refine blk_alloc ?_ _)); refine blk_far ?_ NB578_602.out _; (with_reducible repeat (first | refine blk_drewN ?_ _ | refine blk_drew ?_ | refine blk_alloc ?_ _)); exact BK578.out⟩, ⟨by (with_reducible repeat (first | refine blk_drewN ?_ _ | refine blk_drew ?_ | refine blk_alloc ?_ _)); refine blk_far ?_ NB586_602.out _; (with_reducible repeat (first | refine blk_drewN ?_ _ | refine blk_drew ?_ | refine blk_alloc ?_ _)); refine blk_far ?_ NB586_602.out _; (with_reducible repeat (first | refine blk_drewN ?_ _ | refine blk_drew ?_ | refine blk_alloc ?_ _)); exact BK586.out⟩, ⟨by (with_reducible repeat (first | refine blk_drewN ?_ _ | refine blk_drew ?_ | refine blk_alloc ?_ _)); refine blk_far ?_ NB590_602.out _; (with_reducible repeat (first | refine blk_drewN ?_ _ | refine blk_drew ?_ | refine blk_alloc ?_ _)); refine blk_far ?_ NB590_602.out _; (with_reducible repeat (first | refine blk_drewN ?_ _ | refine blk_drew ?_ | refine blk_alloc ?_ _)); exact BK590.out⟩, ⟨by (with_reducible repeat (first | refine blk_drewN ?_ _ | refine blk_drew ?_ | refine blk_alloc ?_ _)); refine blk_put (cs := #[.int .i64 t599, .int .i64 0]) ?_ 1 _ rfl; (with_reducible repeat (first | refine blk_drewN ?_ _ | refine blk_drew ?_ | refine blk_alloc ?_ _)); refine blk_put (cs := #[.int .i64 0, .int .i64 0]) ?_ 0 _ rfl; (with_reducible repeat (first | refine blk_drewN ?_ _ | refine blk_drew ?_ | refine blk_alloc ?_ _)); exact BK602.out⟩, ⟨by repeat (first | (with_reducible first | exact HB.out | apply below_alloc | apply pw_below_drewN | apply below_drew1 | refine below_set ?_ GE570.out | refine below_set ?_ GE574.out | refine below_set ?_ GE578.out | refine below_set ?_ GE586.out | refine below_set ?_ GE590.out | refine below_set ?_ GE602.out) | exact HB.out)⟩⟩
                 ·rw [if_neg c90] at H
                  have c90b0 : (!(t599 == t565) || (!(t600 == t566))) = false := by simpa using c90
                  clear c90
                  (first | rw [c90b0] | (simp only [i64_w, i32_w]; rw [c90b0]) | skip)
                  by_cases c102 : t571 = (wrap64 (t565 + t587))
                  ·rw [if_pos c102] at H
                   have c102b0 : (t571 == (wrap64 (t565 + t587))) = true := beq_iff_eq.mpr c102
                   have c102b1 : (t571 != (wrap64 (t565 + t587))) = false := bne_eq_false_iff_eq.mpr c102
                   clear c102
                   have H' := Aside0.mk H
                   clear H
                   have hnb103 := NB602_570.out
                   have hnc103 := NB570_602.out
                   have hnb104 := NB602_574.out
                   have hnc104 := NB574_602.out
                   have hnb105 := NB602_578.out
                   have hnc105 := NB578_602.out
                   have hnb106 := NB602_586.out
                   have hnc106 := NB586_602.out
                   have hnb107 := NB602_590.out
                   have hnc107 := NB590_602.out
                   have hcz108_0 : w80.cell? ⟨gb602, 0, none⟩ = some (.int .i64 0) := (blk_cell BK602.out 0).trans rfl
                   have hcz108_1 : w80.cell? ⟨gb602, 1, none⟩ = some (.int .i64 0) := (blk_cell BK602.out 1).trans rfl
                   have hfz108_0 := blk_frozen BK602.out 0
                   have hfz108_1 := blk_frozen BK602.out 1
                   have hnb109 := NB570_574.out
                   have hnc109 := NB574_570.out
                   have hnb110 := NB570_578.out
                   have hnc110 := NB578_570.out
                   have hnb111 := NB570_586.out
                   have hnc111 := NB586_570.out
                   have hnb112 := NB570_590.out
                   have hnc112 := NB590_570.out
                   have hcz113_0 : w80.cell? ⟨gb570, 0, none⟩ = some (.int .i64 t565) := (blk_cell BK570.out 0).trans rfl
                   have hcz113_1 : w80.cell? ⟨gb570, 1, none⟩ = some (.int .i64 t566) := (blk_cell BK570.out 1).trans rfl
                   have hfz113_0 := blk_frozen BK570.out 0
                   have hfz113_1 := blk_frozen BK570.out 1
                   have hnb114 := NB574_578.out
                   have hnc114 := NB578_574.out
                   have hnb115 := NB574_586.out
                   have hnc115 := NB586_574.out
                   have hnb116 := NB574_590.out
                   have hnc116 := NB590_574.out
                   have hcz117_0 : w80.cell? ⟨gb574, 0, none⟩ = some (.int .i64 t571) := (blk_cell BK574.out 0).trans rfl
                   have hcz117_1 : w80.cell? ⟨gb574, 1, none⟩ = some (.int .i64 t572) := (blk_cell BK574.out 1).trans rfl
                   have hfz117_0 := blk_frozen BK574.out 0
                   have hfz117_1 := blk_frozen BK574.out 1
                   have hnb118 := NB590_578.out
                   have hnc118 := NB578_590.out
                   have hnb119 := NB590_586.out
                   have hnc119 := NB586_590.out
                   have hcz120_0 : w80.cell? ⟨gb590, 0, none⟩ = some (.int .i64 t587) := (blk_cell BK590.out 0).trans rfl
                   have hcz120_1 : w80.cell? ⟨gb590, 1, none⟩ = some (.int .i64 t588) := (blk_cell BK590.out 1).trans rfl
                   have hfz120_0 := blk_frozen BK590.out 0
                   have hfz120_1 := blk_frozen BK590.out 1
                   go_wp2
                   go_meet
                   case rel => exact ⟨_, ((t572 != (wrap64 (t566 + t588)))), (by first | rfl | (simp; done) | (simp [*]; done)), H', ⟨by have := HJ2.out; have := HJ8.out; have := HK3.out; first | omega | exact Nat.le_refl _⟩, ⟨by (with_reducible repeat (first | apply Kd.R_alloc | apply Kd.R_drewN | apply Kd.R_drew)); exact Kd.R_mono (Kd.R_far (p := ⟨gb602, 1, none⟩) (Kd.R_far (p := ⟨gb602, 0, none⟩) (Kd.R_mono HO_6.out (fun k_ hk => (⟨hk, hk.2⟩ : _ ∧ k_ ≠ gb602))) (fun _ hk => hk.2) (.int .i64 t599)) (fun _ hk => hk.2) (.int .i64 t600)) (fun _ hk => ⟨hk.1.1.2.1, ⟨hk.1.1.2.2.1, ⟨hk.1.1.2.2.2.1, ⟨hk.1.1.2.2.2.2.1, ⟨hk.1.1.2.2.2.2.2, hk.1.2⟩⟩⟩⟩⟩)⟩, ⟨by (with_reducible repeat (first | refine blk_drewN ?_ _ | refine blk_drew ?_ | refine blk_alloc ?_ _)); refine blk_far ?_ NB570_602.out _; (with_reducible repeat (first | refine blk_drewN ?_ _ | refine blk_drew ?_ | refine blk_alloc ?_ _)); refine blk_far ?_ NB570_602.out _; (with_reducible repeat (first | refine blk_drewN ?_ _ | refine blk_drew ?_ | refine blk_alloc ?_ _)); exact BK570.out⟩, ⟨by (with_reducible repeat (first | refine blk_drewN ?_ _ | refine blk_drew ?_ | refine blk_alloc ?_ _)); refine blk_far ?_ NB574_602.out _; (with_reducible repeat (first | refine blk_drewN ?_ _ | refine blk_drew ?_ | refine blk_alloc ?_ _)); refine blk_far ?_ NB574_602.out _; (with_reducible repeat (first | refine blk_drewN ?_ _ | refine blk_drew ?_ | refine blk_alloc ?_ _)); exact BK574.out⟩, ⟨by (with_reducible repeat (first | refine blk_drewN ?_ _ | refine blk_drew ?_ | refine blk_alloc ?_ _)); refine blk_far ?_ NB578_602.out _; (with_reducible repeat (first | refine blk_drewN ?_ _ | refine blk_drew ?_ | refine blk_alloc ?_ _)); refine blk_far ?_ NB578_602.out _; (with_reducible repeat (first | refine blk_drewN ?_ _ | refine blk_drew ?_ | refine blk_alloc ?_ _)); exact BK578.out⟩, ⟨by (with_reducible repeat (first | refine blk_drewN ?_ _ | refine blk_drew ?_ | refine blk_alloc ?_ _)); refine blk_far ?_ NB586_602.out _; (with_reducible repeat (first | refine blk_drewN ?_ _ | refine blk_drew ?_ | refine blk_alloc ?_ _)); refine blk_far ?_ NB586_602.out _; (with_reducible repeat (first | refine blk_drewN ?_ _ | refine blk_drew ?_ | refine blk_alloc ?_ _)); exact BK586.out⟩, ⟨by (with_reducible repeat (first | refine blk_drewN ?_ _ | refine blk_drew ?_ | refine blk_alloc ?_ _)); refine blk_far ?_ NB590_602.out _; (with_reducible repeat (first | refine blk_drewN ?_ _ | refine blk_drew ?_ | refine blk_alloc ?_ _)); refine blk_far ?_ NB590_602.out _; (with_reducible repeat (first | refine blk_drewN ?_ _ | refine blk_drew ?_ | refine blk_alloc ?_ _)); exact BK590.out⟩, ⟨by (with_reducible repeat (first | refine blk_drewN ?_ _ | refine blk_drew ?_ | refine blk_alloc ?_ _)); refine blk_put (cs := #[.int .i64 t599, .int .i64 0]) ?_ 1 _ rfl; (with_reducible repeat (first | refine blk_drewN ?_ _ | refine blk_drew ?_ | refine blk_alloc ?_ _)); refine blk_put (cs := #[.int .i64 0, .int .i64 0]) ?_ 0 _ rfl; (with_reducible repeat (first | refine blk_drewN ?_ _ | refine blk_drew ?_ | refine blk_alloc ?_ _)); exact BK602.out⟩, ⟨by repeat (first | (with_reducible first | exact HB.out | apply below_alloc | apply pw_below_drewN | apply below_drew1 | refine below_set ?_ GE570.out | refine below_set ?_ GE574.out | refine below_set ?_ GE578.out | refine below_set ?_ GE586.out | refine below_set ?_ GE590.out | refine below_set ?_ GE602.out) | exact HB.out)⟩⟩
                  ·rw [if_neg c102] at H
                   have c102b0 : (t571 == (wrap64 (t565 + t587))) = false := beq_eq_false_iff_ne.mpr c102
                   have c102b1 : (t571 != (wrap64 (t565 + t587))) = true := bne_iff_ne.mpr c102
                   have H' := Aside0.mk H
                   clear H
                   have hnb121 := NB602_570.out
                   have hnc121 := NB570_602.out
                   have hnb122 := NB602_574.out
                   have hnc122 := NB574_602.out
                   have hnb123 := NB602_578.out
                   have hnc123 := NB578_602.out
                   have hnb124 := NB602_586.out
                   have hnc124 := NB586_602.out
                   have hnb125 := NB602_590.out
                   have hnc125 := NB590_602.out
                   have hcz126_0 : w80.cell? ⟨gb602, 0, none⟩ = some (.int .i64 0) := (blk_cell BK602.out 0).trans rfl
                   have hcz126_1 : w80.cell? ⟨gb602, 1, none⟩ = some (.int .i64 0) := (blk_cell BK602.out 1).trans rfl
                   have hfz126_0 := blk_frozen BK602.out 0
                   have hfz126_1 := blk_frozen BK602.out 1
                   have hnb127 := NB570_574.out
                   have hnc127 := NB574_570.out
                   have hnb128 := NB570_578.out
                   have hnc128 := NB578_570.out
                   have hnb129 := NB570_586.out
                   have hnc129 := NB586_570.out
                   have hnb130 := NB570_590.out
                   have hnc130 := NB590_570.out
                   have hcz131_0 : w80.cell? ⟨gb570, 0, none⟩ = some (.int .i64 t565) := (blk_cell BK570.out 0).trans rfl
                   have hcz131_1 : w80.cell? ⟨gb570, 1, none⟩ = some (.int .i64 t566) := (blk_cell BK570.out 1).trans rfl
                   have hfz131_0 := blk_frozen BK570.out 0
                   have hfz131_1 := blk_frozen BK570.out 1
                   have hnb132 := NB574_578.out
                   have hnc132 := NB578_574.out
                   have hnb133 := NB574_586.out
                   have hnc133 := NB586_574.out
                   have hnb134 := NB574_590.out
                   have hnc134 := NB590_574.out
                   have hcz135_0 : w80.cell? ⟨gb574, 0, none⟩ = some (.int .i64 t571) := (blk_cell BK574.out 0).trans rfl
                   have hcz135_1 : w80.cell? ⟨gb574, 1, none⟩ = some (.int .i64 t572) := (blk_cell BK574.out 1).trans rfl
                   have hfz135_0 := blk_frozen BK574.out 0
                   have hfz135_1 := blk_frozen BK574.out 1
                   have hnb136 := NB590_578.out
                   have hnc136 := NB578_590.out
                   have hnb137 := NB590_586.out
                   have hnc137 := NB586_590.out
                   have hcz138_0 : w80.cell? ⟨gb590, 0, none⟩ = some (.int .i64 t587) := (blk_cell BK590.out 0).trans rfl
                   have hcz138_1 : w80.cell? ⟨gb590, 1, none⟩ = some (.int .i64 t588) := (blk_cell BK590.out 1).trans rfl
                   have hfz138_0 := blk_frozen BK590.out 0
                   have hfz138_1 := blk_frozen BK590.out 1
                   go_wp2
                   go_meet
                   case rel => exact ⟨_, (true), (by first | rfl | (simp; done) | (simp [*]; done)), H', ⟨by have := HJ2.out; have := HJ8.out; have := HK3.out; first | omega | exact Nat.le_refl _⟩, ⟨by (with_reducible repeat (first | apply Kd.R_alloc | apply Kd.R_drewN | apply Kd.R_drew)); exact Kd.R_mono (Kd.R_far (p := ⟨gb602, 1, none⟩) (Kd.R_far (p := ⟨gb602, 0, none⟩) (Kd.R_mono HO_6.out (fun k_ hk => (⟨hk, hk.2⟩ : _ ∧ k_ ≠ gb602))) (fun _ hk => hk.2) (.int .i64 t599)) (fun _ hk => hk.2) (.int .i64 t600)) (fun _ hk => ⟨hk.1.1.2.1, ⟨hk.1.1.2.2.1, ⟨hk.1.1.2.2.2.1, ⟨hk.1.1.2.2.2.2.1, ⟨hk.1.1.2.2.2.2.2, hk.1.2⟩⟩⟩⟩⟩)⟩, ⟨by (with_reducible repeat (first | refine blk_drewN ?_ _ | refine blk_drew ?_ | refine blk_alloc ?_ _)); refine blk_far ?_ NB570_602.out _; (with_reducible repeat (first | refine blk_drewN ?_ _ | refine blk_drew ?_ | refine blk_alloc ?_ _)); refine blk_far ?_ NB570_602.out _; (with_reducible repeat (first | refine blk_drewN ?_ _ | refine blk_drew ?_ | refine blk_alloc ?_ _)); exact BK570.out⟩, ⟨by (with_reducible repeat (first | refine blk_drewN ?_ _ | refine blk_drew ?_ | refine blk_alloc ?_ _)); refine blk_far ?_ NB574_602.out _; (with_reducible repeat (first | refine blk_drewN ?_ _ | refine blk_drew ?_ | refine blk_alloc ?_ _)); refine blk_far ?_ NB574_602.out _; (with_reducible repeat (first | refine blk_drewN ?_ _ | refine blk_drew ?_ | refine blk_alloc ?_ _)); exact BK574.out⟩, ⟨by (with_reducible repeat (first | refine blk_drewN ?_ _ | refine blk_drew ?_ | refine blk_alloc ?_ _)); refine blk_far ?_ NB578_602.out _; (with_reducible repeat (first | refine blk_drewN ?_ _ | refine blk_drew ?_ | refine blk_alloc ?_ _)); refine blk_far ?_ NB578_602.out _; (with_reducible repeat (first | refine blk_drewN ?_ _ | refine blk_drew ?_ | refine blk_alloc ?_ _)); exact BK578.out⟩, ⟨by (with_reducible repeat (first | refine blk_drewN ?_ _ | refine blk_drew ?_ | refine blk_alloc ?_ _)); refine blk_far ?_ NB586_602.out _; (with_reducible repeat (first | refine blk_drewN ?_ _ | refine blk_drew ?_ | refine blk_alloc ?_ _)); refine blk_far ?_ NB586_602.out _; (with_reducible repeat (first | refine blk_drewN ?_ _ | refine blk_drew ?_ | refine blk_alloc ?_ _)); exact BK586.out⟩, ⟨by (with_reducible repeat (first | refine blk_drewN ?_ _ | refine blk_drew ?_ | refine blk_alloc ?_ _)); refine blk_far ?_ NB590_602.out _; (with_reducible repeat (first | refine blk_drewN ?_ _ | refine blk_drew ?_ | refine blk_alloc ?_ _)); refine blk_far ?_ NB590_602.out _; (with_reducible repeat (first | refine blk_drewN ?_ _ | refine blk_drew ?_ | refine blk_alloc ?_ _)); exact BK590.out⟩, ⟨by (with_reducible repeat (first | refine blk_drewN ?_ _ | refine blk_drew ?_ | refine blk_alloc ?_ _)); refine blk_put (cs := #[.int .i64 t599, .int .i64 0]) ?_ 1 _ rfl; (with_reducible repeat (first | refine blk_drewN ?_ _ | refine blk_drew ?_ | refine blk_alloc ?_ _)); refine blk_put (cs := #[.int .i64 0, .int .i64 0]) ?_ 0 _ rfl; (with_reducible repeat (first | refine blk_drewN ?_ _ | refine blk_drew ?_ | refine blk_alloc ?_ _)); exact BK602.out⟩, ⟨by repeat (first | (with_reducible first | exact HB.out | apply below_alloc | apply pw_below_drewN | apply below_drew1 | refine below_set ?_ GE570.out | refine below_set ?_ GE574.out | refine below_set ?_ GE578.out | refine below_set ?_ GE586.out | refine below_set ?_ GE590.out | refine below_set ?_ GE602.out) | exact HB.out)⟩⟩
                ·replace c89 := Bool.eq_false_iff.mpr c89
                 subst c89
                 have H1 : (laws_FnTravel.j3 k3 t567 ji44 true t571 t572 t583 t584) = some r := by rw [if_neg (show ¬ (false = true) by decide)] at H; exact H
                 clear H
                 have H := H1
                 clear H1
                 have H' := Aside0.mk H
                 clear H
                 go_wp2
                 go_meet
                 case rel => exact ⟨_, (true), (by first | rfl | (simp; done) | (simp [*]; done)), H', ⟨by have := HJ2.out; have := HJ8.out; have := HK3.out; first | omega | exact Nat.le_refl _⟩, ⟨by (with_reducible repeat (first | apply Kd.R_alloc | apply Kd.R_drewN | apply Kd.R_drew)); exact Kd.R_mono (Kd.R_far (p := ⟨gb602, 1, none⟩) (Kd.R_far (p := ⟨gb602, 0, none⟩) (Kd.R_mono HO_6.out (fun k_ hk => (⟨hk, hk.2⟩ : _ ∧ k_ ≠ gb602))) (fun _ hk => hk.2) (.int .i64 t599)) (fun _ hk => hk.2) (.int .i64 t600)) (fun _ hk => ⟨hk.1.1.2.1, ⟨hk.1.1.2.2.1, ⟨hk.1.1.2.2.2.1, ⟨hk.1.1.2.2.2.2.1, ⟨hk.1.1.2.2.2.2.2, hk.1.2⟩⟩⟩⟩⟩)⟩, ⟨by (with_reducible repeat (first | refine blk_drewN ?_ _ | refine blk_drew ?_ | refine blk_alloc ?_ _)); refine blk_far ?_ NB570_602.out _; (with_reducible repeat (first | refine blk_drewN ?_ _ | refine blk_drew ?_ | refine blk_alloc ?_ _)); refine blk_far ?_ NB570_602.out _; (with_reducible repeat (first | refine blk_drewN ?_ _ | refine blk_drew ?_ | refine blk_alloc ?_ _)); exact BK570.out⟩, ⟨by (with_reducible repeat (first | refine blk_drewN ?_ _ | refine blk_drew ?_ | refine blk_alloc ?_ _)); refine blk_far ?_ NB574_602.out _; (with_reducible repeat (first | refine blk_drewN ?_ _ | refine blk_drew ?_ | refine blk_alloc ?_ _)); refine blk_far ?_ NB574_602.out _; (with_reducible repeat (first | refine blk_drewN ?_ _ | refine blk_drew ?_ | refine blk_alloc ?_ _)); exact BK574.out⟩, ⟨by (with_reducible repeat (first | refine blk_drewN ?_ _ | refine blk_drew ?_ | refine blk_alloc ?_ _)); refine blk_far ?_ NB578_602.out _; (with_reducible repeat (first | refine blk_drewN ?_ _ | refine blk_drew ?_ | refine blk_alloc ?_ _)); refine blk_far ?_ NB578_602.out _; (with_reducible repeat (first | refine blk_drewN ?_ _ | refine blk_drew ?_ | refine blk_alloc ?_ _)); exact BK578.out⟩, ⟨by (with_reducible repeat (first | refine blk_drewN ?_ _ | refine blk_drew ?_ | refine blk_alloc ?_ _)); refine blk_far ?_ NB586_602.out _; (with_reducible repeat (first | refine blk_drewN ?_ _ | refine blk_drew ?_ | refine blk_alloc ?_ _)); refine blk_far ?_ NB586_602.out _; (with_reducible repeat (first | refine blk_drewN ?_ _ | refine blk_drew ?_ | refine blk_alloc ?_ _)); exact BK586.out⟩, ⟨by (with_reducible repeat (first | refine blk_drewN ?_ _ | refine blk_drew ?_ | refine blk_alloc ?_ _)); refine blk_far ?_ NB590_602.out _; (with_reducible repeat (first | refine blk_drewN ?_ _ | refine blk_drew ?_ | refine blk_alloc ?_ _)); refine blk_far ?_ NB590_602.out _; (with_reducible repeat (first | refine blk_drewN ?_ _ | refine blk_drew ?_ | refine blk_alloc ?_ _)); exact BK590.out⟩, ⟨by (with_reducible repeat (first | refine blk_drewN ?_ _ | refine blk_drew ?_ | refine blk_alloc ?_ _)); refine blk_put (cs := #[.int .i64 t599, .int .i64 0]) ?_ 1 _ rfl; (with_reducible repeat (first | refine blk_drewN ?_ _ | refine blk_drew ?_ | refine blk_alloc ?_ _)); refine blk_put (cs := #[.int .i64 0, .int .i64 0]) ?_ 0 _ rfl; (with_reducible repeat (first | refine blk_drewN ?_ _ | refine blk_drew ?_ | refine blk_alloc ?_ _)); exact BK602.out⟩, ⟨by repeat (first | (with_reducible first | exact HB.out | apply below_alloc | apply pw_below_drewN | apply below_drew1 | refine below_set ?_ GE570.out | refine below_set ?_ GE574.out | refine below_set ?_ GE578.out | refine below_set ?_ GE586.out | refine below_set ?_ GE590.out | refine below_set ?_ GE602.out) | exact HB.out)⟩⟩
               ·replace c88 := Bool.eq_false_iff.mpr c88
                subst c88
                have H1 : (laws_FnTravel.j3 k3 t567 ji44 true t571 t572 t583 t584) = some r := by rw [if_neg (show ¬ (false = true) by decide)] at H; exact H
                clear H
                have H := H1
                clear H1
                have H' := Aside0.mk H
                clear H
                go_wp2
                go_meet
                case rel => exact ⟨_, (true), (by first | rfl | (simp; done) | (simp [*]; done)), H', ⟨by have := HJ2.out; have := HJ8.out; have := HK3.out; first | omega | exact Nat.le_refl _⟩, ⟨by (with_reducible repeat (first | apply Kd.R_alloc | apply Kd.R_drewN | apply Kd.R_drew)); exact Kd.R_mono (Kd.R_far (p := ⟨gb602, 1, none⟩) (Kd.R_far (p := ⟨gb602, 0, none⟩) (Kd.R_mono HO_6.out (fun k_ hk => (⟨hk, hk.2⟩ : _ ∧ k_ ≠ gb602))) (fun _ hk => hk.2) (.int .i64 t599)) (fun _ hk => hk.2) (.int .i64 t600)) (fun _ hk => ⟨hk.1.1.2.1, ⟨hk.1.1.2.2.1, ⟨hk.1.1.2.2.2.1, ⟨hk.1.1.2.2.2.2.1, ⟨hk.1.1.2.2.2.2.2, hk.1.2⟩⟩⟩⟩⟩)⟩, ⟨by (with_reducible repeat (first | refine blk_drewN ?_ _ | refine blk_drew ?_ | refine blk_alloc ?_ _)); refine blk_far ?_ NB570_602.out _; (with_reducible repeat (first | refine blk_drewN ?_ _ | refine blk_drew ?_ | refine blk_alloc ?_ _)); refine blk_far ?_ NB570_602.out _; (with_reducible repeat (first | refine blk_drewN ?_ _ | refine blk_drew ?_ | refine blk_alloc ?_ _)); exact BK570.out⟩, ⟨by (with_reducible repeat (first | refine blk_drewN ?_ _ | refine blk_drew ?_ | refine blk_alloc ?_ _)); refine blk_far ?_ NB574_602.out _; (with_reducible repeat (first | refine blk_drewN ?_ _ | refine blk_drew ?_ | refine blk_alloc ?_ _)); refine blk_far ?_ NB574_602.out _; (with_reducible repeat (first | refine blk_drewN ?_ _ | refine blk_drew ?_ | refine blk_alloc ?_ _)); exact BK574.out⟩, ⟨by (with_reducible repeat (first | refine blk_drewN ?_ _ | refine blk_drew ?_ | refine blk_alloc ?_ _)); refine blk_far ?_ NB578_602.out _; (with_reducible repeat (first | refine blk_drewN ?_ _ | refine blk_drew ?_ | refine blk_alloc ?_ _)); refine blk_far ?_ NB578_602.out _; (with_reducible repeat (first | refine blk_drewN ?_ _ | refine blk_drew ?_ | refine blk_alloc ?_ _)); exact BK578.out⟩, ⟨by (with_reducible repeat (first | refine blk_drewN ?_ _ | refine blk_drew ?_ | refine blk_alloc ?_ _)); refine blk_far ?_ NB586_602.out _; (with_reducible repeat (first | refine blk_drewN ?_ _ | refine blk_drew ?_ | refine blk_alloc ?_ _)); refine blk_far ?_ NB586_602.out _; (with_reducible repeat (first | refine blk_drewN ?_ _ | refine blk_drew ?_ | refine blk_alloc ?_ _)); exact BK586.out⟩, ⟨by (with_reducible repeat (first | refine blk_drewN ?_ _ | refine blk_drew ?_ | refine blk_alloc ?_ _)); refine blk_far ?_ NB590_602.out _; (with_reducible repeat (first | refine blk_drewN ?_ _ | refine blk_drew ?_ | refine blk_alloc ?_ _)); refine blk_far ?_ NB590_602.out _; (with_reducible repeat (first | refine blk_drewN ?_ _ | refine blk_drew ?_ | refine blk_alloc ?_ _)); exact BK590.out⟩, ⟨by (with_reducible repeat (first | refine blk_drewN ?_ _ | refine blk_drew ?_ | refine blk_alloc ?_ _)); refine blk_put (cs := #[.int .i64 t599, .int .i64 0]) ?_ 1 _ rfl; (with_reducible repeat (first | refine blk_drewN ?_ _ | refine blk_drew ?_ | refine blk_alloc ?_ _)); refine blk_put (cs := #[.int .i64 0, .int .i64 0]) ?_ 0 _ rfl; (with_reducible repeat (first | refine blk_drewN ?_ _ | refine blk_drew ?_ | refine blk_alloc ?_ _)); exact BK602.out⟩, ⟨by repeat (first | (with_reducible first | exact HB.out | apply below_alloc | apply pw_below_drewN | apply below_drew1 | refine below_set ?_ GE570.out | refine below_set ?_ GE574.out | refine below_set ?_ GE578.out | refine below_set ?_ GE586.out | refine below_set ?_ GE590.out | refine below_set ?_ GE602.out) | exact HB.out)⟩⟩
              ·replace c87 := Bool.eq_false_iff.mpr c87
               subst c87
               have H1 : (laws_FnTravel.j3 k3 t567 ji44 true t571 t572 t583 t584) = some r := by rw [if_neg (show ¬ (false = true) by decide)] at H; exact H
               clear H
               have H := H1
               clear H1
               have H' := Aside0.mk H
               clear H
               go_wp2
               go_meet
               case rel => exact ⟨_, (true), (by first | rfl | (simp; done) | (simp [*]; done)), H', ⟨by have := HJ2.out; have := HJ8.out; have := HK3.out; first | omega | exact Nat.le_refl _⟩, ⟨by (with_reducible repeat (first | apply Kd.R_alloc | apply Kd.R_drewN | apply Kd.R_drew)); exact Kd.R_mono (Kd.R_far (p := ⟨gb602, 1, none⟩) (Kd.R_far (p := ⟨gb602, 0, none⟩) (Kd.R_mono HO_6.out (fun k_ hk => (⟨hk, hk.2⟩ : _ ∧ k_ ≠ gb602))) (fun _ hk => hk.2) (.int .i64 t599)) (fun _ hk => hk.2) (.int .i64 t600)) (fun _ hk => ⟨hk.1.1.2.1, ⟨hk.1.1.2.2.1, ⟨hk.1.1.2.2.2.1, ⟨hk.1.1.2.2.2.2.1, ⟨hk.1.1.2.2.2.2.2, hk.1.2⟩⟩⟩⟩⟩)⟩, ⟨by (with_reducible repeat (first | refine blk_drewN ?_ _ | refine blk_drew ?_ | refine blk_alloc ?_ _)); refine blk_far ?_ NB570_602.out _; (with_reducible repeat (first | refine blk_drewN ?_ _ | refine blk_drew ?_ | refine blk_alloc ?_ _)); refine blk_far ?_ NB570_602.out _; (with_reducible repeat (first | refine blk_drewN ?_ _ | refine blk_drew ?_ | refine blk_alloc ?_ _)); exact BK570.out⟩, ⟨by (with_reducible repeat (first | refine blk_drewN ?_ _ | refine blk_drew ?_ | refine blk_alloc ?_ _)); refine blk_far ?_ NB574_602.out _; (with_reducible repeat (first | refine blk_drewN ?_ _ | refine blk_drew ?_ | refine blk_alloc ?_ _)); refine blk_far ?_ NB574_602.out _; (with_reducible repeat (first | refine blk_drewN ?_ _ | refine blk_drew ?_ | refine blk_alloc ?_ _)); exact BK574.out⟩, ⟨by (with_reducible repeat (first | refine blk_drewN ?_ _ | refine blk_drew ?_ | refine blk_alloc ?_ _)); refine blk_far ?_ NB578_602.out _; (with_reducible repeat (first | refine blk_drewN ?_ _ | refine blk_drew ?_ | refine blk_alloc ?_ _)); refine blk_far ?_ NB578_602.out _; (with_reducible repeat (first | refine blk_drewN ?_ _ | refine blk_drew ?_ | refine blk_alloc ?_ _)); exact BK578.out⟩, ⟨by (with_reducible repeat (first | refine blk_drewN ?_ _ | refine blk_drew ?_ | refine blk_alloc ?_ _)); refine blk_far ?_ NB586_602.out _; (with_reducible repeat (first | refine blk_drewN ?_ _ | refine blk_drew ?_ | refine blk_alloc ?_ _)); refine blk_far ?_ NB586_602.out _; (with_reducible repeat (first | refine blk_drewN ?_ _ | refine blk_drew ?_ | refine blk_alloc ?_ _)); exact BK586.out⟩, ⟨by (with_reducible repeat (first | refine blk_drewN ?_ _ | refine blk_drew ?_ | refine blk_alloc ?_ _)); refine blk_far ?_ NB590_602.out _; (with_reducible repeat (first | refine blk_drewN ?_ _ | refine blk_drew ?_ | refine blk_alloc ?_ _)); refine blk_far ?_ NB590_602.out _; (with_reducible repeat (first | refine blk_drewN ?_ _ | refine blk_drew ?_ | refine blk_alloc ?_ _)); exact BK590.out⟩, ⟨by (with_reducible repeat (first | refine blk_drewN ?_ _ | refine blk_drew ?_ | refine blk_alloc ?_ _)); refine blk_put (cs := #[.int .i64 t599, .int .i64 0]) ?_ 1 _ rfl; (with_reducible repeat (first | refine blk_drewN ?_ _ | refine blk_drew ?_ | refine blk_alloc ?_ _)); refine blk_put (cs := #[.int .i64 0, .int .i64 0]) ?_ 0 _ rfl; (with_reducible repeat (first | refine blk_drewN ?_ _ | refine blk_drew ?_ | refine blk_alloc ?_ _)); exact BK602.out⟩, ⟨by repeat (first | (with_reducible first | exact HB.out | apply below_alloc | apply pw_below_drewN | apply below_drew1 | refine below_set ?_ GE570.out | refine below_set ?_ GE574.out | refine below_set ?_ GE578.out | refine below_set ?_ GE586.out | refine below_set ?_ GE590.out | refine below_set ?_ GE602.out) | exact HB.out)⟩⟩
             case rest =>
              clear HC72
              try clear c1
              try clear c2
              try clear p2
              try clear c3
              try clear c4
              try clear c4b0
              try clear c4b1
              try clear c5
              try clear p5
              try clear q5
              try clear hx5
              try clear c6
              try clear p6
              try clear c7
              try clear c8
              try clear c9
              try clear c10
              try clear c11
              try clear c12
              try clear c13
              try clear c16
              try clear c20
              try clear c21
              try clear c22
              try clear c24
              try clear c24b0
              try clear c24b1
              try clear c24b2
              try clear c25
              try clear c25b0
              try clear c26
              try clear c27
              try clear c29
              try clear c31
              try clear c32
              try clear c34
              try clear c36
              try clear c37
              try clear c37b0
              try clear c37b1
              try clear c37b2
              try clear c38
              try clear c39
              try clear c41
              try clear c43
              try clear c43b0
              try clear c43b1
              try clear c43b2
              try clear c45
              try clear c45b0
              try clear c45b1
              try clear c46
              try clear c46b0
              try clear c46b1
              try clear q50
              try clear c58
              try clear c59
              try clear p59
              try clear q59
              try clear hx59
              try clear c60
              try clear c61
              try clear p64
              try clear c65
              try clear c65b0
              try clear c66
              try clear c66b0
              try clear c67
              try clear c67b0
              try clear c68
              try clear c73
              try clear c74
              try clear c75
              try clear c76
              try clear c81
              try clear c82
              try clear c83
              try clear c84
              try clear c85
              try clear c87
              try clear c88
              try clear c89
              try clear c90
              try clear c90b0
              try clear c91
              try clear c92
              try clear c93
              try clear c94
              try clear c95
              try clear c97
              try clear c98
              try clear c99
              try clear c100
              try clear c102
              try clear c102b0
              try clear c102b1
              try clear c103
              try clear c104
              try clear c105
              try clear c106
              try clear c107
              try clear c109
              try clear c110
              try clear c111
              try clear c112
              try clear c114
              try clear c115
              try clear c116
              try clear c118
              try clear c119
              try clear c121
              try clear c122
              try clear c123
              try clear c124
              try clear c125
              try clear c127
              try clear c128
              try clear c129
              try clear c130
              try clear c132
              try clear c133
              try clear c134
              try clear c136
              try clear c137
              try clear hcz101_0
              try clear hcz101_1
              try clear hcz108_0
              try clear hcz108_1
              try clear hcz113_0
              try clear hcz113_1
              try clear hcz117_0
              try clear hcz117_1
              try clear hcz120_0
              try clear hcz120_1
              try clear hcz126_0
              try clear hcz126_1
              try clear hcz12_0
              try clear hcz12_1
              try clear hcz131_0
              try clear hcz131_1
              try clear hcz135_0
              try clear hcz135_1
              try clear hcz138_0
              try clear hcz138_1
              try clear hcz17_0
              try clear hcz17_1
              try clear hcz18_0
              try clear hcz18_1
              try clear hcz23_0
              try clear hcz23_1
              try clear hcz28_0
              try clear hcz28_1
              try clear hcz30_0
              try clear hcz30_1
              try clear hcz33_0
              try clear hcz33_1
              try clear hcz35_0
              try clear hcz35_1
              try clear hcz40_0
              try clear hcz40_1
              try clear hcz42_0
              try clear hcz42_1
              try clear hcz62_0
              try clear hcz62_1
              try clear hcz77_0
              try clear hcz77_1
              try clear hcz86_0
              try clear hcz86_1
              try clear hcz96_0
              try clear hcz96_1
              try clear hfz101_0
              try clear hfz101_1
              try clear hfz108_0
              try clear hfz108_1
              try clear hfz113_0
              try clear hfz113_1
              try clear hfz117_0
              try clear hfz117_1
              try clear hfz120_0
              try clear hfz120_1
              try clear hfz126_0
              try clear hfz126_1
              try clear hfz12_0
              try clear hfz12_1
              try clear hfz131_0
              try clear hfz131_1
              try clear hfz135_0
              try clear hfz135_1
              try clear hfz138_0
              try clear hfz138_1
              try clear hfz17_0
              try clear hfz17_1
              try clear hfz18_0
              try clear hfz18_1
              try clear hfz23_0
              try clear hfz23_1
              try clear hfz28_0
              try clear hfz28_1
              try clear hfz30_0
              try clear hfz30_1
              try clear hfz33_0
              try clear hfz33_1
              try clear hfz35_0
              try clear hfz35_1
              try clear hfz40_0
              try clear hfz40_1
              try clear hfz42_0
              try clear hfz42_1
              try clear hfz62_0
              try clear hfz62_1
              try clear hfz77_0
              try clear hfz77_1
              try clear hfz86_0
              try clear hfz86_1
              try clear hfz96_0
              try clear hfz96_1
              try clear hx594_0
              try clear hx594_1
              try clear hx595_0
              try clear hx595_1
              try clear p2
              try clear p594
              try clear p595
              try clear p6
              try clear p64
              try clear q5
              try clear q50
              try clear q594
              try clear q595
              obtain ⟨kq, x150_71, rfl, HA, HJ71, HO_6, BK570, BK574, BK578, BK586, BK590, BK602, HB⟩ := hcut
              cases kq with
              | zero => exact absurd HA.out (by simp [laws_FnTravel.j3])
              | succ kj71 =>
               have H := HA.out
               clear HA
               simp only [laws_FnTravel.j3] at H
               by_cases c139 : x150_71 = true
               ·subst c139
                have H1 : (some false) = some r := by rw [if_pos rfl] at H; exact H
                clear H
                have H := H1
                clear H1
                obtain rfl := Option.some.inj H
                go_wp2
                go_ret
                exact ⟨by first | rfl | (simp [errW_none, errW_some] <;> rfl) | (simp only [← hji44]; first | rfl | (simp [errW_none, errW_some] <;> rfl)) | (simp [*, errW_none, errW_some] <;> rfl), by repeat (first | (with_reducible first | exact HB.out | apply below_alloc | apply pw_below_drewN | apply below_drew1 | refine below_set ?_ GE570.out | refine below_set ?_ GE574.out | refine below_set ?_ GE578.out | refine below_set ?_ GE586.out | refine below_set ?_ GE590.out | refine below_set ?_ GE602.out) | exact HB.out)⟩
               ·replace c139 := Bool.eq_false_iff.mpr c139
                subst c139
                have H1 : (if ji44 = (t567.length : Int) then (some (t583 == t571 && (t584 == t572))) else (if 0 ≤ ji44 then (if ji44 ≤ (t567.length : Int) then ((impl_TravelEnd.f kj71 t583 t584 (t567.drop (ji44 : Int).toNat)).bind fun bt607 => (if bt607.2.2 = true then (some (bt607.1 == t571 && (bt607.2.1 == t572))) else (some false))) else (none)) else (none))) = some r := by rw [if_neg (show ¬ (false = true) by decide)] at H; exact H
                clear H
                have H := H1
                clear H1
                by_cases c140 : ji44 = (t567.length : Int)
                ·rw [if_pos c140] at H
                 have c140b0 : (ji44 == (t567.length : Int)) = true := beq_iff_eq.mpr c140
                 have c140b1 : (ji44 != (t567.length : Int)) = false := bne_eq_false_iff_eq.mpr c140
                 clear c140
                 obtain rfl := Option.some.inj H
                 have hnb141 := NB586_570.out
                 have hnc141 := NB570_586.out
                 have hnb142 := NB586_574.out
                 have hnc142 := NB574_586.out
                 have hnb143 := NB586_578.out
                 have hnc143 := NB578_586.out
                 have hnb144 := NB586_590.out
                 have hnc144 := NB590_586.out
                 have hnb145 := NB586_602.out
                 have hnc145 := NB602_586.out
                 have hcz146_0 : wc.cell? ⟨gb586, 0, none⟩ = some (.int .i64 t583) := (blk_cell BK586.out 0).trans rfl
                 have hcz146_1 : wc.cell? ⟨gb586, 1, none⟩ = some (.int .i64 t584) := (blk_cell BK586.out 1).trans rfl
                 have hfz146_0 := blk_frozen BK586.out 0
                 have hfz146_1 := blk_frozen BK586.out 1
                 have hnb147 := NB574_570.out
                 have hnc147 := NB570_574.out
                 have hnb148 := NB574_578.out
                 have hnc148 := NB578_574.out
                 have hnb149 := NB574_590.out
                 have hnc149 := NB590_574.out
                 have hnb150 := NB574_602.out
                 have hnc150 := NB602_574.out
                 have hcz151_0 : wc.cell? ⟨gb574, 0, none⟩ = some (.int .i64 t571) := (blk_cell BK574.out 0).trans rfl
                 have hcz151_1 : wc.cell? ⟨gb574, 1, none⟩ = some (.int .i64 t572) := (blk_cell BK574.out 1).trans rfl
                 have hfz151_0 := blk_frozen BK574.out 0
                 have hfz151_1 := blk_frozen BK574.out 1
                 go_wp2
                 go_ret
                 exact ⟨by first | rfl | (simp [errW_none, errW_some] <;> rfl) | (simp only [← hji44]; first | rfl | (simp [errW_none, errW_some] <;> rfl)) | (simp [*, errW_none, errW_some] <;> rfl), by repeat (first | (with_reducible first | exact HB.out | apply below_alloc | apply pw_below_drewN | apply below_drew1 | refine below_set ?_ GE570.out | refine below_set ?_ GE574.out | refine below_set ?_ GE578.out | refine below_set ?_ GE586.out | refine below_set ?_ GE590.out | refine below_set ?_ GE602.out) | exact HB.out)⟩
                ·rw [if_neg c140] at H
                 have c140b0 : (ji44 == (t567.length : Int)) = false := beq_eq_false_iff_ne.mpr c140
                 have c140b1 : (ji44 != (t567.length : Int)) = true := bne_iff_ne.mpr c140
                 by_cases c152 : 0 ≤ ji44
                 ·rw [if_pos c152] at H
                  have c152b0 := eq_true c152
                  have c152b1 : decide (0 ≤ ji44) = true := decide_eq_true c152
                  clear c152
                  by_cases c153 : ji44 ≤ (t567.length : Int)
                  ·rw [if_pos c153] at H
                   have c153b0 := eq_true c153
                   have c153b1 : decide (ji44 ≤ (t567.length : Int)) = true := decide_eq_true c153
                   clear c153
                   obtain ⟨y603, hy603⟩ : ∃ y_ : List (S30), y_ = (t567.drop (ji44 : Int).toNat) := ⟨_, rfl⟩
                   replace H : ((impl_TravelEnd.f kj71 t583 t584 y603).bind fun bt607 => (if bt607.2.2 = true then (some (bt607.1 == t571 && (bt607.2.1 == t572))) else (some false))) = some r := by first | (rw [hy603]; with_reducible exact H) | (have H2_ := (Option.bind_some _ _).symm.trans H; rw [hy603]; with_reducible exact H2_) | (have H2_ := (Option.bind_some _ _).symm.trans H; with_reducible exact H2_) | with_reducible exact H | (rw [hy603]; exact H) | exact H
                   have Ny603 := Aside0.mk hy603
                   clear hy603
                   replace H := Option.bind_eq_some_iff.mp H
                   obtain ⟨⟨t607, t608, t609⟩, A1540, H⟩ := H
                   replace H : (if t609 = true then (some (t607 == t571 && (t608 == t572))) else (some false)) = some r := H
                   have A154 := Aside0.mk A1540
                   clear A1540
                   by_cases c155 : t609 = true
                   ·subst c155
                    have H1 : (some (t607 == t571 && (t608 == t572))) = some r := by rw [if_pos rfl] at H; exact H
                    clear H
                    have H := H1
                    clear H1
                    obtain rfl := Option.some.inj H
                    try go_wp2
                    have n0_ := Aside0.mk (Kd.R_drew HO_6.out)
                    have n1_ := Aside0.mk (blk_drew BK570.out)
                    have n2_ := Aside0.mk (blk_drew BK574.out)
                    have n3_ := Aside0.mk (blk_drew BK578.out)
                    have n4_ := Aside0.mk (blk_drew BK586.out)
                    have n5_ := Aside0.mk (blk_drew BK590.out)
                    have n6_ := Aside0.mk (blk_drew BK602.out)
                    have n7_ := Aside0.mk (below_drew1 HB.out)
                    clear HO_6
                    clear BK570
                    clear BK574
                    clear BK578
                    clear BK586
                    clear BK590
                    clear BK602
                    clear HB
                    have HO_6 := n0_
                    have BK570 := n1_
                    have BK574 := n2_
                    have BK578 := n3_
                    have BK586 := n4_
                    have BK590 := n5_
                    have BK602 := n6_
                    have HB := n7_
                    clear n0_ n1_ n2_ n3_ n4_ n5_ n6_ n7_
                    have q157 : (ji44 : Int) ≤ ((t567.length : Int) : Int) := of_decide_eq_true (by first | (with_reducible assumption) | assumption)
                    obtain ⟨i0157, hi0157, _, hsz157, _⟩ := info_parts info30
                    have hroom157 : t567.length ≤ co13 := (Kd.R_reads' HO_6.out).2.1
                    have hC157 : Kd.C k30 _ Ao13 t567.length t567 := (Kd.R_reads' HO_6.out).2.2
                    have q0157 : (0 : Int) ≤ (ji44 : Int) := of_decide_eq_true (by first | (with_reducible assumption) | assumption)
                    have hcut157 := cut_from (P := Try.prog) 25 30 .i64 Try.underlying25 hi0157 2 hsz157 Ao13 t567.length co13 ji44 q0157 q157
                    have hr157 := Kd.C_drop (m := (ji44 : Int).toNat) (c := co13) hC157 (by omega) hroom157
                    obtain ⟨A157, hA157⟩ : ∃ A1, A1 = (if co13 = (ji44 : Int).toNat then Ao13 else (Ao13 : Option Addr).map (·.add ((ji44 : Int).toNat * 2))) := ⟨_, rfl⟩
                    obtain ⟨c157, hc157⟩ : ∃ c1, c1 = co13 - (ji44 : Int).toNat := ⟨_, rfl⟩
                    have hy157 : y603.length = t567.length - (ji44 : Int).toNat := (by rw [Ny603.out, List.length_drop] <;> omega)
                    rw [show (t567).drop (ji44 : Int).toNat = y603 from Ny603.out.symm] at hr157
                    replace hr157 : Kd.C k30 _ A157 y603.length y603 := (by rw [hA157]; exact hr157)
                    rw [← hy157, ← hA157, ← hc157] at hcut157
                    have HR606 := Aside0.mk hr157
                    have HC606 := Aside0.mk (show y603.length ≤ c157 from by rw [hy157, hc157]; exact Nat.sub_le_sub_right hroom157 _)
                    clear hr157 hC157 hroom157 hi0157 hsz157 hc157
                    have KY157 := Aside0.mk hy157
                    have KA157 := Aside0.mk hA157
                    clear hy157 hA157
                    have KL157 := Aside0.mk (show (ji44 : Int).toNat ≤ t567.length from by omega)
                    replace q157 := eq_true q157
                    refine start_ (n := 11) (S := fun w' => w'.cell? ⟨gb586, 0, none⟩ = some (.int .i64 t583) ∧ w'.cell? ⟨gb586, 1, none⟩ = some (.int .i64 t584)) (ds := []) #[false, false, false, false, false, false, false, false, false, false, false] (by kernel_rfl) rfl rfl ⟨(blk_cell BK586.out 0).trans rfl, (blk_cell BK586.out 1).trans rfl⟩ (fun hHeld => ?_); refine with_tabW laws_FnTravel.tab21 laws_FnTravel.bits21 (fun HT_ HW_ => ?_)
                    generalize wc.drew = w156 at HO_6 BK570 BK574 BK578 BK586 BK590 BK602 HB HR606 hHeld ⊢
                    refine pure_ (i := 1) (N := some 160) (v := ?_) (a' := ?_) #[false, true, false, false, false, false, false, false, false, false, false] rfl rfl (any_of HT_.out (by kernel_rfl)) (fun _ _ _ h => h) (Or.inl ⟨by rfl, ?_⟩) ?_ ?_
                    rotate_left
                    ·intro w'
                     go_simp
                     with_reducible rfl
                    rotate_left
                    ·simp only [Act.put, List.setIfInBounds_toArray, List.set_cons_zero, List.set_cons_succ, i64_w, i32_w]
                     rfl
                    refine pure_ (i := 2) (N := some 161) (v := ?_) (a' := ?_) #[false, true, true, false, false, false, false, false, false, false, false] rfl rfl (any_of HT_.out (by kernel_rfl)) (fun _ _ _ h => h) (Or.inl ⟨by rfl, ?_⟩) ?_ ?_
                    rotate_left
                    ·intro w'
                     go_simp
                     with_reducible rfl
                    rotate_left
                    ·simp only [Act.put, List.setIfInBounds_toArray, List.set_cons_zero, List.set_cons_succ, i64_w, i32_w]
                     rfl
                    refine pure_ (i := 3) (N := some 162) (v := ?_) (a' := ?_) #[false, true, true, true, false, false, false, false, false, false, false] rfl rfl (any_of HT_.out (by kernel_rfl)) (fun _ _ _ h => h) (Or.inl ⟨by rfl, ?_⟩) ?_ ?_
                    rotate_left
                    ·intro w'
                     go_simp
                     with_reducible rfl
                    rotate_left
                    ·simp only [Act.put, List.setIfInBounds_toArray, List.set_cons_zero, List.set_cons_succ, i64_w, i32_w]
                     rfl
                    refine take_ (i := 0) (N := some 159) (v := ?_) (a' := ?_) #[true, true, true, true, false, false, false, false, false, false, false] rfl rfl (take_ofW HT_.out HW_.out (by kernel_rfl)) (fun _ _ _ h => h) (Or.inl ⟨by rfl, ?_⟩) hHeld ?_ ?_
                    rotate_left
                    ·rintro w' ⟨s0, s1⟩
                     go_simp
                     with_reducible rfl
                    rotate_left
                    ·simp only [Act.put, List.setIfInBounds_toArray, List.set_cons_zero, List.set_cons_succ, i64_w, i32_w]
                     rfl
                    refine join_ (σ := Nat) 2 #[true, true, true, true, true, true, true, true, true, false, false] (fun s_ => [(163, .tuple #[.agg #[.int .i64 t607, .int .i64 t608], .bool true]), (20, .pointer (some ⟨s_, 0, none⟩)), (158, .tuple #[.agg #[.int .i64 t607, .int .i64 t608], .bool true]), (164, .agg #[.int .i64 t607, .int .i64 t608]), (165, .bool true)]) (fun s_ w' => (w'.cell? ⟨gb586, 0, none⟩ = some (.int .i64 t583) ∧ w'.cell? ⟨gb586, 1, none⟩ = some (.int .i64 t584)) ∧ (Kd.R k30 30 w' w.heap.size (fun k_ => k_ ≠ gb570 ∧ k_ ≠ gb574 ∧ k_ ≠ gb578 ∧ k_ ≠ gb586 ∧ k_ ≠ gb590 ∧ k_ ≠ gb602 ∧ k_ ≠ s_) (.slice Ao13 t567.length co13) t567) ∧ (w'.heap[gb570]? = some (.cells #[.int .i64 t565, .int .i64 t566] 30 (0, 0))) ∧ (w'.heap[gb574]? = some (.cells #[.int .i64 t571, .int .i64 t572] 30 (0, 0))) ∧ (w'.heap[gb578]? = some (.cells #[.int .i64 t575, .int .i64 t576] 30 (0, 0))) ∧ (w'.heap[gb586]? = some (.cells #[.int .i64 t583, .int .i64 t584] 30 (0, 0))) ∧ (w'.heap[gb590]? = some (.cells #[.int .i64 t587, .int .i64 t588] 30 (0, 0))) ∧ (w'.heap[gb602]? = some (.cells #[.int .i64 t599, .int .i64 t600] 30 (0, 0))) ∧ (w'.heap[s_]? = some (.cells #[.int .i64 0, .int .i64 0] 30 (0, 0))) ∧ (w.heap.size ≤ s_) ∧ (w.heap.size ≤ s_) ∧ (gb570 ≠ s_) ∧ (s_ ≠ gb570) ∧ (gb574 ≠ s_) ∧ (s_ ≠ gb574) ∧ (gb578 ≠ s_) ∧ (s_ ≠ gb578) ∧ (gb586 ≠ s_) ∧ (s_ ≠ gb586) ∧ (gb590 ≠ s_) ∧ (s_ ≠ gb590) ∧ (gb602 ≠ s_) ∧ (s_ ≠ gb602) ∧ (Below w.heap.size w w')) ?_ ?_
                    rotate_left
                    ·intro hCont
                     refine two_ (i := 4) (j := 8) (Ni := some 163) (Nj := some 20) #[true, true, true, true, true, false, false, false, false, false, false] #[true, true, true, true, false, false, false, false, true, false, false] rfl rfl rfl rfl (two_of HT_.out (by kernel_rfl)) (by decide) (by decide) (fun K hK => ?_) (fun K hK => ?_)
                     ·skip
                      refine goes_ Try.func26 (by kernel_rfl) rfl #[.agg #[.int .i64 t583, .int .i64 t584], .slice A157 y603.length c157] (by rfl) rfl rfl (by (try simp only [List.map_toArray, List.map_cons, List.map_nil]); first | done | rfl | (simp only [List.length_drop, List.length_take]; rfl)) ?_
                      with_reducible refine (impl_TravelEnd.calls kj71 t583 t584 _ _ y603 t607 t608 true _ ?side1 ?side2 A154.out).mono ?_
                      (case side1 => repeat (first | exact (by repeat (first | (with_reducible exact HR606.out) | (with_reducible refine Kd.C_alloc ?_ _) | (with_reducible refine Kd.C_drewN ?_ _) | (with_reducible refine Kd.C_drew ?_) | exact HR606.out)) | (with_reducible refine Kd.C_alloc ?_ _) | (with_reducible refine Kd.C_drewN ?_ _) | (with_reducible refine Kd.C_drew ?_)))
                      (case side2 => exact HC606.out)
                      rintro e w158 ⟨rfl, hb⟩
                      refine ⟨_, rfl, ?_⟩
                      have n0_ := Aside0.mk (Kd.R_below (by (with_reducible repeat (first | apply Kd.R_alloc | apply Kd.R_drewN | apply Kd.R_drew)); exact HO_6.out) hb)
                      have n1_ := Aside0.mk (blk_below (g := gb570) (o := .cells #[.int .i64 t565, .int .i64 t566] 30 (0, 0)) (by (with_reducible repeat (first | refine blk_drewN ?_ _ | refine blk_drew ?_ | refine blk_alloc ?_ _)); exact BK570.out) hb)
                      have n2_ := Aside0.mk (blk_below (g := gb574) (o := .cells #[.int .i64 t571, .int .i64 t572] 30 (0, 0)) (by (with_reducible repeat (first | refine blk_drewN ?_ _ | refine blk_drew ?_ | refine blk_alloc ?_ _)); exact BK574.out) hb)
                      have n3_ := Aside0.mk (blk_below (g := gb578) (o := .cells #[.int .i64 t575, .int .i64 t576] 30 (0, 0)) (by (with_reducible repeat (first | refine blk_drewN ?_ _ | refine blk_drew ?_ | refine blk_alloc ?_ _)); exact BK578.out) hb)
                      have n4_ := Aside0.mk (blk_below (g := gb586) (o := .cells #[.int .i64 t583, .int .i64 t584] 30 (0, 0)) (by (with_reducible repeat (first | refine blk_drewN ?_ _ | refine blk_drew ?_ | refine blk_alloc ?_ _)); exact BK586.out) hb)
                      have n5_ := Aside0.mk (blk_below (g := gb590) (o := .cells #[.int .i64 t587, .int .i64 t588] 30 (0, 0)) (by (with_reducible repeat (first | refine blk_drewN ?_ _ | refine blk_drew ?_ | refine blk_alloc ?_ _)); exact BK590.out) hb)
                      have n6_ := Aside0.mk (blk_below (g := gb602) (o := .cells #[.int .i64 t599, .int .i64 t600] 30 (0, 0)) (by (with_reducible repeat (first | refine blk_drewN ?_ _ | refine blk_drew ?_ | refine blk_alloc ?_ _)); exact BK602.out) hb)
                      have n7_ := Aside0.mk (Kd.C_below (by repeat (first | (with_reducible exact HR606.out) | (with_reducible refine Kd.C_alloc ?_ _) | (with_reducible refine Kd.C_drewN ?_ _) | (with_reducible refine Kd.C_drew ?_) | exact HR606.out)) hb)
                      have n8_ := Aside0.mk (below_step (by repeat (first | (with_reducible first | exact HB.out | apply below_alloc | apply pw_below_drewN | apply below_drew1 | refine below_set ?_ GE570.out | refine below_set ?_ GE574.out | refine below_set ?_ GE578.out | refine below_set ?_ GE586.out | refine below_set ?_ GE590.out | refine below_set ?_ GE602.out) | exact HB.out)) hb)
                      clear HO_6
                      clear BK570
                      clear BK574
                      clear BK578
                      clear BK586
                      clear BK590
                      clear BK602
                      clear HR606
                      clear HB
                      have HO_6 := n0_
                      have BK570 := n1_
                      have BK574 := n2_
                      have BK578 := n3_
                      have BK586 := n4_
                      have BK590 := n5_
                      have BK602 := n6_
                      have HR606 := n7_
                      have HB := n8_
                      clear n0_ n1_ n2_ n3_ n4_ n5_ n6_ n7_ n8_
                      (try clear hb)
                      (try clear hb2)
                      (try clear hk)
                      (try clear hi)
                      refine hK.out _ _ ⟨(blk_cell BK586.out 0).trans rfl, (blk_cell BK586.out 1).trans rfl⟩ (fun hHeld => ?_)
                      clear hK K
                      refine norm_ (a' := ?_) ?_ ?_
                      rotate_left
                      ·show Act.put _ (some 163) _ = _
                       simp only [Act.put, List.setIfInBounds_toArray, List.set_cons_zero, List.set_cons_succ, i64_w, i32_w]
                       rfl
                      refine pure_ (i := 5) (N := some 158) (v := ?_) (a' := ?_) #[true, true, true, true, true, true, false, false, false, false, false] rfl rfl (any_of HT_.out (by kernel_rfl)) (fun _ _ _ h => h) (Or.inl ⟨by rfl, ?_⟩) ?_ ?_
                      rotate_left
                      ·intro w'
                       go_simp
                       with_reducible rfl
                      rotate_left
                      ·simp only [Act.put, List.setIfInBounds_toArray, List.set_cons_zero, List.set_cons_succ, i64_w, i32_w]
                       rfl
                      refine pure_ (i := 6) (N := some 164) (v := ?_) (a' := ?_) #[true, true, true, true, true, true, true, false, false, false, false] rfl rfl (any_of HT_.out (by kernel_rfl)) (fun _ _ _ h => h) (Or.inl ⟨by rfl, ?_⟩) ?_ ?_
                      rotate_left
                      ·intro w'
                       go_simp
                       with_reducible rfl
                      rotate_left
                      ·simp only [Act.put, List.setIfInBounds_toArray, List.set_cons_zero, List.set_cons_succ, i64_w, i32_w]
                       rfl
                      refine pure_ (i := 7) (N := some 165) (v := ?_) (a' := ?_) #[true, true, true, true, true, true, true, true, false, false, false] rfl rfl (any_of HT_.out (by kernel_rfl)) (fun _ _ _ h => h) (Or.inl ⟨by rfl, ?_⟩) ?_ ?_
                      rotate_left
                      ·intro w'
                       go_simp
                       with_reducible rfl
                      rotate_left
                      ·simp only [Act.put, List.setIfInBounds_toArray, List.set_cons_zero, List.set_cons_succ, i64_w, i32_w]
                       rfl
                      refine one_ (i := 8) (N := some 20) #[true, true, true, true, true, true, true, true, true, false, false] rfl rfl (one_of HT_.out (by kernel_rfl)) (by decide) (fun K hK => ?_)
                      refine box_step ?hg (N := 20) ?hd (cs := #[.int .i64 0, .int .i64 0]) (t := 30) ?hr ?_; (case hd => rfl); (case hg => rfl); (case hr => first | (go_simp; done) | (go_simp; rfl))
                      intro gb610 hg w159 hbox hb
                      have n0_ := Aside0.mk (Kd.R_below (Kd.R_elderB (by (with_reducible repeat (first | apply Kd.R_alloc | apply Kd.R_drewN | apply Kd.R_drew)); exact HO_6.out) gb610 (Nat.le_of_eq hg.symm)) hb)
                      have n1_ := Aside0.mk (blk_below (g := gb570) (o := .cells #[.int .i64 t565, .int .i64 t566] 30 (0, 0)) (by (with_reducible repeat (first | refine blk_drewN ?_ _ | refine blk_drew ?_ | refine blk_alloc ?_ _)); exact BK570.out) hb)
                      have n2_ := Aside0.mk (blk_below (g := gb574) (o := .cells #[.int .i64 t571, .int .i64 t572] 30 (0, 0)) (by (with_reducible repeat (first | refine blk_drewN ?_ _ | refine blk_drew ?_ | refine blk_alloc ?_ _)); exact BK574.out) hb)
                      have n3_ := Aside0.mk (blk_below (g := gb578) (o := .cells #[.int .i64 t575, .int .i64 t576] 30 (0, 0)) (by (with_reducible repeat (first | refine blk_drewN ?_ _ | refine blk_drew ?_ | refine blk_alloc ?_ _)); exact BK578.out) hb)
                      have n4_ := Aside0.mk (blk_below (g := gb586) (o := .cells #[.int .i64 t583, .int .i64 t584] 30 (0, 0)) (by (with_reducible repeat (first | refine blk_drewN ?_ _ | refine blk_drew ?_ | refine blk_alloc ?_ _)); exact BK586.out) hb)
                      have n5_ := Aside0.mk (blk_below (g := gb590) (o := .cells #[.int .i64 t587, .int .i64 t588] 30 (0, 0)) (by (with_reducible repeat (first | refine blk_drewN ?_ _ | refine blk_drew ?_ | refine blk_alloc ?_ _)); exact BK590.out) hb)
                      have n6_ := Aside0.mk (blk_below (g := gb602) (o := .cells #[.int .i64 t599, .int .i64 t600] 30 (0, 0)) (by (with_reducible repeat (first | refine blk_drewN ?_ _ | refine blk_drew ?_ | refine blk_alloc ?_ _)); exact BK602.out) hb)
                      have n7_ := Aside0.mk (Kd.C_below (by repeat (first | (with_reducible exact HR606.out) | (with_reducible refine Kd.C_alloc ?_ _) | (with_reducible refine Kd.C_drewN ?_ _) | (with_reducible refine Kd.C_drew ?_) | exact HR606.out)) hb)
                      have n8_ := Aside0.mk (below_step (by repeat (first | (with_reducible first | exact HB.out | apply below_alloc | apply pw_below_drewN | apply below_drew1 | refine below_set ?_ GE570.out | refine below_set ?_ GE574.out | refine below_set ?_ GE578.out | refine below_set ?_ GE586.out | refine below_set ?_ GE590.out | refine below_set ?_ GE602.out) | exact HB.out)) hb)
                      have n9_ := Aside0.mk (hbox)
                      have n10_ := Aside0.mk ((by rw [hg]; exact (below_size (by repeat (first | (with_reducible first | exact HB.out | apply below_alloc | apply pw_below_drewN | apply below_drew1 | refine below_set ?_ GE570.out | refine below_set ?_ GE574.out | refine below_set ?_ GE578.out | refine below_set ?_ GE586.out | refine below_set ?_ GE590.out | refine below_set ?_ GE602.out) | exact HB.out))) : w.heap.size ≤ gb610))
                      have n11_ := Aside0.mk ((by rw [hg]; exact (below_size (by repeat (first | (with_reducible first | exact HB.out | apply below_alloc | apply pw_below_drewN | apply below_drew1 | refine below_set ?_ GE570.out | refine below_set ?_ GE574.out | refine below_set ?_ GE578.out | refine below_set ?_ GE586.out | refine below_set ?_ GE590.out | refine below_set ?_ GE602.out) | exact HB.out))) : w.heap.size ≤ gb610))
                      have n12_ := Aside0.mk ((by rw [hg]; exact Nat.ne_of_lt (blk_lt (g := gb570) (o := .cells #[.int .i64 t565, .int .i64 t566] 30 (0, 0)) (by (with_reducible repeat (first | refine blk_drewN ?_ _ | refine blk_drew ?_ | refine blk_alloc ?_ _)); exact BK570.out)) : gb570 ≠ gb610))
                      have n13_ := Aside0.mk ((by rw [hg]; exact Nat.ne_of_gt (blk_lt (g := gb570) (o := .cells #[.int .i64 t565, .int .i64 t566] 30 (0, 0)) (by (with_reducible repeat (first | refine blk_drewN ?_ _ | refine blk_drew ?_ | refine blk_alloc ?_ _)); exact BK570.out)) : gb610 ≠ gb570))
                      have n14_ := Aside0.mk ((by rw [hg]; exact Nat.ne_of_lt (blk_lt (g := gb574) (o := .cells #[.int .i64 t571, .int .i64 t572] 30 (0, 0)) (by (with_reducible repeat (first | refine blk_drewN ?_ _ | refine blk_drew ?_ | refine blk_alloc ?_ _)); exact BK574.out)) : gb574 ≠ gb610))
                      have n15_ := Aside0.mk ((by rw [hg]; exact Nat.ne_of_gt (blk_lt (g := gb574) (o := .cells #[.int .i64 t571, .int .i64 t572] 30 (0, 0)) (by (with_reducible repeat (first | refine blk_drewN ?_ _ | refine blk_drew ?_ | refine blk_alloc ?_ _)); exact BK574.out)) : gb610 ≠ gb574))
                      have n16_ := Aside0.mk ((by rw [hg]; exact Nat.ne_of_lt (blk_lt (g := gb578) (o := .cells #[.int .i64 t575, .int .i64 t576] 30 (0, 0)) (by (with_reducible repeat (first | refine blk_drewN ?_ _ | refine blk_drew ?_ | refine blk_alloc ?_ _)); exact BK578.out)) : gb578 ≠ gb610))
                      have n17_ := Aside0.mk ((by rw [hg]; exact Nat.ne_of_gt (blk_lt (g := gb578) (o := .cells #[.int .i64 t575, .int .i64 t576] 30 (0, 0)) (by (with_reducible repeat (first | refine blk_drewN ?_ _ | refine blk_drew ?_ | refine blk_alloc ?_ _)); exact BK578.out)) : gb610 ≠ gb578))
                      have n18_ := Aside0.mk ((by rw [hg]; exact Nat.ne_of_lt (blk_lt (g := gb586) (o := .cells #[.int .i64 t583, .int .i64 t584] 30 (0, 0)) (by (with_reducible repeat (first | refine blk_drewN ?_ _ | refine blk_drew ?_ | refine blk_alloc ?_ _)); exact BK586.out)) : gb586 ≠ gb610))
                      have n19_ := Aside0.mk ((by rw [hg]; exact Nat.ne_of_gt (blk_lt (g := gb586) (o := .cells #[.int .i64 t583, .int .i64 t584] 30 (0, 0)) (by (with_reducible repeat (first | refine blk_drewN ?_ _ | refine blk_drew ?_ | refine blk_alloc ?_ _)); exact BK586.out)) : gb610 ≠ gb586))
                      have n20_ := Aside0.mk ((by rw [hg]; exact Nat.ne_of_lt (blk_lt (g := gb590) (o := .cells #[.int .i64 t587, .int .i64 t588] 30 (0, 0)) (by (with_reducible repeat (first | refine blk_drewN ?_ _ | refine blk_drew ?_ | refine blk_alloc ?_ _)); exact BK590.out)) : gb590 ≠ gb610))
                      have n21_ := Aside0.mk ((by rw [hg]; exact Nat.ne_of_gt (blk_lt (g := gb590) (o := .cells #[.int .i64 t587, .int .i64 t588] 30 (0, 0)) (by (with_reducible repeat (first | refine blk_drewN ?_ _ | refine blk_drew ?_ | refine blk_alloc ?_ _)); exact BK590.out)) : gb610 ≠ gb590))
                      have n22_ := Aside0.mk ((by rw [hg]; exact Nat.ne_of_lt (blk_lt (g := gb602) (o := .cells #[.int .i64 t599, .int .i64 t600] 30 (0, 0)) (by (with_reducible repeat (first | refine blk_drewN ?_ _ | refine blk_drew ?_ | refine blk_alloc ?_ _)); exact BK602.out)) : gb602 ≠ gb610))
                      have n23_ := Aside0.mk ((by rw [hg]; exact Nat.ne_of_gt (blk_lt (g := gb602) (o := .cells #[.int .i64 t599, .int .i64 t600] 30 (0, 0)) (by (with_reducible repeat (first | refine blk_drewN ?_ _ | refine blk_drew ?_ | refine blk_alloc ?_ _)); exact BK602.out)) : gb610 ≠ gb602))
                      clear HO_6
                      clear BK570
                      clear BK574
                      clear BK578
                      clear BK586
                      clear BK590
                      clear BK602
                      clear HR606
                      clear HB
                      have HO_6 := n0_
                      have BK570 := n1_
                      have BK574 := n2_
                      have BK578 := n3_
                      have BK586 := n4_
                      have BK590 := n5_
                      have BK602 := n6_
                      have HR606 := n7_
                      have HB := n8_
                      have BK610 := n9_
                      have GW610 := n10_
                      have GE610 := n11_
                      have NB570_610 := n12_
                      have NB610_570 := n13_
                      have NB574_610 := n14_
                      have NB610_574 := n15_
                      have NB578_610 := n16_
                      have NB610_578 := n17_
                      have NB586_610 := n18_
                      have NB610_586 := n19_
                      have NB590_610 := n20_
                      have NB610_590 := n21_
                      have NB602_610 := n22_
                      have NB610_602 := n23_
                      clear n0_ n1_ n2_ n3_ n4_ n5_ n6_ n7_ n8_ n9_ n10_ n11_ n12_ n13_ n14_ n15_ n16_ n17_ n18_ n19_ n20_ n21_ n22_ n23_
                      clear hb hbox hg
                      refine hK.out _ _ ⟨(blk_cell BK586.out 0).trans rfl, (blk_cell BK586.out 1).trans rfl⟩ (fun hHeld => ?_)
                      clear hK K
                      refine norm_ (a' := ?_) ?_ ?_
                      rotate_left
                      ·show Act.put _ (some 20) _ = _
                       simp only [Act.put, List.setIfInBounds_toArray, List.set_cons_zero, List.set_cons_succ, i64_w, i32_w]
                       rfl
                      exact norm_ (by simp only [putAll, Act.put, List.setIfInBounds_toArray, List.set_cons_zero, List.set_cons_succ]) (hCont (gb610) _ ⟨hHeld, (by (with_reducible repeat (first | apply Kd.R_alloc | apply Kd.R_drewN | apply Kd.R_drew)); exact Kd.R_mono HO_6.out (fun _ hk => ⟨hk.1.1, ⟨hk.1.2.1, ⟨hk.1.2.2.1, ⟨hk.1.2.2.2.1, ⟨hk.1.2.2.2.2.1, ⟨hk.1.2.2.2.2.2, hk.2⟩⟩⟩⟩⟩⟩)), (by (with_reducible repeat (first | refine blk_drewN ?_ _ | refine blk_drew ?_ | refine blk_alloc ?_ _)); exact BK570.out), (by (with_reducible repeat (first | refine blk_drewN ?_ _ | refine blk_drew ?_ | refine blk_alloc ?_ _)); exact BK574.out), (by (with_reducible repeat (first | refine blk_drewN ?_ _ | refine blk_drew ?_ | refine blk_alloc ?_ _)); exact BK578.out), (by (with_reducible repeat (first | refine blk_drewN ?_ _ | refine blk_drew ?_ | refine blk_alloc ?_ _)); exact BK586.out), (by (with_reducible repeat (first | refine blk_drewN ?_ _ | refine blk_drew ?_ | refine blk_alloc ?_ _)); exact BK590.out), (by (with_reducible repeat (first | refine blk_drewN ?_ _ | refine blk_drew ?_ | refine blk_alloc ?_ _)); exact BK602.out), (by (with_reducible repeat (first | refine blk_drewN ?_ _ | refine blk_drew ?_ | refine blk_alloc ?_ _)); exact BK610.out), GW610.out, GE610.out, NB570_610.out, NB610_570.out, NB574_610.out, NB610_574.out, NB578_610.out, NB610_578.out, NB586_610.out, NB610_586.out, NB590_610.out, NB610_590.out, NB602_610.out, NB610_602.out, (by repeat (first | (with_reducible first | exact HB.out | apply below_alloc | apply pw_below_drewN | apply below_drew1 | refine below_set ?_ GE570.out | refine below_set ?_ GE574.out | refine below_set ?_ GE578.out | refine below_set ?_ GE586.out | refine below_set ?_ GE590.out | refine below_set ?_ GE602.out | refine below_set ?_ GE610.out) | exact HB.out))⟩)
                     ·skip
                      refine box_step ?hg (N := 20) ?hd (cs := #[.int .i64 0, .int .i64 0]) (t := 30) ?hr ?_; (case hd => rfl); (case hg => rfl); (case hr => first | (go_simp; done) | (go_simp; rfl))
                      intro gb610 hg w158 hbox hb
                      have n0_ := Aside0.mk (Kd.R_below (Kd.R_elderB (by (with_reducible repeat (first | apply Kd.R_alloc | apply Kd.R_drewN | apply Kd.R_drew)); exact HO_6.out) gb610 (Nat.le_of_eq hg.symm)) hb)
                      have n1_ := Aside0.mk (blk_below (g := gb570) (o := .cells #[.int .i64 t565, .int .i64 t566] 30 (0, 0)) (by (with_reducible repeat (first | refine blk_drewN ?_ _ | refine blk_drew ?_ | refine blk_alloc ?_ _)); exact BK570.out) hb)
                      have n2_ := Aside0.mk (blk_below (g := gb574) (o := .cells #[.int .i64 t571, .int .i64 t572] 30 (0, 0)) (by (with_reducible repeat (first | refine blk_drewN ?_ _ | refine blk_drew ?_ | refine blk_alloc ?_ _)); exact BK574.out) hb)
                      have n3_ := Aside0.mk (blk_below (g := gb578) (o := .cells #[.int .i64 t575, .int .i64 t576] 30 (0, 0)) (by (with_reducible repeat (first | refine blk_drewN ?_ _ | refine blk_drew ?_ | refine blk_alloc ?_ _)); exact BK578.out) hb)
                      have n4_ := Aside0.mk (blk_below (g := gb586) (o := .cells #[.int .i64 t583, .int .i64 t584] 30 (0, 0)) (by (with_reducible repeat (first | refine blk_drewN ?_ _ | refine blk_drew ?_ | refine blk_alloc ?_ _)); exact BK586.out) hb)
                      have n5_ := Aside0.mk (blk_below (g := gb590) (o := .cells #[.int .i64 t587, .int .i64 t588] 30 (0, 0)) (by (with_reducible repeat (first | refine blk_drewN ?_ _ | refine blk_drew ?_ | refine blk_alloc ?_ _)); exact BK590.out) hb)
                      have n6_ := Aside0.mk (blk_below (g := gb602) (o := .cells #[.int .i64 t599, .int .i64 t600] 30 (0, 0)) (by (with_reducible repeat (first | refine blk_drewN ?_ _ | refine blk_drew ?_ | refine blk_alloc ?_ _)); exact BK602.out) hb)
                      have n7_ := Aside0.mk (Kd.C_below (by repeat (first | (with_reducible exact HR606.out) | (with_reducible refine Kd.C_alloc ?_ _) | (with_reducible refine Kd.C_drewN ?_ _) | (with_reducible refine Kd.C_drew ?_) | exact HR606.out)) hb)
                      have n8_ := Aside0.mk (below_step (by repeat (first | (with_reducible first | exact HB.out | apply below_alloc | apply pw_below_drewN | apply below_drew1 | refine below_set ?_ GE570.out | refine below_set ?_ GE574.out | refine below_set ?_ GE578.out | refine below_set ?_ GE586.out | refine below_set ?_ GE590.out | refine below_set ?_ GE602.out) | exact HB.out)) hb)
                      have n9_ := Aside0.mk (hbox)
                      have n10_ := Aside0.mk ((by rw [hg]; exact (below_size (by repeat (first | (with_reducible first | exact HB.out | apply below_alloc | apply pw_below_drewN | apply below_drew1 | refine below_set ?_ GE570.out | refine below_set ?_ GE574.out | refine below_set ?_ GE578.out | refine below_set ?_ GE586.out | refine below_set ?_ GE590.out | refine below_set ?_ GE602.out) | exact HB.out))) : w.heap.size ≤ gb610))
                      have n11_ := Aside0.mk ((by rw [hg]; exact (below_size (by repeat (first | (with_reducible first | exact HB.out | apply below_alloc | apply pw_below_drewN | apply below_drew1 | refine below_set ?_ GE570.out | refine below_set ?_ GE574.out | refine below_set ?_ GE578.out | refine below_set ?_ GE586.out | refine below_set ?_ GE590.out | refine below_set ?_ GE602.out) | exact HB.out))) : w.heap.size ≤ gb610))
                      have n12_ := Aside0.mk ((by rw [hg]; exact Nat.ne_of_lt (blk_lt (g := gb570) (o := .cells #[.int .i64 t565, .int .i64 t566] 30 (0, 0)) (by (with_reducible repeat (first | refine blk_drewN ?_ _ | refine blk_drew ?_ | refine blk_alloc ?_ _)); exact BK570.out)) : gb570 ≠ gb610))
                      have n13_ := Aside0.mk ((by rw [hg]; exact Nat.ne_of_gt (blk_lt (g := gb570) (o := .cells #[.int .i64 t565, .int .i64 t566] 30 (0, 0)) (by (with_reducible repeat (first | refine blk_drewN ?_ _ | refine blk_drew ?_ | refine blk_alloc ?_ _)); exact BK570.out)) : gb610 ≠ gb570))
                      have n14_ := Aside0.mk ((by rw [hg]; exact Nat.ne_of_lt (blk_lt (g := gb574) (o := .cells #[.int .i64 t571, .int .i64 t572] 30 (0, 0)) (by (with_reducible repeat (first | refine blk_drewN ?_ _ | refine blk_drew ?_ | refine blk_alloc ?_ _)); exact BK574.out)) : gb574 ≠ gb610))
                      have n15_ := Aside0.mk ((by rw [hg]; exact Nat.ne_of_gt (blk_lt (g := gb574) (o := .cells #[.int .i64 t571, .int .i64 t572] 30 (0, 0)) (by (with_reducible repeat (first | refine blk_drewN ?_ _ | refine blk_drew ?_ | refine blk_alloc ?_ _)); exact BK574.out)) : gb610 ≠ gb574))
                      have n16_ := Aside0.mk ((by rw [hg]; exact Nat.ne_of_lt (blk_lt (g := gb578) (o := .cells #[.int .i64 t575, .int .i64 t576] 30 (0, 0)) (by (with_reducible repeat (first | refine blk_drewN ?_ _ | refine blk_drew ?_ | refine blk_alloc ?_ _)); exact BK578.out)) : gb578 ≠ gb610))
                      have n17_ := Aside0.mk ((by rw [hg]; exact Nat.ne_of_gt (blk_lt (g := gb578) (o := .cells #[.int .i64 t575, .int .i64 t576] 30 (0, 0)) (by (with_reducible repeat (first | refine blk_drewN ?_ _ | refine blk_drew ?_ | refine blk_alloc ?_ _)); exact BK578.out)) : gb610 ≠ gb578))
                      have n18_ := Aside0.mk ((by rw [hg]; exact Nat.ne_of_lt (blk_lt (g := gb586) (o := .cells #[.int .i64 t583, .int .i64 t584] 30 (0, 0)) (by (with_reducible repeat (first | refine blk_drewN ?_ _ | refine blk_drew ?_ | refine blk_alloc ?_ _)); exact BK586.out)) : gb586 ≠ gb610))
                      have n19_ := Aside0.mk ((by rw [hg]; exact Nat.ne_of_gt (blk_lt (g := gb586) (o := .cells #[.int .i64 t583, .int .i64 t584] 30 (0, 0)) (by (with_reducible repeat (first | refine blk_drewN ?_ _ | refine blk_drew ?_ | refine blk_alloc ?_ _)); exact BK586.out)) : gb610 ≠ gb586))
                      have n20_ := Aside0.mk ((by rw [hg]; exact Nat.ne_of_lt (blk_lt (g := gb590) (o := .cells #[.int .i64 t587, .int .i64 t588] 30 (0, 0)) (by (with_reducible repeat (first | refine blk_drewN ?_ _ | refine blk_drew ?_ | refine blk_alloc ?_ _)); exact BK590.out)) : gb590 ≠ gb610))
                      have n21_ := Aside0.mk ((by rw [hg]; exact Nat.ne_of_gt (blk_lt (g := gb590) (o := .cells #[.int .i64 t587, .int .i64 t588] 30 (0, 0)) (by (with_reducible repeat (first | refine blk_drewN ?_ _ | refine blk_drew ?_ | refine blk_alloc ?_ _)); exact BK590.out)) : gb610 ≠ gb590))
                      have n22_ := Aside0.mk ((by rw [hg]; exact Nat.ne_of_lt (blk_lt (g := gb602) (o := .cells #[.int .i64 t599, .int .i64 t600] 30 (0, 0)) (by (with_reducible repeat (first | refine blk_drewN ?_ _ | refine blk_drew ?_ | refine blk_alloc ?_ _)); exact BK602.out)) : gb602 ≠ gb610))
                      have n23_ := Aside0.mk ((by rw [hg]; exact Nat.ne_of_gt (blk_lt (g := gb602) (o := .cells #[.int .i64 t599, .int .i64 t600] 30 (0, 0)) (by (with_reducible repeat (first | refine blk_drewN ?_ _ | refine blk_drew ?_ | refine blk_alloc ?_ _)); exact BK602.out)) : gb610 ≠ gb602))
                      clear HO_6
                      clear BK570
                      clear BK574
                      clear BK578
                      clear BK586
                      clear BK590
                      clear BK602
                      clear HR606
                      clear HB
                      have HO_6 := n0_
                      have BK570 := n1_
                      have BK574 := n2_
                      have BK578 := n3_
                      have BK586 := n4_
                      have BK590 := n5_
                      have BK602 := n6_
                      have HR606 := n7_
                      have HB := n8_
                      have BK610 := n9_
                      have GW610 := n10_
                      have GE610 := n11_
                      have NB570_610 := n12_
                      have NB610_570 := n13_
                      have NB574_610 := n14_
                      have NB610_574 := n15_
                      have NB578_610 := n16_
                      have NB610_578 := n17_
                      have NB586_610 := n18_
                      have NB610_586 := n19_
                      have NB590_610 := n20_
                      have NB610_590 := n21_
                      have NB602_610 := n22_
                      have NB610_602 := n23_
                      clear n0_ n1_ n2_ n3_ n4_ n5_ n6_ n7_ n8_ n9_ n10_ n11_ n12_ n13_ n14_ n15_ n16_ n17_ n18_ n19_ n20_ n21_ n22_ n23_
                      clear hb hbox hg
                      refine hK.out _ _ ⟨(blk_cell BK586.out 0).trans rfl, (blk_cell BK586.out 1).trans rfl⟩ (fun hHeld => ?_)
                      clear hK K
                      refine norm_ (a' := ?_) ?_ ?_
                      rotate_left
                      ·show Act.put _ (some 20) _ = _
                       simp only [Act.put, List.setIfInBounds_toArray, List.set_cons_zero, List.set_cons_succ, i64_w, i32_w]
                       rfl
                      refine one_ (i := 4) (N := some 163) #[true, true, true, true, true, false, false, false, true, false, false] rfl rfl (one_of HT_.out (by kernel_rfl)) (by decide) (fun K hK => ?_)
                      refine goes_ Try.func26 (by kernel_rfl) rfl #[.agg #[.int .i64 t583, .int .i64 t584], .slice A157 y603.length c157] (by rfl) rfl rfl (by (try simp only [List.map_toArray, List.map_cons, List.map_nil]); first | done | rfl | (simp only [List.length_drop, List.length_take]; rfl)) ?_
                      with_reducible refine (impl_TravelEnd.calls kj71 t583 t584 _ _ y603 t607 t608 true _ ?side1 ?side2 A154.out).mono ?_
                      (case side1 => repeat (first | exact (by repeat (first | (with_reducible exact HR606.out) | (with_reducible refine Kd.C_alloc ?_ _) | (with_reducible refine Kd.C_drewN ?_ _) | (with_reducible refine Kd.C_drew ?_) | exact HR606.out)) | (with_reducible refine Kd.C_alloc ?_ _) | (with_reducible refine Kd.C_drewN ?_ _) | (with_reducible refine Kd.C_drew ?_)))
                      (case side2 => exact HC606.out)
                      rintro e w159 ⟨rfl, hb⟩
                      refine ⟨_, rfl, ?_⟩
                      have n0_ := Aside0.mk (Kd.R_below (by (with_reducible repeat (first | apply Kd.R_alloc | apply Kd.R_drewN | apply Kd.R_drew)); exact HO_6.out) hb)
                      have n1_ := Aside0.mk (blk_below (g := gb570) (o := .cells #[.int .i64 t565, .int .i64 t566] 30 (0, 0)) (by (with_reducible repeat (first | refine blk_drewN ?_ _ | refine blk_drew ?_ | refine blk_alloc ?_ _)); exact BK570.out) hb)
                      have n2_ := Aside0.mk (blk_below (g := gb574) (o := .cells #[.int .i64 t571, .int .i64 t572] 30 (0, 0)) (by (with_reducible repeat (first | refine blk_drewN ?_ _ | refine blk_drew ?_ | refine blk_alloc ?_ _)); exact BK574.out) hb)
                      have n3_ := Aside0.mk (blk_below (g := gb578) (o := .cells #[.int .i64 t575, .int .i64 t576] 30 (0, 0)) (by (with_reducible repeat (first | refine blk_drewN ?_ _ | refine blk_drew ?_ | refine blk_alloc ?_ _)); exact BK578.out) hb)
                      have n4_ := Aside0.mk (blk_below (g := gb586) (o := .cells #[.int .i64 t583, .int .i64 t584] 30 (0, 0)) (by (with_reducible repeat (first | refine blk_drewN ?_ _ | refine blk_drew ?_ | refine blk_alloc ?_ _)); exact BK586.out) hb)
                      have n5_ := Aside0.mk (blk_below (g := gb590) (o := .cells #[.int .i64 t587, .int .i64 t588] 30 (0, 0)) (by (with_reducible repeat (first | refine blk_drewN ?_ _ | refine blk_drew ?_ | refine blk_alloc ?_ _)); exact BK590.out) hb)
                      have n6_ := Aside0.mk (blk_below (g := gb602) (o := .cells #[.int .i64 t599, .int .i64 t600] 30 (0, 0)) (by (with_reducible repeat (first | refine blk_drewN ?_ _ | refine blk_drew ?_ | refine blk_alloc ?_ _)); exact BK602.out) hb)
                      have n7_ := Aside0.mk (Kd.C_below (by repeat (first | (with_reducible exact HR606.out) | (with_reducible refine Kd.C_alloc ?_ _) | (with_reducible refine Kd.C_drewN ?_ _) | (with_reducible refine Kd.C_drew ?_) | exact HR606.out)) hb)
                      have n8_ := Aside0.mk (blk_below (g := gb610) (o := .cells #[.int .i64 0, .int .i64 0] 30 (0, 0)) (by (with_reducible repeat (first | refine blk_drewN ?_ _ | refine blk_drew ?_ | refine blk_alloc ?_ _)); exact BK610.out) hb)
                      have n9_ := Aside0.mk (below_step (by repeat (first | (with_reducible first | exact HB.out | apply below_alloc | apply pw_below_drewN | apply below_drew1 | refine below_set ?_ GE570.out | refine below_set ?_ GE574.out | refine below_set ?_ GE578.out | refine below_set ?_ GE586.out | refine below_set ?_ GE590.out | refine below_set ?_ GE602.out | refine below_set ?_ GE610.out) | exact HB.out)) hb)
                      clear HO_6
                      clear BK570
                      clear BK574
                      clear BK578
                      clear BK586
                      clear BK590
                      clear BK602
                      clear HR606
                      clear BK610
                      clear HB
                      have HO_6 := n0_
                      have BK570 := n1_
                      have BK574 := n2_
                      have BK578 := n3_
                      have BK586 := n4_
                      have BK590 := n5_
                      have BK602 := n6_
                      have HR606 := n7_
                      have BK610 := n8_
                      have HB := n9_
                      clear n0_ n1_ n2_ n3_ n4_ n5_ n6_ n7_ n8_ n9_
                      (try clear hb)
                      (try clear hb2)
                      (try clear hk)
                      (try clear hi)
                      refine hK.out _ _ ⟨(blk_cell BK586.out 0).trans rfl, (blk_cell BK586.out 1).trans rfl⟩ (fun hHeld => ?_)
                      clear hK K
                      refine norm_ (a' := ?_) ?_ ?_
                      rotate_left
                      ·show Act.put _ (some 163) _ = _
                       simp only [Act.put, List.setIfInBounds_toArray, List.set_cons_zero, List.set_cons_succ, i64_w, i32_w]
                       rfl
                      refine pure_ (i := 5) (N := some 158) (v := ?_) (a' := ?_) #[true, true, true, true, true, true, false, false, true, false, false] rfl rfl (any_of HT_.out (by kernel_rfl)) (fun _ _ _ h => h) (Or.inl ⟨by rfl, ?_⟩) ?_ ?_
                      rotate_left
                      ·intro w'
                       go_simp
                       with_reducible rfl
                      rotate_left
                      ·simp only [Act.put, List.setIfInBounds_toArray, List.set_cons_zero, List.set_cons_succ, i64_w, i32_w]
                       rfl
                      refine pure_ (i := 6) (N := some 164) (v := ?_) (a' := ?_) #[true, true, true, true, true, true, true, false, true, false, false] rfl rfl (any_of HT_.out (by kernel_rfl)) (fun _ _ _ h => h) (Or.inl ⟨by rfl, ?_⟩) ?_ ?_
                      rotate_left
                      ·intro w'
                       go_simp
                       with_reducible rfl
                      rotate_left
                      ·simp only [Act.put, List.setIfInBounds_toArray, List.set_cons_zero, List.set_cons_succ, i64_w, i32_w]
                       rfl
                      refine pure_ (i := 7) (N := some 165) (v := ?_) (a' := ?_) #[true, true, true, true, true, true, true, true, true, false, false] rfl rfl (any_of HT_.out (by kernel_rfl)) (fun _ _ _ h => h) (Or.inl ⟨by rfl, ?_⟩) ?_ ?_
                      rotate_left
                      ·intro w'
                       go_simp
                       with_reducible rfl
                      rotate_left
                      ·simp only [Act.put, List.setIfInBounds_toArray, List.set_cons_zero, List.set_cons_succ, i64_w, i32_w]
                       rfl
                      exact norm_ (by simp only [putAll, Act.put, List.setIfInBounds_toArray, List.set_cons_zero, List.set_cons_succ]) (hCont (gb610) _ ⟨hHeld, (by (with_reducible repeat (first | apply Kd.R_alloc | apply Kd.R_drewN | apply Kd.R_drew)); exact Kd.R_mono HO_6.out (fun _ hk => ⟨hk.1.1, ⟨hk.1.2.1, ⟨hk.1.2.2.1, ⟨hk.1.2.2.2.1, ⟨hk.1.2.2.2.2.1, ⟨hk.1.2.2.2.2.2, hk.2⟩⟩⟩⟩⟩⟩)), (by (with_reducible repeat (first | refine blk_drewN ?_ _ | refine blk_drew ?_ | refine blk_alloc ?_ _)); exact BK570.out), (by (with_reducible repeat (first | refine blk_drewN ?_ _ | refine blk_drew ?_ | refine blk_alloc ?_ _)); exact BK574.out), (by (with_reducible repeat (first | refine blk_drewN ?_ _ | refine blk_drew ?_ | refine blk_alloc ?_ _)); exact BK578.out), (by (with_reducible repeat (first | refine blk_drewN ?_ _ | refine blk_drew ?_ | refine blk_alloc ?_ _)); exact BK586.out), (by (with_reducible repeat (first | refine blk_drewN ?_ _ | refine blk_drew ?_ | refine blk_alloc ?_ _)); exact BK590.out), (by (with_reducible repeat (first | refine blk_drewN ?_ _ | refine blk_drew ?_ | refine blk_alloc ?_ _)); exact BK602.out), (by (with_reducible repeat (first | refine blk_drewN ?_ _ | refine blk_drew ?_ | refine blk_alloc ?_ _)); exact BK610.out), GW610.out, GE610.out, NB570_610.out, NB610_570.out, NB574_610.out, NB610_574.out, NB578_610.out, NB610_578.out, NB586_610.out, NB610_586.out, NB590_610.out, NB610_590.out, NB602_610.out, NB610_602.out, (by repeat (first | (with_reducible first | exact HB.out | apply below_alloc | apply pw_below_drewN | apply below_drew1 | refine below_set ?_ GE570.out | refine below_set ?_ GE574.out | refine below_set ?_ GE578.out | refine below_set ?_ GE586.out | refine below_set ?_ GE590.out | refine below_set ?_ GE602.out | refine below_set ?_ GE610.out) | exact HB.out))⟩)
                    rintro gb610 w160 ⟨hS_, h0_, h1_, h2_, h3_, h4_, h5_, h6_, h7_, h8_, h9_, h10_, h11_, h12_, h13_, h14_, h15_, h16_, h17_, h18_, h19_, h20_, h21_, h22_⟩
                    have n0_ : Aside0 (Kd.R k30 30 w160 w.heap.size (fun k_ => k_ ≠ gb570 ∧ k_ ≠ gb574 ∧ k_ ≠ gb578 ∧ k_ ≠ gb586 ∧ k_ ≠ gb590 ∧ k_ ≠ gb602 ∧ k_ ≠ gb610) (.slice Ao13 t567.length co13) t567) := ⟨h0_⟩
                    have n1_ : Aside0 (w160.heap[gb570]? = some (.cells #[.int .i64 t565, .int .i64 t566] 30 (0, 0))) := ⟨h1_⟩
                    have n2_ : Aside0 (w160.heap[gb574]? = some (.cells #[.int .i64 t571, .int .i64 t572] 30 (0, 0))) := ⟨h2_⟩
                    have n3_ : Aside0 (w160.heap[gb578]? = some (.cells #[.int .i64 t575, .int .i64 t576] 30 (0, 0))) := ⟨h3_⟩
                    have n4_ : Aside0 (w160.heap[gb586]? = some (.cells #[.int .i64 t583, .int .i64 t584] 30 (0, 0))) := ⟨h4_⟩
                    have n5_ : Aside0 (w160.heap[gb590]? = some (.cells #[.int .i64 t587, .int .i64 t588] 30 (0, 0))) := ⟨h5_⟩
                    have n6_ : Aside0 (w160.heap[gb602]? = some (.cells #[.int .i64 t599, .int .i64 t600] 30 (0, 0))) := ⟨h6_⟩
                    have n7_ : Aside0 (w160.heap[gb610]? = some (.cells #[.int .i64 0, .int .i64 0] 30 (0, 0))) := ⟨h7_⟩
                    have n8_ : Aside0 (w.heap.size ≤ gb610) := ⟨h8_⟩
                    have n9_ : Aside0 (w.heap.size ≤ gb610) := ⟨h9_⟩
                    have n10_ : Aside0 (gb570 ≠ gb610) := ⟨h10_⟩
                    have n11_ : Aside0 (gb610 ≠ gb570) := ⟨h11_⟩
                    have n12_ : Aside0 (gb574 ≠ gb610) := ⟨h12_⟩
                    have n13_ : Aside0 (gb610 ≠ gb574) := ⟨h13_⟩
                    have n14_ : Aside0 (gb578 ≠ gb610) := ⟨h14_⟩
                    have n15_ : Aside0 (gb610 ≠ gb578) := ⟨h15_⟩
                    have n16_ : Aside0 (gb586 ≠ gb610) := ⟨h16_⟩
                    have n17_ : Aside0 (gb610 ≠ gb586) := ⟨h17_⟩
                    have n18_ : Aside0 (gb590 ≠ gb610) := ⟨h18_⟩
                    have n19_ : Aside0 (gb610 ≠ gb590) := ⟨h19_⟩
                    have n20_ : Aside0 (gb602 ≠ gb610) := ⟨h20_⟩
                    have n21_ : Aside0 (gb610 ≠ gb602) := ⟨h21_⟩
                    have n22_ : Aside0 (Below w.heap.size w w160) := ⟨h22_⟩
                    clear HO_6
                    clear BK570
                    clear BK574
                    clear BK578
                    clear BK586
                    clear BK590
                    clear BK602
                    clear HB
                    clear h0_ h1_ h2_ h3_ h4_ h5_ h6_ h7_ h8_ h9_ h10_ h11_ h12_ h13_ h14_ h15_ h16_ h17_ h18_ h19_ h20_ h21_ h22_
                    have HO_6 := n0_
                    have BK570 := n1_
                    have BK574 := n2_
                    have BK578 := n3_
                    have BK586 := n4_
                    have BK590 := n5_
                    have BK602 := n6_
                    have BK610 := n7_
                    have GW610 := n8_
                    have GE610 := n9_
                    have NB570_610 := n10_
                    have NB610_570 := n11_
                    have NB574_610 := n12_
                    have NB610_574 := n13_
                    have NB578_610 := n14_
                    have NB610_578 := n15_
                    have NB586_610 := n16_
                    have NB610_586 := n17_
                    have NB590_610 := n18_
                    have NB610_590 := n19_
                    have NB602_610 := n20_
                    have NB610_602 := n21_
                    have HB := n22_
                    clear n0_ n1_ n2_ n3_ n4_ n5_ n6_ n7_ n8_ n9_ n10_ n11_ n12_ n13_ n14_ n15_ n16_ n17_ n18_ n19_ n20_ n21_ n22_
                    have hHeld : w160.cell? ⟨gb586, 0, none⟩ = some (.int .i64 t583) ∧ w160.cell? ⟨gb586, 1, none⟩ = some (.int .i64 t584) := hS_
                    refine norm_ (a' := ?_) ?_ ?_
                    rotate_left
                    ·simp only [putAll, Act.put, List.setIfInBounds_toArray, List.set_cons_zero, List.set_cons_succ]
                     rfl
                    refine one_ (i := 9) (N := none) #[true, true, true, true, true, true, true, true, true, true, false] rfl rfl (one_of HT_.out (by kernel_rfl)) (by decide) (fun K hK => ?_)
                    have hs161 : w160.cell? ⟨gb610, 0, none⟩ = some (.int .i64 0) := (blk_cell BK610.out 0).trans rfl
                    have hfs161 := blk_frozen BK610.out 0
                    have hns161_0 := NB570_610.out
                    have hns161_1 := NB574_610.out
                    have hns161_2 := NB578_610.out
                    have hns161_3 := NB586_610.out
                    have hns161_4 := NB590_610.out
                    have hns161_5 := NB602_610.out
                    have hms161_0 := NB610_570.out
                    have hms161_1 := NB610_574.out
                    have hms161_2 := NB610_578.out
                    have hms161_3 := NB610_586.out
                    have hms161_4 := NB610_590.out
                    have hms161_5 := NB610_602.out
                    have hs162 : w160.cell? ⟨gb610, 1, none⟩ = some (.int .i64 0) := (blk_cell BK610.out 1).trans rfl
                    have hfs162 := blk_frozen BK610.out 1
                    have hns162_0 := NB570_610.out
                    have hns162_1 := NB574_610.out
                    have hns162_2 := NB578_610.out
                    have hns162_3 := NB586_610.out
                    have hns162_4 := NB590_610.out
                    have hns162_5 := NB602_610.out
                    have hms162_0 := NB610_570.out
                    have hms162_1 := NB610_574.out
                    have hms162_2 := NB610_578.out
                    have hms162_3 := NB610_586.out
                    have hms162_4 := NB610_590.out
                    have hms162_5 := NB610_602.out
                    refine skip_ (w1 := ?_) (by rfl) rfl ?_ ?_
                    rotate_left
                    ·go_simp
                     rfl
                    refine hK.out _ _ ⟨((cell_far (p := ⟨gb610, _, none⟩) NB586_610.out _).trans (((cell_far (p := ⟨gb610, _, none⟩) NB586_610.out _).trans (hHeld.1)))), ((cell_far (p := ⟨gb610, _, none⟩) NB586_610.out _).trans (((cell_far (p := ⟨gb610, _, none⟩) NB586_610.out _).trans (hHeld.2))))⟩ (fun hHeld => ?_)
                    clear hK K
                    refine pure_ (i := 10) (N := some 21) (v := ?_) (a' := ?_) #[true, true, true, true, true, true, true, true, true, true, true] rfl rfl (any_of HT_.out (by kernel_rfl)) (fun _ _ _ h => h) (Or.inl ⟨by rfl, ?_⟩) ?_ ?_
                    rotate_left
                    ·intro w'
                     go_simp
                     with_reducible rfl
                    rotate_left
                    ·simp only [Act.put, List.setIfInBounds_toArray, List.set_cons_zero, List.set_cons_succ, i64_w, i32_w]
                     rfl
                    refine done_ (done_of HT_.out (by kernel_rfl)) ?_
                    have hnb163 := NB610_570.out
                    have hnc163 := NB570_610.out
                    have hnb164 := NB610_574.out
                    have hnc164 := NB574_610.out
                    have hnb165 := NB610_578.out
                    have hnc165 := NB578_610.out
                    have hnb166 := NB610_586.out
                    have hnc166 := NB586_610.out
                    have hnb167 := NB610_590.out
                    have hnc167 := NB590_610.out
                    have hnb168 := NB610_602.out
                    have hnc168 := NB602_610.out
                    have hcz169_0 : w160.cell? ⟨gb610, 0, none⟩ = some (.int .i64 0) := (blk_cell BK610.out 0).trans rfl
                    have hcz169_1 : w160.cell? ⟨gb610, 1, none⟩ = some (.int .i64 0) := (blk_cell BK610.out 1).trans rfl
                    have hfz169_0 := blk_frozen BK610.out 0
                    have hfz169_1 := blk_frozen BK610.out 1
                    have hnb170 := NB574_570.out
                    have hnc170 := NB570_574.out
                    have hnb171 := NB574_578.out
                    have hnc171 := NB578_574.out
                    have hnb172 := NB574_586.out
                    have hnc172 := NB586_574.out
                    have hnb173 := NB574_590.out
                    have hnc173 := NB590_574.out
                    have hnb174 := NB574_602.out
                    have hnc174 := NB602_574.out
                    have hcz175_0 : w160.cell? ⟨gb574, 0, none⟩ = some (.int .i64 t571) := (blk_cell BK574.out 0).trans rfl
                    have hcz175_1 : w160.cell? ⟨gb574, 1, none⟩ = some (.int .i64 t572) := (blk_cell BK574.out 1).trans rfl
                    have hfz175_0 := blk_frozen BK574.out 0
                    have hfz175_1 := blk_frozen BK574.out 1
                    try go_wp2
                    go_ret
                    exact ⟨by first | rfl | (simp [errW_none, errW_some] <;> rfl) | (simp only [← hji44]; first | rfl | (simp [errW_none, errW_some] <;> rfl)) | (simp [*, errW_none, errW_some] <;> rfl), by repeat (first | (with_reducible first | exact HB.out | apply below_alloc | apply pw_below_drewN | apply below_drew1 | refine below_set ?_ GE570.out | refine below_set ?_ GE574.out | refine below_set ?_ GE578.out | refine below_set ?_ GE586.out | refine below_set ?_ GE590.out | refine below_set ?_ GE602.out | refine below_set ?_ GE610.out) | exact HB.out)⟩
                   ·replace c155 := Bool.eq_false_iff.mpr c155
                    subst c155
                    have H1 : (some false) = some r := by rw [if_neg (show ¬ (false = true) by decide)] at H; exact H
                    clear H
                    have H := H1
                    clear H1
                    obtain rfl := Option.some.inj H
                    try go_wp2
                    have n0_ := Aside0.mk (Kd.R_drew HO_6.out)
                    have n1_ := Aside0.mk (blk_drew BK570.out)
                    have n2_ := Aside0.mk (blk_drew BK574.out)
                    have n3_ := Aside0.mk (blk_drew BK578.out)
                    have n4_ := Aside0.mk (blk_drew BK586.out)
                    have n5_ := Aside0.mk (blk_drew BK590.out)
                    have n6_ := Aside0.mk (blk_drew BK602.out)
                    have n7_ := Aside0.mk (below_drew1 HB.out)
                    clear HO_6
                    clear BK570
                    clear BK574
                    clear BK578
                    clear BK586
                    clear BK590
                    clear BK602
                    clear HB
                    have HO_6 := n0_
                    have BK570 := n1_
                    have BK574 := n2_
                    have BK578 := n3_
                    have BK586 := n4_
                    have BK590 := n5_
                    have BK602 := n6_
                    have HB := n7_
                    clear n0_ n1_ n2_ n3_ n4_ n5_ n6_ n7_
                    have q177 : (ji44 : Int) ≤ ((t567.length : Int) : Int) := of_decide_eq_true (by first | (with_reducible assumption) | assumption)
                    obtain ⟨i0177, hi0177, _, hsz177, _⟩ := info_parts info30
                    have hroom177 : t567.length ≤ co13 := (Kd.R_reads' HO_6.out).2.1
                    have hC177 : Kd.C k30 _ Ao13 t567.length t567 := (Kd.R_reads' HO_6.out).2.2
                    have q0177 : (0 : Int) ≤ (ji44 : Int) := of_decide_eq_true (by first | (with_reducible assumption) | assumption)
                    have hcut177 := cut_from (P := Try.prog) 25 30 .i64 Try.underlying25 hi0177 2 hsz177 Ao13 t567.length co13 ji44 q0177 q177
                    have hr177 := Kd.C_drop (m := (ji44 : Int).toNat) (c := co13) hC177 (by omega) hroom177
                    obtain ⟨A177, hA177⟩ : ∃ A1, A1 = (if co13 = (ji44 : Int).toNat then Ao13 else (Ao13 : Option Addr).map (·.add ((ji44 : Int).toNat * 2))) := ⟨_, rfl⟩
                    obtain ⟨c177, hc177⟩ : ∃ c1, c1 = co13 - (ji44 : Int).toNat := ⟨_, rfl⟩
                    have hy177 : y603.length = t567.length - (ji44 : Int).toNat := (by rw [Ny603.out, List.length_drop] <;> omega)
                    rw [show (t567).drop (ji44 : Int).toNat = y603 from Ny603.out.symm] at hr177
                    replace hr177 : Kd.C k30 _ A177 y603.length y603 := (by rw [hA177]; exact hr177)
                    rw [← hy177, ← hA177, ← hc177] at hcut177
                    have HR606 := Aside0.mk hr177
                    have HC606 := Aside0.mk (show y603.length ≤ c177 from by rw [hy177, hc177]; exact Nat.sub_le_sub_right hroom177 _)
                    clear hr177 hC177 hroom177 hi0177 hsz177 hc177
                    have KY177 := Aside0.mk hy177
                    have KA177 := Aside0.mk hA177
                    clear hy177 hA177
                    have KL177 := Aside0.mk (show (ji44 : Int).toNat ≤ t567.length from by omega)
                    replace q177 := eq_true q177
                    refine start_ (n := 11) (S := fun w' => w'.cell? ⟨gb586, 0, none⟩ = some (.int .i64 t583) ∧ w'.cell? ⟨gb586, 1, none⟩ = some (.int .i64 t584)) (ds := []) #[false, false, false, false, false, false, false, false, false, false, false] (by kernel_rfl) rfl rfl ⟨(blk_cell BK586.out 0).trans rfl, (blk_cell BK586.out 1).trans rfl⟩ (fun hHeld => ?_); refine with_tabW laws_FnTravel.tab21 laws_FnTravel.bits21 (fun HT_ HW_ => ?_)
                    generalize wc.drew = w176 at HO_6 BK570 BK574 BK578 BK586 BK590 BK602 HB HR606 hHeld ⊢
                    refine pure_ (i := 1) (N := some 160) (v := ?_) (a' := ?_) #[false, true, false, false, false, false, false, false, false, false, false] rfl rfl (any_of HT_.out (by kernel_rfl)) (fun _ _ _ h => h) (Or.inl ⟨by rfl, ?_⟩) ?_ ?_
                    rotate_left
                    ·intro w'
                     go_simp
                     with_reducible rfl
                    rotate_left
                    ·simp only [Act.put, List.setIfInBounds_toArray, List.set_cons_zero, List.set_cons_succ, i64_w, i32_w]
                     rfl
                    refine pure_ (i := 2) (N := some 161) (v := ?_) (a' := ?_) #[false, true, true, false, false, false, false, false, false, false, false] rfl rfl (any_of HT_.out (by kernel_rfl)) (fun _ _ _ h => h) (Or.inl ⟨by rfl, ?_⟩) ?_ ?_
                    rotate_left
                    ·intro w'
                     go_simp
                     with_reducible rfl
                    rotate_left
                    ·simp only [Act.put, List.setIfInBounds_toArray, List.set_cons_zero, List.set_cons_succ, i64_w, i32_w]
                     rfl
                    refine pure_ (i := 3) (N := some 162) (v := ?_) (a' := ?_) #[false, true, true, true, false, false, false, false, false, false, false] rfl rfl (any_of HT_.out (by kernel_rfl)) (fun _ _ _ h => h) (Or.inl ⟨by rfl, ?_⟩) ?_ ?_
                    rotate_left
                    ·intro w'
                     go_simp
                     with_reducible rfl
                    rotate_left
                    ·simp only [Act.put, List.setIfInBounds_toArray, List.set_cons_zero, List.set_cons_succ, i64_w, i32_w]
                     rfl
                    refine take_ (i := 0) (N := some 159) (v := ?_) (a' := ?_) #[true, true, true, true, false, false, false, false, false, false, false] rfl rfl (take_ofW HT_.out HW_.out (by kernel_rfl)) (fun _ _ _ h => h) (Or.inl ⟨by rfl, ?_⟩) hHeld ?_ ?_
                    rotate_left
                    ·rintro w' ⟨s0, s1⟩
                     go_simp
                     with_reducible rfl
                    rotate_left
                    ·simp only [Act.put, List.setIfInBounds_toArray, List.set_cons_zero, List.set_cons_succ, i64_w, i32_w]
                     rfl
                    refine join_ (σ := Nat) 2 #[true, true, true, true, true, true, true, true, true, false, false] (fun s_ => [(163, .tuple #[.agg #[.int .i64 t607, .int .i64 t608], .bool false]), (20, .pointer (some ⟨s_, 0, none⟩)), (158, .tuple #[.agg #[.int .i64 t607, .int .i64 t608], .bool false]), (164, .agg #[.int .i64 t607, .int .i64 t608]), (165, .bool false)]) (fun s_ w' => (w'.cell? ⟨gb586, 0, none⟩ = some (.int .i64 t583) ∧ w'.cell? ⟨gb586, 1, none⟩ = some (.int .i64 t584)) ∧ (Kd.R k30 30 w' w.heap.size (fun k_ => k_ ≠ gb570 ∧ k_ ≠ gb574 ∧ k_ ≠ gb578 ∧ k_ ≠ gb586 ∧ k_ ≠ gb590 ∧ k_ ≠ gb602 ∧ k_ ≠ s_) (.slice Ao13 t567.length co13) t567) ∧ (w'.heap[gb570]? = some (.cells #[.int .i64 t565, .int .i64 t566] 30 (0, 0))) ∧ (w'.heap[gb574]? = some (.cells #[.int .i64 t571, .int .i64 t572] 30 (0, 0))) ∧ (w'.heap[gb578]? = some (.cells #[.int .i64 t575, .int .i64 t576] 30 (0, 0))) ∧ (w'.heap[gb586]? = some (.cells #[.int .i64 t583, .int .i64 t584] 30 (0, 0))) ∧ (w'.heap[gb590]? = some (.cells #[.int .i64 t587, .int .i64 t588] 30 (0, 0))) ∧ (w'.heap[gb602]? = some (.cells #[.int .i64 t599, .int .i64 t600] 30 (0, 0))) ∧ (w'.heap[s_]? = some (.cells #[.int .i64 0, .int .i64 0] 30 (0, 0))) ∧ (w.heap.size ≤ s_) ∧ (w.heap.size ≤ s_) ∧ (gb570 ≠ s_) ∧ (s_ ≠ gb570) ∧ (gb574 ≠ s_) ∧ (s_ ≠ gb574) ∧ (gb578 ≠ s_) ∧ (s_ ≠ gb578) ∧ (gb586 ≠ s_) ∧ (s_ ≠ gb586) ∧ (gb590 ≠ s_) ∧ (s_ ≠ gb590) ∧ (gb602 ≠ s_) ∧ (s_ ≠ gb602) ∧ (Below w.heap.size w w')) ?_ ?_
                    rotate_left
                    ·intro hCont
                     refine two_ (i := 4) (j := 8) (Ni := some 163) (Nj := some 20) #[true, true, true, true, true, false, false, false, false, false, false] #[true, true, true, true, false, false, false, false, true, false, false] rfl rfl rfl rfl (two_of HT_.out (by kernel_rfl)) (by decide) (by decide) (fun K hK => ?_) (fun K hK => ?_)
                     ·skip
                      refine goes_ Try.func26 (by kernel_rfl) rfl #[.agg #[.int .i64 t583, .int .i64 t584], .slice A177 y603.length c177] (by rfl) rfl rfl (by (try simp only [List.map_toArray, List.map_cons, List.map_nil]); first | done | rfl | (simp only [List.length_drop, List.length_take]; rfl)) ?_
                      with_reducible refine (impl_TravelEnd.calls kj71 t583 t584 _ _ y603 t607 t608 false _ ?side1 ?side2 A154.out).mono ?_
                      (case side1 => repeat (first | exact (by repeat (first | (with_reducible exact HR606.out) | (with_reducible refine Kd.C_alloc ?_ _) | (with_reducible refine Kd.C_drewN ?_ _) | (with_reducible refine Kd.C_drew ?_) | exact HR606.out)) | (with_reducible refine Kd.C_alloc ?_ _) | (with_reducible refine Kd.C_drewN ?_ _) | (with_reducible refine Kd.C_drew ?_)))
                      (case side2 => exact HC606.out)
                      rintro e w178 ⟨rfl, hb⟩
                      refine ⟨_, rfl, ?_⟩
                      have n0_ := Aside0.mk (Kd.R_below (by (with_reducible repeat (first | apply Kd.R_alloc | apply Kd.R_drewN | apply Kd.R_drew)); exact HO_6.out) hb)
                      have n1_ := Aside0.mk (blk_below (g := gb570) (o := .cells #[.int .i64 t565, .int .i64 t566] 30 (0, 0)) (by (with_reducible repeat (first | refine blk_drewN ?_ _ | refine blk_drew ?_ | refine blk_alloc ?_ _)); exact BK570.out) hb)
                      have n2_ := Aside0.mk (blk_below (g := gb574) (o := .cells #[.int .i64 t571, .int .i64 t572] 30 (0, 0)) (by (with_reducible repeat (first | refine blk_drewN ?_ _ | refine blk_drew ?_ | refine blk_alloc ?_ _)); exact BK574.out) hb)
                      have n3_ := Aside0.mk (blk_below (g := gb578) (o := .cells #[.int .i64 t575, .int .i64 t576] 30 (0, 0)) (by (with_reducible repeat (first | refine blk_drewN ?_ _ | refine blk_drew ?_ | refine blk_alloc ?_ _)); exact BK578.out) hb)
                      have n4_ := Aside0.mk (blk_below (g := gb586) (o := .cells #[.int .i64 t583, .int .i64 t584] 30 (0, 0)) (by (with_reducible repeat (first | refine blk_drewN ?_ _ | refine blk_drew ?_ | refine blk_alloc ?_ _)); exact BK586.out) hb)
                      have n5_ := Aside0.mk (blk_below (g := gb590) (o := .cells #[.int .i64 t587, .int .i64 t588] 30 (0, 0)) (by (with_reducible repeat (first | refine blk_drewN ?_ _ | refine blk_drew ?_ | refine blk_alloc ?_ _)); exact BK590.out) hb)
                      have n6_ := Aside0.mk (blk_below (g := gb602) (o := .cells #[.int .i64 t599, .int .i64 t600] 30 (0, 0)) (by (with_reducible repeat (first | refine blk_drewN ?_ _ | refine blk_drew ?_ | refine blk_alloc ?_ _)); exact BK602.out) hb)
                      have n7_ := Aside0.mk (Kd.C_below (by repeat (first | (with_reducible exact HR606.out) | (with_reducible refine Kd.C_alloc ?_ _) | (with_reducible refine Kd.C_drewN ?_ _) | (with_reducible refine Kd.C_drew ?_) | exact HR606.out)) hb)
                      have n8_ := Aside0.mk (below_step (by repeat (first | (with_reducible first | exact HB.out | apply below_alloc | apply pw_below_drewN | apply below_drew1 | refine below_set ?_ GE570.out | refine below_set ?_ GE574.out | refine below_set ?_ GE578.out | refine below_set ?_ GE586.out | refine below_set ?_ GE590.out | refine below_set ?_ GE602.out) | exact HB.out)) hb)
                      clear HO_6
                      clear BK570
                      clear BK574
                      clear BK578
                      clear BK586
                      clear BK590
                      clear BK602
                      clear HR606
                      clear HB
                      have HO_6 := n0_
                      have BK570 := n1_
                      have BK574 := n2_
                      have BK578 := n3_
                      have BK586 := n4_
                      have BK590 := n5_
                      have BK602 := n6_
                      have HR606 := n7_
                      have HB := n8_
                      clear n0_ n1_ n2_ n3_ n4_ n5_ n6_ n7_ n8_
                      (try clear hb)
                      (try clear hb2)
                      (try clear hk)
                      (try clear hi)
                      refine hK.out _ _ ⟨(blk_cell BK586.out 0).trans rfl, (blk_cell BK586.out 1).trans rfl⟩ (fun hHeld => ?_)
                      clear hK K
                      refine norm_ (a' := ?_) ?_ ?_
                      rotate_left
                      ·show Act.put _ (some 163) _ = _
                       simp only [Act.put, List.setIfInBounds_toArray, List.set_cons_zero, List.set_cons_succ, i64_w, i32_w]
                       rfl
                      refine pure_ (i := 5) (N := some 158) (v := ?_) (a' := ?_) #[true, true, true, true, true, true, false, false, false, false, false] rfl rfl (any_of HT_.out (by kernel_rfl)) (fun _ _ _ h => h) (Or.inl ⟨by rfl, ?_⟩) ?_ ?_
                      rotate_left
                      ·intro w'
                       go_simp
                       with_reducible rfl
                      rotate_left
                      ·simp only [Act.put, List.setIfInBounds_toArray, List.set_cons_zero, List.set_cons_succ, i64_w, i32_w]
                       rfl
                      refine pure_ (i := 6) (N := some 164) (v := ?_) (a' := ?_) #[true, true, true, true, true, true, true, false, false, false, false] rfl rfl (any_of HT_.out (by kernel_rfl)) (fun _ _ _ h => h) (Or.inl ⟨by rfl, ?_⟩) ?_ ?_
                      rotate_left
                      ·intro w'
                       go_simp
                       with_reducible rfl
                      rotate_left
                      ·simp only [Act.put, List.setIfInBounds_toArray, List.set_cons_zero, List.set_cons_succ, i64_w, i32_w]
                       rfl
                      refine pure_ (i := 7) (N := some 165) (v := ?_) (a' := ?_) #[true, true, true, true, true, true, true, true, false, false, false] rfl rfl (any_of HT_.out (by kernel_rfl)) (fun _ _ _ h => h) (Or.inl ⟨by rfl, ?_⟩) ?_ ?_
                      rotate_left
                      ·intro w'
                       go_simp
                       with_reducible rfl
                      rotate_left
                      ·simp only [Act.put, List.setIfInBounds_toArray, List.set_cons_zero, List.set_cons_succ, i64_w, i32_w]
                       rfl
                      refine one_ (i := 8) (N := some 20) #[true, true, true, true, true, true, true, true, true, false, false] rfl rfl (one_of HT_.out (by kernel_rfl)) (by decide) (fun K hK => ?_)
                      refine box_step ?hg (N := 20) ?hd (cs := #[.int .i64 0, .int .i64 0]) (t := 30) ?hr ?_; (case hd => rfl); (case hg => rfl); (case hr => first | (go_simp; done) | (go_simp; rfl))
                      intro gb610 hg w179 hbox hb
                      have n0_ := Aside0.mk (Kd.R_below (Kd.R_elderB (by (with_reducible repeat (first | apply Kd.R_alloc | apply Kd.R_drewN | apply Kd.R_drew)); exact HO_6.out) gb610 (Nat.le_of_eq hg.symm)) hb)
                      have n1_ := Aside0.mk (blk_below (g := gb570) (o := .cells #[.int .i64 t565, .int .i64 t566] 30 (0, 0)) (by (with_reducible repeat (first | refine blk_drewN ?_ _ | refine blk_drew ?_ | refine blk_alloc ?_ _)); exact BK570.out) hb)
                      have n2_ := Aside0.mk (blk_below (g := gb574) (o := .cells #[.int .i64 t571, .int .i64 t572] 30 (0, 0)) (by (with_reducible repeat (first | refine blk_drewN ?_ _ | refine blk_drew ?_ | refine blk_alloc ?_ _)); exact BK574.out) hb)
                      have n3_ := Aside0.mk (blk_below (g := gb578) (o := .cells #[.int .i64 t575, .int .i64 t576] 30 (0, 0)) (by (with_reducible repeat (first | refine blk_drewN ?_ _ | refine blk_drew ?_ | refine blk_alloc ?_ _)); exact BK578.out) hb)
                      have n4_ := Aside0.mk (blk_below (g := gb586) (o := .cells #[.int .i64 t583, .int .i64 t584] 30 (0, 0)) (by (with_reducible repeat (first | refine blk_drewN ?_ _ | refine blk_drew ?_ | refine blk_alloc ?_ _)); exact BK586.out) hb)
                      have n5_ := Aside0.mk (blk_below (g := gb590) (o := .cells #[.int .i64 t587, .int .i64 t588] 30 (0, 0)) (by (with_reducible repeat (first | refine blk_drewN ?_ _ | refine blk_drew ?_ | refine blk_alloc ?_ _)); exact BK590.out) hb)
                      have n6_ := Aside0.mk (blk_below (g := gb602) (o := .cells #[.int .i64 t599, .int .i64 t600] 30 (0, 0)) (by (with_reducible repeat (first | refine blk_drewN ?_ _ | refine blk_drew ?_ | refine blk_alloc ?_ _)); exact BK602.out) hb)
                      have n7_ := Aside0.mk (Kd.C_below (by repeat (first | (with_reducible exact HR606.out) | (with_reducible refine Kd.C_alloc ?_ _) | (with_reducible refine Kd.C_drewN ?_ _) | (with_reducible refine Kd.C_drew ?_) | exact HR606.out)) hb)
                      have n8_ := Aside0.mk (below_step (by repeat (first | (with_reducible first | exact HB.out | apply below_alloc | apply pw_below_drewN | apply below_drew1 | refine below_set ?_ GE570.out | refine below_set ?_ GE574.out | refine below_set ?_ GE578.out | refine below_set ?_ GE586.out | refine below_set ?_ GE590.out | refine below_set ?_ GE602.out) | exact HB.out)) hb)
                      have n9_ := Aside0.mk (hbox)
                      have n10_ := Aside0.mk ((by rw [hg]; exact (below_size (by repeat (first | (with_reducible first | exact HB.out | apply below_alloc | apply pw_below_drewN | apply below_drew1 | refine below_set ?_ GE570.out | refine below_set ?_ GE574.out | refine below_set ?_ GE578.out | refine below_set ?_ GE586.out | refine below_set ?_ GE590.out | refine below_set ?_ GE602.out) | exact HB.out))) : w.heap.size ≤ gb610))
                      have n11_ := Aside0.mk ((by rw [hg]; exact (below_size (by repeat (first | (with_reducible first | exact HB.out | apply below_alloc | apply pw_below_drewN | apply below_drew1 | refine below_set ?_ GE570.out | refine below_set ?_ GE574.out | refine below_set ?_ GE578.out | refine below_set ?_ GE586.out | refine below_set ?_ GE590.out | refine below_set ?_ GE602.out) | exact HB.out))) : w.heap.size ≤ gb610))
                      have n12_ := Aside0.mk ((by rw [hg]; exact Nat.ne_of_lt (blk_lt (g := gb570) (o := .cells #[.int .i64 t565, .int .i64 t566] 30 (0, 0)) (by (with_reducible repeat (first | refine blk_drewN ?_ _ | refine blk_drew ?_ | refine blk_alloc ?_ _)); exact BK570.out)) : gb570 ≠ gb610))
                      have n13_ := Aside0.mk ((by rw [hg]; exact Nat.ne_of_gt (blk_lt (g := gb570) (o := .cells #[.int .i64 t565, .int .i64 t566] 30 (0, 0)) (by (with_reducible repeat (first | refine blk_drewN ?_ _ | refine blk_drew ?_ | refine blk_alloc ?_ _)); exact BK570.out)) : gb610 ≠ gb570))
                      have n14_ := Aside0.mk ((by rw [hg]; exact Nat.ne_of_lt (blk_lt (g := gb574) (o := .cells #[.int .i64 t571, .int .i64 t572] 30 (0, 0)) (by (with_reducible repeat (first | refine blk_drewN ?_ _ | refine blk_drew ?_ | refine blk_alloc ?_ _)); exact BK574.out)) : gb574 ≠ gb610))
                      have n15_ := Aside0.mk ((by rw [hg]; exact Nat.ne_of_gt (blk_lt (g := gb574) (o := .cells #[.int .i64 t571, .int .i64 t572] 30 (0, 0)) (by (with_reducible repeat (first | refine blk_drewN ?_ _ | refine blk_drew ?_ | refine blk_alloc ?_ _)); exact BK574.out)) : gb610 ≠ gb574))
                      have n16_ := Aside0.mk ((by rw [hg]; exact Nat.ne_of_lt (blk_lt (g := gb578) (o := .cells #[.int .i64 t575, .int .i64 t576] 30 (0, 0)) (by (with_reducible repeat (first | refine blk_drewN ?_ _ | refine blk_drew ?_ | refine blk_alloc ?_ _)); exact BK578.out)) : gb578 ≠ gb610))
                      have n17_ := Aside0.mk ((by rw [hg]; exact Nat.ne_of_gt (blk_lt (g := gb578) (o := .cells #[.int .i64 t575, .int .i64 t576] 30 (0, 0)) (by (with_reducible repeat (first | refine blk_drewN ?_ _ | refine blk_drew ?_ | refine blk_alloc ?_ _)); exact BK578.out)) : gb610 ≠ gb578))
                      have n18_ := Aside0.mk ((by rw [hg]; exact Nat.ne_of_lt (blk_lt (g := gb586) (o := .cells #[.int .i64 t583, .int .i64 t584] 30 (0, 0)) (by (with_reducible repeat (first | refine blk_drewN ?_ _ | refine blk_drew ?_ | refine blk_alloc ?_ _)); exact BK586.out)) : gb586 ≠ gb610))
                      have n19_ := Aside0.mk ((by rw [hg]; exact Nat.ne_of_gt (blk_lt (g := gb586) (o := .cells #[.int .i64 t583, .int .i64 t584] 30 (0, 0)) (by (with_reducible repeat (first | refine blk_drewN ?_ _ | refine blk_drew ?_ | refine blk_alloc ?_ _)); exact BK586.out)) : gb610 ≠ gb586))
                      have n20_ := Aside0.mk ((by rw [hg]; exact Nat.ne_of_lt (blk_lt (g := gb590) (o := .cells #[.int .i64 t587, .int .i64 t588] 30 (0, 0)) (by (with_reducible repeat (first | refine blk_drewN ?_ _ | refine blk_drew ?_ | refine blk_alloc ?_ _)); exact BK590.out)) : gb590 ≠ gb610))
                      have n21_ := Aside0.mk ((by rw [hg]; exact Nat.ne_of_gt (blk_lt (g := gb590) (o := .cells #[.int .i64 t587, .int .i64 t588] 30 (0, 0)) (by (with_reducible repeat (first | refine blk_drewN ?_ _ | refine blk_drew ?_ | refine blk_alloc ?_ _)); exact BK590.out)) : gb610 ≠ gb590))
                      have n22_ := Aside0.mk ((by rw [hg]; exact Nat.ne_of_lt (blk_lt (g := gb602) (o := .cells #[.int .i64 t599, .int .i64 t600] 30 (0, 0)) (by (with_reducible repeat (first | refine blk_drewN ?_ _ | refine blk_drew ?_ | refine blk_alloc ?_ _)); exact BK602.out)) : gb602 ≠ gb610))
                      have n23_ := Aside0.mk ((by rw [hg]; exact Nat.ne_of_gt (blk_lt (g := gb602) (o := .cells #[.int .i64 t599, .int .i64 t600] 30 (0, 0)) (by (with_reducible repeat (first | refine blk_drewN ?_ _ | refine blk_drew ?_ | refine blk_alloc ?_ _)); exact BK602.out)) : gb610 ≠ gb602))
                      clear HO_6
                      clear BK570
                      clear BK574
                      clear BK578
                      clear BK586
                      clear BK590
                      clear BK602
                      clear HR606
                      clear HB
                      have HO_6 := n0_
                      have BK570 := n1_
                      have BK574 := n2_
                      have BK578 := n3_
                      have BK586 := n4_
                      have BK590 := n5_
                      have BK602 := n6_
                      have HR606 := n7_
                      have HB := n8_
                      have BK610 := n9_
                      have GW610 := n10_
                      have GE610 := n11_
                      have NB570_610 := n12_
                      have NB610_570 := n13_
                      have NB574_610 := n14_
                      have NB610_574 := n15_
                      have NB578_610 := n16_
                      have NB610_578 := n17_
                      have NB586_610 := n18_
                      have NB610_586 := n19_
                      have NB590_610 := n20_
                      have NB610_590 := n21_
                      have NB602_610 := n22_
                      have NB610_602 := n23_
                      clear n0_ n1_ n2_ n3_ n4_ n5_ n6_ n7_ n8_ n9_ n10_ n11_ n12_ n13_ n14_ n15_ n16_ n17_ n18_ n19_ n20_ n21_ n22_ n23_
                      clear hb hbox hg
                      refine hK.out _ _ ⟨(blk_cell BK586.out 0).trans rfl, (blk_cell BK586.out 1).trans rfl⟩ (fun hHeld => ?_)
                      clear hK K
                      refine norm_ (a' := ?_) ?_ ?_
                      rotate_left
                      ·show Act.put _ (some 20) _ = _
                       simp only [Act.put, List.setIfInBounds_toArray, List.set_cons_zero, List.set_cons_succ, i64_w, i32_w]
                       rfl
                      exact norm_ (by simp only [putAll, Act.put, List.setIfInBounds_toArray, List.set_cons_zero, List.set_cons_succ]) (hCont (gb610) _ ⟨hHeld, (by (with_reducible repeat (first | apply Kd.R_alloc | apply Kd.R_drewN | apply Kd.R_drew)); exact Kd.R_mono HO_6.out (fun _ hk => ⟨hk.1.1, ⟨hk.1.2.1, ⟨hk.1.2.2.1, ⟨hk.1.2.2.2.1, ⟨hk.1.2.2.2.2.1, ⟨hk.1.2.2.2.2.2, hk.2⟩⟩⟩⟩⟩⟩)), (by (with_reducible repeat (first | refine blk_drewN ?_ _ | refine blk_drew ?_ | refine blk_alloc ?_ _)); exact BK570.out), (by (with_reducible repeat (first | refine blk_drewN ?_ _ | refine blk_drew ?_ | refine blk_alloc ?_ _)); exact BK574.out), (by (with_reducible repeat (first | refine blk_drewN ?_ _ | refine blk_drew ?_ | refine blk_alloc ?_ _)); exact BK578.out), (by (with_reducible repeat (first | refine blk_drewN ?_ _ | refine blk_drew ?_ | refine blk_alloc ?_ _)); exact BK586.out), (by (with_reducible repeat (first | refine blk_drewN ?_ _ | refine blk_drew ?_ | refine blk_alloc ?_ _)); exact BK590.out), (by (with_reducible repeat (first | refine blk_drewN ?_ _ | refine blk_drew ?_ | refine blk_alloc ?_ _)); exact BK602.out), (by (with_reducible repeat (first | refine blk_drewN ?_ _ | refine blk_drew ?_ | refine blk_alloc ?_ _)); exact BK610.out), GW610.out, GE610.out, NB570_610.out, NB610_570.out, NB574_610.out, NB610_574.out, NB578_610.out, NB610_578.out, NB586_610.out, NB610_586.out, NB590_610.out, NB610_590.out, NB602_610.out, NB610_602.out, (by repeat (first | (with_reducible first | exact HB.out | apply below_alloc | apply pw_below_drewN | apply below_drew1 | refine below_set ?_ GE570.out | refine below_set ?_ GE574.out | refine below_set ?_ GE578.out | refine below_set ?_ GE586.out | refine below_set ?_ GE590.out | refine below_set ?_ GE602.out | refine below_set ?_ GE610.out) | exact HB.out))⟩)
                     ·skip
                      refine box_step ?hg (N := 20) ?hd (cs := #[.int .i64 0, .int .i64 0]) (t := 30) ?hr ?_; (case hd => rfl); (case hg => rfl); (case hr => first | (go_simp; done) | (go_simp; rfl))
                      intro gb610 hg w178 hbox hb
                      have n0_ := Aside0.mk (Kd.R_below (Kd.R_elderB (by (with_reducible repeat (first | apply Kd.R_alloc | apply Kd.R_drewN | apply Kd.R_drew)); exact HO_6.out) gb610 (Nat.le_of_eq hg.symm)) hb)
                      have n1_ := Aside0.mk (blk_below (g := gb570) (o := .cells #[.int .i64 t565, .int .i64 t566] 30 (0, 0)) (by (with_reducible repeat (first | refine blk_drewN ?_ _ | refine blk_drew ?_ | refine blk_alloc ?_ _)); exact BK570.out) hb)
                      have n2_ := Aside0.mk (blk_below (g := gb574) (o := .cells #[.int .i64 t571, .int .i64 t572] 30 (0, 0)) (by (with_reducible repeat (first | refine blk_drewN ?_ _ | refine blk_drew ?_ | refine blk_alloc ?_ _)); exact BK574.out) hb)
                      have n3_ := Aside0.mk (blk_below (g := gb578) (o := .cells #[.int .i64 t575, .int .i64 t576] 30 (0, 0)) (by (with_reducible repeat (first | refine blk_drewN ?_ _ | refine blk_drew ?_ | refine blk_alloc ?_ _)); exact BK578.out) hb)
                      have n4_ := Aside0.mk (blk_below (g := gb586) (o := .cells #[.int .i64 t583, .int .i64 t584] 30 (0, 0)) (by (with_reducible repeat (first | refine blk_drewN ?_ _ | refine blk_drew ?_ | refine blk_alloc ?_ _)); exact BK586.out) hb)
                      have n5_ := Aside0.mk (blk_below (g := gb590) (o := .cells #[.int .i64 t587, .int .i64 t588] 30 (0, 0)) (by (with_reducible repeat (first | refine blk_drewN ?_ _ | refine blk_drew ?_ | refine blk_alloc ?_ _)); exact BK590.out) hb)
                      have n6_ := Aside0.mk (blk_below (g := gb602) (o := .cells #[.int .i64 t599, .int .i64 t600] 30 (0, 0)) (by (with_reducible repeat (first | refine blk_drewN ?_ _ | refine blk_drew ?_ | refine blk_alloc ?_ _)); exact BK602.out) hb)
                      have n7_ := Aside0.mk (Kd.C_below (by repeat (first | (with_reducible exact HR606.out) | (with_reducible refine Kd.C_alloc ?_ _) | (with_reducible refine Kd.C_drewN ?_ _) | (with_reducible refine Kd.C_drew ?_) | exact HR606.out)) hb)
                      have n8_ := Aside0.mk (below_step (by repeat (first | (with_reducible first | exact HB.out | apply below_alloc | apply pw_below_drewN | apply below_drew1 | refine below_set ?_ GE570.out | refine below_set ?_ GE574.out | refine below_set ?_ GE578.out | refine below_set ?_ GE586.out | refine below_set ?_ GE590.out | refine below_set ?_ GE602.out) | exact HB.out)) hb)
                      have n9_ := Aside0.mk (hbox)
                      have n10_ := Aside0.mk ((by rw [hg]; exact (below_size (by repeat (first | (with_reducible first | exact HB.out | apply below_alloc | apply pw_below_drewN | apply below_drew1 | refine below_set ?_ GE570.out | refine below_set ?_ GE574.out | refine below_set ?_ GE578.out | refine below_set ?_ GE586.out | refine below_set ?_ GE590.out | refine below_set ?_ GE602.out) | exact HB.out))) : w.heap.size ≤ gb610))
                      have n11_ := Aside0.mk ((by rw [hg]; exact (below_size (by repeat (first | (with_reducible first | exact HB.out | apply below_alloc | apply pw_below_drewN | apply below_drew1 | refine below_set ?_ GE570.out | refine below_set ?_ GE574.out | refine below_set ?_ GE578.out | refine below_set ?_ GE586.out | refine below_set ?_ GE590.out | refine below_set ?_ GE602.out) | exact HB.out))) : w.heap.size ≤ gb610))
                      have n12_ := Aside0.mk ((by rw [hg]; exact Nat.ne_of_lt (blk_lt (g := gb570) (o := .cells #[.int .i64 t565, .int .i64 t566] 30 (0, 0)) (by (with_reducible repeat (first | refine blk_drewN ?_ _ | refine blk_drew ?_ | refine blk_alloc ?_ _)); exact BK570.out)) : gb570 ≠ gb610))
                      have n13_ := Aside0.mk ((by rw [hg]; exact Nat.ne_of_gt (blk_lt (g := gb570) (o := .cells #[.int .i64 t565, .int .i64 t566] 30 (0, 0)) (by (with_reducible repeat (first | refine blk_drewN ?_ _ | refine blk_drew ?_ | refine blk_alloc ?_ _)); exact BK570.out)) : gb610 ≠ gb570))
                      have n14_ := Aside0.mk ((by rw [hg]; exact Nat.ne_of_lt (blk_lt (g := gb574) (o := .cells #[.int .i64 t571, .int .i64 t572] 30 (0, 0)) (by (with_reducible repeat (first | refine blk_drewN ?_ _ | refine blk_drew ?_ | refine blk_alloc ?_ _)); exact BK574.out)) : gb574 ≠ gb610))
                      have n15_ := Aside0.mk ((by rw [hg]; exact Nat.ne_of_gt (blk_lt (g := gb574) (o := .cells #[.int .i64 t571, .int .i64 t572] 30 (0, 0)) (by (with_reducible repeat (first | refine blk_drewN ?_ _ | refine blk_drew ?_ | refine blk_alloc ?_ _)); exact BK574.out)) : gb610 ≠ gb574))
                      have n16_ := Aside0.mk ((by rw [hg]; exact Nat.ne_of_lt (blk_lt (g := gb578) (o := .cells #[.int .i64 t575, .int .i64 t576] 30 (0, 0)) (by (with_reducible repeat (first | refine blk_drewN ?_ _ | refine blk_drew ?_ | refine blk_alloc ?_ _)); exact BK578.out)) : gb578 ≠ gb610))
                      have n17_ := Aside0.mk ((by rw [hg]; exact Nat.ne_of_gt (blk_lt (g := gb578) (o := .cells #[.int .i64 t575, .int .i64 t576] 30 (0, 0)) (by (with_reducible repeat (first | refine blk_drewN ?_ _ | refine blk_drew ?_ | refine blk_alloc ?_ _)); exact BK578.out)) : gb610 ≠ gb578))
                      have n18_ := Aside0.mk ((by rw [hg]; exact Nat.ne_of_lt (blk_lt (g := gb586) (o := .cells #[.int .i64 t583, .int .i64 t584] 30 (0, 0)) (by (with_reducible repeat (first | refine blk_drewN ?_ _ | refine blk_drew ?_ | refine blk_alloc ?_ _)); exact BK586.out)) : gb586 ≠ gb610))
                      have n19_ := Aside0.mk ((by rw [hg]; exact Nat.ne_of_gt (blk_lt (g := gb586) (o := .cells #[.int .i64 t583, .int .i64 t584] 30 (0, 0)) (by (with_reducible repeat (first | refine blk_drewN ?_ _ | refine blk_drew ?_ | refine blk_alloc ?_ _)); exact BK586.out)) : gb610 ≠ gb586))
                      have n20_ := Aside0.mk ((by rw [hg]; exact Nat.ne_of_lt (blk_lt (g := gb590) (o := .cells #[.int .i64 t587, .int .i64 t588] 30 (0, 0)) (by (with_reducible repeat (first | refine blk_drewN ?_ _ | refine blk_drew ?_ | refine blk_alloc ?_ _)); exact BK590.out)) : gb590 ≠ gb610))
                      have n21_ := Aside0.mk ((by rw [hg]; exact Nat.ne_of_gt (blk_lt (g := gb590) (o := .cells #[.int .i64 t587, .int .i64 t588] 30 (0, 0)) (by (with_reducible repeat (first | refine blk_drewN ?_ _ | refine blk_drew ?_ | refine blk_alloc ?_ _)); exact BK590.out)) : gb610 ≠ gb590))
                      have n22_ := Aside0.mk ((by rw [hg]; exact Nat.ne_of_lt (blk_lt (g := gb602) (o := .cells #[.int .i64 t599, .int .i64 t600] 30 (0, 0)) (by (with_reducible repeat (first | refine blk_drewN ?_ _ | refine blk_drew ?_ | refine blk_alloc ?_ _)); exact BK602.out)) : gb602 ≠ gb610))
                      have n23_ := Aside0.mk ((by rw [hg]; exact Nat.ne_of_gt (blk_lt (g := gb602) (o := .cells #[.int .i64 t599, .int .i64 t600] 30 (0, 0)) (by (with_reducible repeat (first | refine blk_drewN ?_ _ | refine blk_drew ?_ | refine blk_alloc ?_ _)); exact BK602.out)) : gb610 ≠ gb602))
                      clear HO_6
                      clear BK570
                      clear BK574
                      clear BK578
                      clear BK586
                      clear BK590
                      clear BK602
                      clear HR606
                      clear HB
                      have HO_6 := n0_
                      have BK570 := n1_
                      have BK574 := n2_
                      have BK578 := n3_
                      have BK586 := n4_
                      have BK590 := n5_
                      have BK602 := n6_
                      have HR606 := n7_
                      have HB := n8_
                      have BK610 := n9_
                      have GW610 := n10_
                      have GE610 := n11_
                      have NB570_610 := n12_
                      have NB610_570 := n13_
                      have NB574_610 := n14_
                      have NB610_574 := n15_
                      have NB578_610 := n16_
                      have NB610_578 := n17_
                      have NB586_610 := n18_
                      have NB610_586 := n19_
                      have NB590_610 := n20_
                      have NB610_590 := n21_
                      have NB602_610 := n22_
                      have NB610_602 := n23_
                      clear n0_ n1_ n2_ n3_ n4_ n5_ n6_ n7_ n8_ n9_ n10_ n11_ n12_ n13_ n14_ n15_ n16_ n17_ n18_ n19_ n20_ n21_ n22_ n23_
                      clear hb hbox hg
                      refine hK.out _ _ ⟨(blk_cell BK586.out 0).trans rfl, (blk_cell BK586.out 1).trans rfl⟩ (fun hHeld => ?_)
                      clear hK K
                      refine norm_ (a' := ?_) ?_ ?_
                      rotate_left
                      ·show Act.put _ (some 20) _ = _
                       simp only [Act.put, List.setIfInBounds_toArray, List.set_cons_zero, List.set_cons_succ, i64_w, i32_w]
                       rfl
                      refine one_ (i := 4) (N := some 163) #[true, true, true, true, true, false, false, false, true, false, false] rfl rfl (one_of HT_.out (by kernel_rfl)) (by decide) (fun K hK => ?_)
                      refine goes_ Try.func26 (by kernel_rfl) rfl #[.agg #[.int .i64 t583, .int .i64 t584], .slice A177 y603.length c177] (by rfl) rfl rfl (by (try simp only [List.map_toArray, List.map_cons, List.map_nil]); first | done | rfl | (simp only [List.length_drop, List.length_take]; rfl)) ?_
                      with_reducible refine (impl_TravelEnd.calls kj71 t583 t584 _ _ y603 t607 t608 false _ ?side1 ?side2 A154.out).mono ?_
                      (case side1 => repeat (first | exact (by repeat (first | (with_reducible exact HR606.out) | (with_reducible refine Kd.C_alloc ?_ _) | (with_reducible refine Kd.C_drewN ?_ _) | (with_reducible refine Kd.C_drew ?_) | exact HR606.out)) | (with_reducible refine Kd.C_alloc ?_ _) | (with_reducible refine Kd.C_drewN ?_ _) | (with_reducible refine Kd.C_drew ?_)))
                      (case side2 => exact HC606.out)
                      rintro e w179 ⟨rfl, hb⟩
                      refine ⟨_, rfl, ?_⟩
                      have n0_ := Aside0.mk (Kd.R_below (by (with_reducible repeat (first | apply Kd.R_alloc | apply Kd.R_drewN | apply Kd.R_drew)); exact HO_6.out) hb)
                      have n1_ := Aside0.mk (blk_below (g := gb570) (o := .cells #[.int .i64 t565, .int .i64 t566] 30 (0, 0)) (by (with_reducible repeat (first | refine blk_drewN ?_ _ | refine blk_drew ?_ | refine blk_alloc ?_ _)); exact BK570.out) hb)
                      have n2_ := Aside0.mk (blk_below (g := gb574) (o := .cells #[.int .i64 t571, .int .i64 t572] 30 (0, 0)) (by (with_reducible repeat (first | refine blk_drewN ?_ _ | refine blk_drew ?_ | refine blk_alloc ?_ _)); exact BK574.out) hb)
                      have n3_ := Aside0.mk (blk_below (g := gb578) (o := .cells #[.int .i64 t575, .int .i64 t576] 30 (0, 0)) (by (with_reducible repeat (first | refine blk_drewN ?_ _ | refine blk_drew ?_ | refine blk_alloc ?_ _)); exact BK578.out) hb)
                      have n4_ := Aside0.mk (blk_below (g := gb586) (o := .cells #[.int .i64 t583, .int .i64 t584] 30 (0, 0)) (by (with_reducible repeat (first | refine blk_drewN ?_ _ | refine blk_drew ?_ | refine blk_alloc ?_ _)); exact BK586.out) hb)
                      have n5_ := Aside0.mk (blk_below (g := gb590) (o := .cells #[.int .i64 t587, .int .i64 t588] 30 (0, 0)) (by (with_reducible repeat (first | refine blk_drewN ?_ _ | refine blk_drew ?_ | refine blk_alloc ?_ _)); exact BK590.out) hb)
                      have n6_ := Aside0.mk (blk_below (g := gb602) (o := .cells #[.int .i64 t599, .int .i64 t600] 30 (0, 0)) (by (with_reducible repeat (first | refine blk_drewN ?_ _ | refine blk_drew ?_ | refine blk_alloc ?_ _)); exact BK602.out) hb)
                      have n7_ := Aside0.mk (Kd.C_below (by repeat (first | (with_reducible exact HR606.out) | (with_reducible refine Kd.C_alloc ?_ _) | (with_reducible refine Kd.C_drewN ?_ _) | (with_reducible refine Kd.C_drew ?_) | exact HR606.out)) hb)
                      have n8_ := Aside0.mk (blk_below (g := gb610) (o := .cells #[.int .i64 0, .int .i64 0] 30 (0, 0)) (by (with_reducible repeat (first | refine blk_drewN ?_ _ | refine blk_drew ?_ | refine blk_alloc ?_ _)); exact BK610.out) hb)
                      have n9_ := Aside0.mk (below_step (by repeat (first | (with_reducible first | exact HB.out | apply below_alloc | apply pw_below_drewN | apply below_drew1 | refine below_set ?_ GE570.out | refine below_set ?_ GE574.out | refine below_set ?_ GE578.out | refine below_set ?_ GE586.out | refine below_set ?_ GE590.out | refine below_set ?_ GE602.out | refine below_set ?_ GE610.out) | exact HB.out)) hb)
                      clear HO_6
                      clear BK570
                      clear BK574
                      clear BK578
                      clear BK586
                      clear BK590
                      clear BK602
                      clear HR606
                      clear BK610
                      clear HB
                      have HO_6 := n0_
                      have BK570 := n1_
                      have BK574 := n2_
                      have BK578 := n3_
                      have BK586 := n4_
                      have BK590 := n5_
                      have BK602 := n6_
                      have HR606 := n7_
                      have BK610 := n8_
                      have HB := n9_
                      clear n0_ n1_ n2_ n3_ n4_ n5_ n6_ n7_ n8_ n9_
                      (try clear hb)
                      (try clear hb2)
                      (try clear hk)
                      (try clear hi)
                      refine hK.out _ _ ⟨(blk_cell BK586.out 0).trans rfl, (blk_cell BK586.out 1).trans rfl⟩ (fun hHeld => ?_)
                      clear hK K
                      refine norm_ (a' := ?_) ?_ ?_
                      rotate_left
                      ·show Act.put _ (some 163) _ = _
                       simp only [Act.put, List.setIfInBounds_toArray, List.set_cons_zero, List.set_cons_succ, i64_w, i32_w]
                       rfl
                      refine pure_ (i := 5) (N := some 158) (v := ?_) (a' := ?_) #[true, true, true, true, true, true, false, false, true, false, false] rfl rfl (any_of HT_.out (by kernel_rfl)) (fun _ _ _ h => h) (Or.inl ⟨by rfl, ?_⟩) ?_ ?_
                      rotate_left
                      ·intro w'
                       go_simp
                       with_reducible rfl
                      rotate_left
                      ·simp only [Act.put, List.setIfInBounds_toArray, List.set_cons_zero, List.set_cons_succ, i64_w, i32_w]
                       rfl
                      refine pure_ (i := 6) (N := some 164) (v := ?_) (a' := ?_) #[true, true, true, true, true, true, true, false, true, false, false] rfl rfl (any_of HT_.out (by kernel_rfl)) (fun _ _ _ h => h) (Or.inl ⟨by rfl, ?_⟩) ?_ ?_
                      rotate_left
                      ·intro w'
                       go_simp
                       with_reducible rfl
                      rotate_left
                      ·simp only [Act.put, List.setIfInBounds_toArray, List.set_cons_zero, List.set_cons_succ, i64_w, i32_w]
                       rfl
                      refine pure_ (i := 7) (N := some 165) (v := ?_) (a' := ?_) #[true, true, true, true, true, true, true, true, true, false, false] rfl rfl (any_of HT_.out (by kernel_rfl)) (fun _ _ _ h => h) (Or.inl ⟨by rfl, ?_⟩) ?_ ?_
                      rotate_left
                      ·intro w'
                       go_simp
                       with_reducible rfl
                      rotate_left
                      ·simp only [Act.put, List.setIfInBounds_toArray, List.set_cons_zero, List.set_cons_succ, i64_w, i32_w]
                       rfl
                      exact norm_ (by simp only [putAll, Act.put, List.setIfInBounds_toArray, List.set_cons_zero, List.set_cons_succ]) (hCont (gb610) _ ⟨hHeld, (by (with_reducible repeat (first | apply Kd.R_alloc | apply Kd.R_drewN | apply Kd.R_drew)); exact Kd.R_mono HO_6.out (fun _ hk => ⟨hk.1.1, ⟨hk.1.2.1, ⟨hk.1.2.2.1, ⟨hk.1.2.2.2.1, ⟨hk.1.2.2.2.2.1, ⟨hk.1.2.2.2.2.2, hk.2⟩⟩⟩⟩⟩⟩)), (by (with_reducible repeat (first | refine blk_drewN ?_ _ | refine blk_drew ?_ | refine blk_alloc ?_ _)); exact BK570.out), (by (with_reducible repeat (first | refine blk_drewN ?_ _ | refine blk_drew ?_ | refine blk_alloc ?_ _)); exact BK574.out), (by (with_reducible repeat (first | refine blk_drewN ?_ _ | refine blk_drew ?_ | refine blk_alloc ?_ _)); exact BK578.out), (by (with_reducible repeat (first | refine blk_drewN ?_ _ | refine blk_drew ?_ | refine blk_alloc ?_ _)); exact BK586.out), (by (with_reducible repeat (first | refine blk_drewN ?_ _ | refine blk_drew ?_ | refine blk_alloc ?_ _)); exact BK590.out), (by (with_reducible repeat (first | refine blk_drewN ?_ _ | refine blk_drew ?_ | refine blk_alloc ?_ _)); exact BK602.out), (by (with_reducible repeat (first | refine blk_drewN ?_ _ | refine blk_drew ?_ | refine blk_alloc ?_ _)); exact BK610.out), GW610.out, GE610.out, NB570_610.out, NB610_570.out, NB574_610.out, NB610_574.out, NB578_610.out, NB610_578.out, NB586_610.out, NB610_586.out, NB590_610.out, NB610_590.out, NB602_610.out, NB610_602.out, (by repeat (first | (with_reducible first | exact HB.out | apply below_alloc | apply pw_below_drewN | apply below_drew1 | refine below_set ?_ GE570.out | refine below_set ?_ GE574.out | refine below_set ?_ GE578.out | refine below_set ?_ GE586.out | refine below_set ?_ GE590.out | refine below_set ?_ GE602.out | refine below_set ?_ GE610.out) | exact HB.out))⟩)
                    rintro gb610 w180 ⟨hS_, h0_, h1_, h2_, h3_, h4_, h5_, h6_, h7_, h8_, h9_, h10_, h11_, h12_, h13_, h14_, h15_, h16_, h17_, h18_, h19_, h20_, h21_, h22_⟩
                    have n0_ : Aside0 (Kd.R k30 30 w180 w.heap.size (fun k_ => k_ ≠ gb570 ∧ k_ ≠ gb574 ∧ k_ ≠ gb578 ∧ k_ ≠ gb586 ∧ k_ ≠ gb590 ∧ k_ ≠ gb602 ∧ k_ ≠ gb610) (.slice Ao13 t567.length co13) t567) := ⟨h0_⟩
                    have n1_ : Aside0 (w180.heap[gb570]? = some (.cells #[.int .i64 t565, .int .i64 t566] 30 (0, 0))) := ⟨h1_⟩
                    have n2_ : Aside0 (w180.heap[gb574]? = some (.cells #[.int .i64 t571, .int .i64 t572] 30 (0, 0))) := ⟨h2_⟩
                    have n3_ : Aside0 (w180.heap[gb578]? = some (.cells #[.int .i64 t575, .int .i64 t576] 30 (0, 0))) := ⟨h3_⟩
                    have n4_ : Aside0 (w180.heap[gb586]? = some (.cells #[.int .i64 t583, .int .i64 t584] 30 (0, 0))) := ⟨h4_⟩
                    have n5_ : Aside0 (w180.heap[gb590]? = some (.cells #[.int .i64 t587, .int .i64 t588] 30 (0, 0))) := ⟨h5_⟩
                    have n6_ : Aside0 (w180.heap[gb602]? = some (.cells #[.int .i64 t599, .int .i64 t600] 30 (0, 0))) := ⟨h6_⟩
                    have n7_ : Aside0 (w180.heap[gb610]? = some (.cells #[.int .i64 0, .int .i64 0] 30 (0, 0))) := ⟨h7_⟩
                    have n8_ : Aside0 (w.heap.size ≤ gb610) := ⟨h8_⟩
                    have n9_ : Aside0 (w.heap.size ≤ gb610) := ⟨h9_⟩
                    have n10_ : Aside0 (gb570 ≠ gb610) := ⟨h10_⟩
                    have n11_ : Aside0 (gb610 ≠ gb570) := ⟨h11_⟩
                    have n12_ : Aside0 (gb574 ≠ gb610) := ⟨h12_⟩
                    have n13_ : Aside0 (gb610 ≠ gb574) := ⟨h13_⟩
                    have n14_ : Aside0 (gb578 ≠ gb610) := ⟨h14_⟩
                    have n15_ : Aside0 (gb610 ≠ gb578) := ⟨h15_⟩
                    have n16_ : Aside0 (gb586 ≠ gb610) := ⟨h16_⟩
                    have n17_ : Aside0 (gb610 ≠ gb586) := ⟨h17_⟩
                    have n18_ : Aside0 (gb590 ≠ gb610) := ⟨h18_⟩
                    have n19_ : Aside0 (gb610 ≠ gb590) := ⟨h19_⟩
                    have n20_ : Aside0 (gb602 ≠ gb610) := ⟨h20_⟩
                    have n21_ : Aside0 (gb610 ≠ gb602) := ⟨h21_⟩
                    have n22_ : Aside0 (Below w.heap.size w w180) := ⟨h22_⟩
                    clear HO_6
                    clear BK570
                    clear BK574
                    clear BK578
                    clear BK586
                    clear BK590
                    clear BK602
                    clear HB
                    clear h0_ h1_ h2_ h3_ h4_ h5_ h6_ h7_ h8_ h9_ h10_ h11_ h12_ h13_ h14_ h15_ h16_ h17_ h18_ h19_ h20_ h21_ h22_
                    have HO_6 := n0_
                    have BK570 := n1_
                    have BK574 := n2_
                    have BK578 := n3_
                    have BK586 := n4_
                    have BK590 := n5_
                    have BK602 := n6_
                    have BK610 := n7_
                    have GW610 := n8_
                    have GE610 := n9_
                    have NB570_610 := n10_
                    have NB610_570 := n11_
                    have NB574_610 := n12_
                    have NB610_574 := n13_
                    have NB578_610 := n14_
                    have NB610_578 := n15_
                    have NB586_610 := n16_
                    have NB610_586 := n17_
                    have NB590_610 := n18_
                    have NB610_590 := n19_
                    have NB602_610 := n20_
                    have NB610_602 := n21_
                    have HB := n22_
                    clear n0_ n1_ n2_ n3_ n4_ n5_ n6_ n7_ n8_ n9_ n10_ n11_ n12_ n13_ n14_ n15_ n16_ n17_ n18_ n19_ n20_ n21_ n22_
                    have hHeld : w180.cell? ⟨gb586, 0, none⟩ = some (.int .i64 t583) ∧ w180.cell? ⟨gb586, 1, none⟩ = some (.int .i64 t584) := hS_
                    refine norm_ (a' := ?_) ?_ ?_
                    rotate_left
                    ·simp only [putAll, Act.put, List.setIfInBounds_toArray, List.set_cons_zero, List.set_cons_succ]
                     rfl
                    refine one_ (i := 9) (N := none) #[true, true, true, true, true, true, true, true, true, true, false] rfl rfl (one_of HT_.out (by kernel_rfl)) (by decide) (fun K hK => ?_)
                    have hs181 : w180.cell? ⟨gb610, 0, none⟩ = some (.int .i64 0) := (blk_cell BK610.out 0).trans rfl
                    have hfs181 := blk_frozen BK610.out 0
                    have hns181_0 := NB570_610.out
                    have hns181_1 := NB574_610.out
                    have hns181_2 := NB578_610.out
                    have hns181_3 := NB586_610.out
                    have hns181_4 := NB590_610.out
                    have hns181_5 := NB602_610.out
                    have hms181_0 := NB610_570.out
                    have hms181_1 := NB610_574.out
                    have hms181_2 := NB610_578.out
                    have hms181_3 := NB610_586.out
                    have hms181_4 := NB610_590.out
                    have hms181_5 := NB610_602.out
                    have hs182 : w180.cell? ⟨gb610, 1, none⟩ = some (.int .i64 0) := (blk_cell BK610.out 1).trans rfl
                    have hfs182 := blk_frozen BK610.out 1
                    have hns182_0 := NB570_610.out
                    have hns182_1 := NB574_610.out
                    have hns182_2 := NB578_610.out
                    have hns182_3 := NB586_610.out
                    have hns182_4 := NB590_610.out
                    have hns182_5 := NB602_610.out
                    have hms182_0 := NB610_570.out
                    have hms182_1 := NB610_574.out
                    have hms182_2 := NB610_578.out
                    have hms182_3 := NB610_586.out
                    have hms182_4 := NB610_590.out
                    have hms182_5 := NB610_602.out
                    refine skip_ (w1 := ?_) (by rfl) rfl ?_ ?_
                    rotate_left
                    ·go_simp
                     rfl
                    refine hK.out _ _ ⟨((cell_far (p := ⟨gb610, _, none⟩) NB586_610.out _).trans (((cell_far (p := ⟨gb610, _, none⟩) NB586_610.out _).trans (hHeld.1)))), ((cell_far (p := ⟨gb610, _, none⟩) NB586_610.out _).trans (((cell_far (p := ⟨gb610, _, none⟩) NB586_610.out _).trans (hHeld.2))))⟩ (fun hHeld => ?_)
                    clear hK K
                    refine pure_ (i := 10) (N := some 21) (v := ?_) (a' := ?_) #[true, true, true, true, true, true, true, true, true, true, true] rfl rfl (any_of HT_.out (by kernel_rfl)) (fun _ _ _ h => h) (Or.inl ⟨by rfl, ?_⟩) ?_ ?_
                    rotate_left
                    ·intro w'
                     go_simp
                     with_reducible rfl
                    rotate_left
                    ·simp only [Act.put, List.setIfInBounds_toArray, List.set_cons_zero, List.set_cons_succ, i64_w, i32_w]
                     rfl
                    refine done_ (done_of HT_.out (by kernel_rfl)) ?_
                    try go_wp2
                    go_ret
                    exact ⟨by first | rfl | (simp [errW_none, errW_some] <;> rfl) | (simp only [← hji44]; first | rfl | (simp [errW_none, errW_some] <;> rfl)) | (simp [*, errW_none, errW_some] <;> rfl), by repeat (first | (with_reducible first | exact HB.out | apply below_alloc | apply pw_below_drewN | apply below_drew1 | refine below_set ?_ GE570.out | refine below_set ?_ GE574.out | refine below_set ?_ GE578.out | refine below_set ?_ GE586.out | refine below_set ?_ GE590.out | refine below_set ?_ GE602.out | refine below_set ?_ GE610.out) | exact HB.out)⟩
                  ·rw [if_neg c153] at H
                   exact absurd H (by simp)
                 ·rw [if_neg c152] at H
                  exact absurd H (by simp)
         ·rw [if_neg c46] at H
          exact absurd H (by simp)
        ·rw [if_neg c45] at H
         exact absurd H (by simp)

/-- THE ONE PURE STATEMENT of laws_FnTravel: yours. -/
def laws_FnTravel.Pure : Prop := ∀ (l0 : List Int) (l1 : List Int), l0.length ≤ maxLen → l0.length * 1 ≤ 140737488351232 → (∀ x ∈ l0, (Lit.int .u8 x).wf = true) → l1.length ≤ maxLen → l1.length * 1 ≤ 140737488351232 → (∀ x ∈ l1, (Lit.int .u8 x).wf = true) → ∃ k, laws_FnTravel.f k l0 l1 = some true
theorem laws_FnTravel.walk (P : laws_FnTravel.Pure) (a0 : Option Addr) (len0 cap0 : Nat) (z0 : List Int) (a1 : Option Addr) (len1 cap1 : Nat) (z1 : List Int) (w : World) (w0 : (a0 = none ∧ len0 = 0 ∧ cap0 = 0 ∧ z0 = []) ∨ ∃ x, a0 = some x ∧ len0 ≤ cap0 ∧ cap0 ≤ maxLen ∧ z0.length = cap0 ∧ (∀ i, i < z0.length → w.cell? (x.add i) = some (.int .u8 (z0.getD i 0))) ∧ ∀ n ∈ z0, (Lit.int .u8 n).wf = true) (y0 : len0 * 1 ≤ 140737488351232) (w1 : (a1 = none ∧ len1 = 0 ∧ cap1 = 0 ∧ z1 = []) ∨ ∃ x, a1 = some x ∧ len1 ≤ cap1 ∧ cap1 ≤ maxLen ∧ z1.length = cap1 ∧ (∀ i, i < z1.length → w.cell? (x.add i) = some (.int .u8 (z1.getD i 0))) ∧ ∀ n ∈ z1, (Lit.int .u8 n).wf = true) (y1 : len1 * 1 ≤ 140737488351232) :
  Calls Try.prog 11 #[.slice a0 len0 cap0, .slice a1 len1 cap1] w fun e w' => e = .returned (.bool true) ∧ Below w.heap.size w w' := by
 obtain ⟨l0, rfl, hr0, hm0, hw0, hc0⟩ := ReadsInt.ofRowC w0
 obtain ⟨l1, rfl, hr1, hm1, hw1, hc1⟩ := ReadsInt.ofRowC w1
 obtain ⟨k, h⟩ := P l0 l1 hm0 y0 hw0 hm1 y1 hw1
 refine (laws_FnTravel.calls k _ _ l0 _ _ l1 true w (Kd.C_of_reads (d := (0 : Int)) (h1 := fun _ => rfl) hr0) hc0 (Kd.C_of_reads (d := (0 : Int)) (h1 := fun _ => rfl) hr1) hc1 h).mono ?_
 rintro e w' ⟨rfl, hd⟩
 exact ⟨rfl, hd⟩

end Go.Proofs.Ytkafhhiplimniaa.P

-- Written by a program of this session (wip/xprint.py over the print's own program), not by print.sh. Lean checks it.
import Derived.Test.YtkhemhmdapggmaaPx0
import Derived.Test.YtkhemhmdapggmaaPx18
import Derived.Test.YtkhemhmdapggmaaPx26
import Derived.Test.YtkhemhmdapggmaaPx27
import Derived.Test.YtkhemhmdapggmaaPx37
namespace Go.Proofs.Ytkhemhmdapggmaa.P
open Go.RowKit Go.Proofs.YtkhemhmdapggmaaW.PrintWords Go.Proofs.YtkhemhmdapggmaaW.PrintLast Go.Proofs.YtkhemhmdapggmaaW.PrintMore
attribute [local go_sem] max2_int min2_int max_two min_two max_three min_three max_four min_four   -- for this text's walks alone
set_option linter.unusedVariables false
set_option linter.unusedSimpArgs false

/-! ### laws_FnContours: function 13 -/
mutual
def laws_FnContours.j0 : Nat → List (List Int) → Int → Int → Int → Bool → Option (Bool)
  | 0, _, _, _, _, _ => none
  | k + 1, x3, x4, x5, x6, x33 => if x33 = true then (some (x5 == x6)) else (if 0 < (x3.length : Int) then (laws_FnContours.l0 k x3 x4 x5 (x3.length : Int) ((rd_L1 x3 0).length : Int) 0 0) else (none))
def laws_FnContours.l0 : Nat → List (List Int) → Int → Int → Int → Int → Int → Int → Option (Bool)
  | 0, _, _, _, _, _, _, _ => none
  | k + 1, x3, x4, x5, x7, x8, x9, x10 => if x10 < x7 then (laws_FnContours.l1 k x3 x4 x5 x7 x8 x9 x10 0) else ((impl_GridCuts.f k x3 x4).bind fun t472 => (if (wrap64 (2 * x5)) = (wrap64 ((wrap64 (2 * t472)) - x9)) then (some ((Int.tmod x9 2) == 0)) else (some false)))
def laws_FnContours.l1 : Nat → List (List Int) → Int → Int → Int → Int → Int → Int → Int → Option (Bool)
  | 0, _, _, _, _, _, _, _, _ => none
  | k + 1, x3, x4, x5, x7, x8, x9, x10, x11 => if x11 < x8 then (if 0 ≤ x10 then (if x10 < (x3.length : Int) then (if 0 ≤ x11 then (if x11 < ((rd_L1 x3 x10).length : Int) then (if (wrap64 (x11 + 1)) < x8 then (if x10 = 0 then (if 0 ≤ (wrap64 (x11 + 1)) then (if (wrap64 (x11 + 1)) < ((rd_L1 x3 x10).length : Int) then (laws_FnContours.j3 k x3 x4 x5 x7 x8 x9 x10 x11 (decide ((rd (rd_L1 x3 x10) x11) ≥ x4)) ((decide ((rd (rd_L1 x3 x10) x11) ≥ x4)) != (decide ((rd (rd_L1 x3 x10) (wrap64 (x11 + 1))) ≥ x4)))) else (none)) else (none)) else (if x10 = (wrap64 (x7 - 1)) then (if 0 ≤ (wrap64 (x11 + 1)) then (if (wrap64 (x11 + 1)) < ((rd_L1 x3 x10).length : Int) then (laws_FnContours.j3 k x3 x4 x5 x7 x8 x9 x10 x11 (decide ((rd (rd_L1 x3 x10) x11) ≥ x4)) ((decide ((rd (rd_L1 x3 x10) x11) ≥ x4)) != (decide ((rd (rd_L1 x3 x10) (wrap64 (x11 + 1))) ≥ x4)))) else (none)) else (none)) else (laws_FnContours.j3 k x3 x4 x5 x7 x8 x9 x10 x11 (decide ((rd (rd_L1 x3 x10) x11) ≥ x4)) false))) else (laws_FnContours.j3 k x3 x4 x5 x7 x8 x9 x10 x11 (decide ((rd (rd_L1 x3 x10) x11) ≥ x4)) false)) else (none)) else (none)) else (none)) else (none)) else (laws_FnContours.l0 k x3 x4 x5 x7 x8 x9 (wrap64 (x10 + 1)))
def laws_FnContours.j3 : Nat → List (List Int) → Int → Int → Int → Int → Int → Int → Int → Bool → Bool → Option (Bool)
  | 0, _, _, _, _, _, _, _, _, _, _ => none
  | k + 1, x3, x4, x5, x7, x8, x9, x10, x11, x12, x89 => if x89 = true then (if (wrap64 (x10 + 1)) < x7 then (if x11 = 0 then (if 0 ≤ (wrap64 (x10 + 1)) then (if (wrap64 (x10 + 1)) < (x3.length : Int) then (if 0 ≤ x11 then (if x11 < ((rd_L1 x3 (wrap64 (x10 + 1))).length : Int) then (if (x12 != (decide ((rd (rd_L1 x3 (wrap64 (x10 + 1))) x11) ≥ x4))) = true then (laws_FnContours.l1 k x3 x4 x5 x7 x8 (wrap64 ((wrap64 (x9 + 1)) + 1)) x10 (wrap64 (x11 + 1))) else (laws_FnContours.l1 k x3 x4 x5 x7 x8 (wrap64 (x9 + 1)) x10 (wrap64 (x11 + 1)))) else (none)) else (none)) else (none)) else (none)) else (if x11 = (wrap64 (x8 - 1)) then (if 0 ≤ (wrap64 (x10 + 1)) then (if (wrap64 (x10 + 1)) < (x3.length : Int) then (if 0 ≤ x11 then (if x11 < ((rd_L1 x3 (wrap64 (x10 + 1))).length : Int) then (if (x12 != (decide ((rd (rd_L1 x3 (wrap64 (x10 + 1))) x11) ≥ x4))) = true then (laws_FnContours.l1 k x3 x4 x5 x7 x8 (wrap64 ((wrap64 (x9 + 1)) + 1)) x10 (wrap64 (x11 + 1))) else (laws_FnContours.l1 k x3 x4 x5 x7 x8 (wrap64 (x9 + 1)) x10 (wrap64 (x11 + 1)))) else (none)) else (none)) else (none)) else (none)) else (laws_FnContours.l1 k x3 x4 x5 x7 x8 (wrap64 (x9 + 1)) x10 (wrap64 (x11 + 1))))) else (laws_FnContours.l1 k x3 x4 x5 x7 x8 (wrap64 (x9 + 1)) x10 (wrap64 (x11 + 1)))) else (if (wrap64 (x10 + 1)) < x7 then (if x11 = 0 then (if 0 ≤ (wrap64 (x10 + 1)) then (if (wrap64 (x10 + 1)) < (x3.length : Int) then (if 0 ≤ x11 then (if x11 < ((rd_L1 x3 (wrap64 (x10 + 1))).length : Int) then (if (x12 != (decide ((rd (rd_L1 x3 (wrap64 (x10 + 1))) x11) ≥ x4))) = true then (laws_FnContours.l1 k x3 x4 x5 x7 x8 (wrap64 (x9 + 1)) x10 (wrap64 (x11 + 1))) else (laws_FnContours.l1 k x3 x4 x5 x7 x8 x9 x10 (wrap64 (x11 + 1)))) else (none)) else (none)) else (none)) else (none)) else (if x11 = (wrap64 (x8 - 1)) then (if 0 ≤ (wrap64 (x10 + 1)) then (if (wrap64 (x10 + 1)) < (x3.length : Int) then (if 0 ≤ x11 then (if x11 < ((rd_L1 x3 (wrap64 (x10 + 1))).length : Int) then (if (x12 != (decide ((rd (rd_L1 x3 (wrap64 (x10 + 1))) x11) ≥ x4))) = true then (laws_FnContours.l1 k x3 x4 x5 x7 x8 (wrap64 (x9 + 1)) x10 (wrap64 (x11 + 1))) else (laws_FnContours.l1 k x3 x4 x5 x7 x8 x9 x10 (wrap64 (x11 + 1)))) else (none)) else (none)) else (none)) else (none)) else (laws_FnContours.l1 k x3 x4 x5 x7 x8 x9 x10 (wrap64 (x11 + 1))))) else (laws_FnContours.l1 k x3 x4 x5 x7 x8 x9 x10 (wrap64 (x11 + 1))))
end
def laws_FnContours.f (k : Nat) (l0 : List Int) : Option (Bool) := if (l0.length : Int) > 1048576 then (some true) else ((spec_DrawGridLines.f k l0).bind fun bt465 => ((impl_GridLines.f k bt465.1 bt465.2).bind fun t469 => ((spec_GridLines.f k bt465.1 bt465.2).bind fun t470 => (if t469 = t470 then (laws_FnContours.j0 k bt465.1 bt465.2 t469 t470 (decide (t469 < 0))) else (laws_FnContours.j0 k bt465.1 bt465.2 t469 t470 true)))))
theorem laws_FnContours.mono_l : ∀ k, (∀ y0 y1 y2 y3 y4, LeO (laws_FnContours.j0 k y0 y1 y2 y3 y4) (laws_FnContours.j0 (k + 1) y0 y1 y2 y3 y4)) ∧ (∀ y0 y1 y2 y3 y4 y5 y6, LeO (laws_FnContours.l0 k y0 y1 y2 y3 y4 y5 y6) (laws_FnContours.l0 (k + 1) y0 y1 y2 y3 y4 y5 y6)) ∧ (∀ y0 y1 y2 y3 y4 y5 y6 y7, LeO (laws_FnContours.l1 k y0 y1 y2 y3 y4 y5 y6 y7) (laws_FnContours.l1 (k + 1) y0 y1 y2 y3 y4 y5 y6 y7)) ∧ (∀ y0 y1 y2 y3 y4 y5 y6 y7 y8 y9, LeO (laws_FnContours.j3 k y0 y1 y2 y3 y4 y5 y6 y7 y8 y9) (laws_FnContours.j3 (k + 1) y0 y1 y2 y3 y4 y5 y6 y7 y8 y9))
  | 0 => ⟨fun _ _ _ _ _ r h => by simp [laws_FnContours.j0] at h, fun _ _ _ _ _ _ _ r h => by simp [laws_FnContours.l0] at h, fun _ _ _ _ _ _ _ _ r h => by simp [laws_FnContours.l1] at h, fun _ _ _ _ _ _ _ _ _ _ r h => by simp [laws_FnContours.j3] at h⟩
  | k + 1 => by
    obtain ⟨ih0, ih1, ih2, ih3⟩ := laws_FnContours.mono_l k
    refine ⟨?_, ?_, ?_, ?_⟩
    · intro y0 y1 y2 y3 y4
      unfold laws_FnContours.j0
      repeat' first
      | (with_reducible exact ih0 _ _ _ _ _)
      | (with_reducible exact ih1 _ _ _ _ _ _ _)
      | (with_reducible exact ih2 _ _ _ _ _ _ _ _)
      | (with_reducible exact ih3 _ _ _ _ _ _ _ _ _ _)
      | (with_reducible exact impl_GridCuts.mono _ _ _)
      | (with_reducible exact impl_GridLines.mono _ _ _)
      | (with_reducible exact spec_DrawGridLines.mono _ _)
      | (with_reducible exact spec_GridLines.mono _ _ _)
      | (with_reducible exact LeO.refl _)
      | (with_reducible exact LeO.none _)
      | (with_reducible refine LeO.ite ?_ ?_)
      | (with_reducible refine LeO.bind ?_ (fun _ => ?_))
      | exact ih0 _ _ _ _ _
      | exact ih1 _ _ _ _ _ _ _
      | exact ih2 _ _ _ _ _ _ _ _
      | exact ih3 _ _ _ _ _ _ _ _ _ _
      | exact impl_GridCuts.mono _ _ _
      | exact impl_GridLines.mono _ _ _
      | exact spec_DrawGridLines.mono _ _
      | exact spec_GridLines.mono _ _ _
      | exact LeO.none _
      | refine LeO.ite ?_ ?_
      | refine LeO.bind ?_ (fun _ => ?_)
    · intro y0 y1 y2 y3 y4 y5 y6
      unfold laws_FnContours.l0
      repeat' first
      | (with_reducible exact ih0 _ _ _ _ _)
      | (with_reducible exact ih1 _ _ _ _ _ _ _)
      | (with_reducible exact ih2 _ _ _ _ _ _ _ _)
      | (with_reducible exact ih3 _ _ _ _ _ _ _ _ _ _)
      | (with_reducible exact impl_GridCuts.mono _ _ _)
      | (with_reducible exact impl_GridLines.mono _ _ _)
      | (with_reducible exact spec_DrawGridLines.mono _ _)
      | (with_reducible exact spec_GridLines.mono _ _ _)
      | (with_reducible exact LeO.refl _)
      | (with_reducible exact LeO.none _)
      | (with_reducible refine LeO.ite ?_ ?_)
      | (with_reducible refine LeO.bind ?_ (fun _ => ?_))
      | exact ih0 _ _ _ _ _
      | exact ih1 _ _ _ _ _ _ _
      | exact ih2 _ _ _ _ _ _ _ _
      | exact ih3 _ _ _ _ _ _ _ _ _ _
      | exact impl_GridCuts.mono _ _ _
      | exact impl_GridLines.mono _ _ _
      | exact spec_DrawGridLines.mono _ _
      | exact spec_GridLines.mono _ _ _
      | exact LeO.none _
      | refine LeO.ite ?_ ?_
      | refine LeO.bind ?_ (fun _ => ?_)
    · intro y0 y1 y2 y3 y4 y5 y6 y7
      unfold laws_FnContours.l1
      repeat' first
      | (with_reducible exact ih0 _ _ _ _ _)
      | (with_reducible exact ih1 _ _ _ _ _ _ _)
      | (with_reducible exact ih2 _ _ _ _ _ _ _ _)
      | (with_reducible exact ih3 _ _ _ _ _ _ _ _ _ _)
      | (with_reducible exact impl_GridCuts.mono _ _ _)
      | (with_reducible exact impl_GridLines.mono _ _ _)
      | (with_reducible exact spec_DrawGridLines.mono _ _)
      | (with_reducible exact spec_GridLines.mono _ _ _)
      | (with_reducible exact LeO.refl _)
      | (with_reducible exact LeO.none _)
      | (with_reducible refine LeO.ite ?_ ?_)
      | (with_reducible refine LeO.bind ?_ (fun _ => ?_))
      | exact ih0 _ _ _ _ _
      | exact ih1 _ _ _ _ _ _ _
      | exact ih2 _ _ _ _ _ _ _ _
      | exact ih3 _ _ _ _ _ _ _ _ _ _
      | exact impl_GridCuts.mono _ _ _
      | exact impl_GridLines.mono _ _ _
      | exact spec_DrawGridLines.mono _ _
      | exact spec_GridLines.mono _ _ _
      | exact LeO.none _
      | refine LeO.ite ?_ ?_
      | refine LeO.bind ?_ (fun _ => ?_)
    · intro y0 y1 y2 y3 y4 y5 y6 y7 y8 y9
      unfold laws_FnContours.j3
      repeat' first
      | (with_reducible exact ih0 _ _ _ _ _)
      | (with_reducible exact ih1 _ _ _ _ _ _ _)
      | (with_reducible exact ih2 _ _ _ _ _ _ _ _)
      | (with_reducible exact ih3 _ _ _ _ _ _ _ _ _ _)
      | (with_reducible exact impl_GridCuts.mono _ _ _)
      | (with_reducible exact impl_GridLines.mono _ _ _)
      | (with_reducible exact spec_DrawGridLines.mono _ _)
      | (with_reducible exact spec_GridLines.mono _ _ _)
      | (with_reducible exact LeO.refl _)
      | (with_reducible exact LeO.none _)
      | (with_reducible refine LeO.ite ?_ ?_)
      | (with_reducible refine LeO.bind ?_ (fun _ => ?_))
      | exact ih0 _ _ _ _ _
      | exact ih1 _ _ _ _ _ _ _
      | exact ih2 _ _ _ _ _ _ _ _
      | exact ih3 _ _ _ _ _ _ _ _ _ _
      | exact impl_GridCuts.mono _ _ _
      | exact impl_GridLines.mono _ _ _
      | exact spec_DrawGridLines.mono _ _
      | exact spec_GridLines.mono _ _ _
      | exact LeO.none _
      | refine LeO.ite ?_ ?_
      | refine LeO.bind ?_ (fun _ => ?_)
theorem laws_FnContours.mono : ∀ a0 k, LeO (laws_FnContours.f k a0) (laws_FnContours.f (k + 1) a0) := by
  intro a0 k
  obtain ⟨ih0, ih1, ih2, ih3⟩ := laws_FnContours.mono_l k
  unfold laws_FnContours.f
  repeat' first
      | (with_reducible exact ih0 _ _ _ _ _)
      | (with_reducible exact ih1 _ _ _ _ _ _ _)
      | (with_reducible exact ih2 _ _ _ _ _ _ _ _)
      | (with_reducible exact ih3 _ _ _ _ _ _ _ _ _ _)
      | (with_reducible exact impl_GridCuts.mono _ _ _)
      | (with_reducible exact impl_GridLines.mono _ _ _)
      | (with_reducible exact spec_DrawGridLines.mono _ _)
      | (with_reducible exact spec_GridLines.mono _ _ _)
      | (with_reducible exact LeO.refl _)
      | (with_reducible exact LeO.none _)
      | (with_reducible refine LeO.ite ?_ ?_)
      | (with_reducible refine LeO.bind ?_ (fun _ => ?_))
      | exact ih0 _ _ _ _ _
      | exact ih1 _ _ _ _ _ _ _
      | exact ih2 _ _ _ _ _ _ _ _
      | exact ih3 _ _ _ _ _ _ _ _ _ _
      | exact impl_GridCuts.mono _ _ _
      | exact impl_GridLines.mono _ _ _
      | exact spec_DrawGridLines.mono _ _
      | exact spec_GridLines.mono _ _ _
      | exact LeO.none _
      | refine LeO.ite ?_ ?_
      | refine LeO.bind ?_ (fun _ => ?_)
set_option maxHeartbeats 8000000 in
set_option maxRecDepth 100000 in
theorem laws_FnContours.calls (k : Nat) (A0 : Option Addr) (c0 : Nat) (l0 : List Int) (r : Bool) (w : World) (hr0 : Kd.C (Kd.int .u8) w A0 l0.length l0) (hc0 : l0.length ≤ c0) (h : laws_FnContours.f k l0 = some r) :
    Calls Try.prog 13 #[.slice A0 l0.length c0] w fun e w' => e = .returned (.bool r) ∧ Below w.heap.size w w' := by
  have HR0 := Aside0.mk hr0
  have HC0 := Aside0.mk hc0
  clear hr0 hc0
  have HB := Aside0.mk (Below.refl w.heap.size w)
  have H : (if (l0.length : Int) > 1048576 then (some true) else ((spec_DrawGridLines.f k l0).bind fun bt465 => ((impl_GridLines.f k bt465.1 bt465.2).bind fun t469 => ((spec_GridLines.f k bt465.1 bt465.2).bind fun t470 => (if t469 = t470 then (laws_FnContours.j0 k bt465.1 bt465.2 t469 t470 (decide (t469 < 0))) else (laws_FnContours.j0 k bt465.1 bt465.2 t469 t470 true)))))) = some r := h
  clear h
  by_cases c2 : (l0.length : Int) > 1048576
  · rw [if_pos c2] at H
    have c2b0 : decide (1048576 < (l0.length : Int)) = true := decide_eq_true c2
    have c2b1 : decide (1048576 < l0.length) = true := decide_eq_true (by omega)
    clear c2
    obtain rfl := Option.some.inj H
    go_enter Try.func13, Try.ntmps13
    go_wp2
    go_ret
    exact ⟨by first | rfl | (simp [errW_none, errW_some] <;> rfl) | (simp [*, errW_none, errW_some] <;> rfl), by repeat (first | (with_reducible first | exact HB.out | apply below_alloc | apply pw_below_drewN | apply below_drew1) | exact HB.out)⟩
  · rw [if_neg c2] at H
    have c2b0 : decide (1048576 < (l0.length : Int)) = false := decide_eq_false c2
    have c2b1 : decide (1048576 < l0.length) = false := decide_eq_false (by omega)
    clear c2
    replace H := Option.bind_eq_some_iff.mp H
    obtain ⟨⟨t465, t466⟩, A30, H⟩ := H
    replace H : ((impl_GridLines.f k t465 t466).bind fun t469 => ((spec_GridLines.f k t465 t466).bind fun t470 => (if t469 = t470 then (laws_FnContours.j0 k t465 t466 t469 t470 (decide (t469 < 0))) else (laws_FnContours.j0 k t465 t466 t469 t470 true)))) = some r := H
    have A3 := Aside0.mk A30
    clear A30
    replace H := Option.bind_eq_some_iff.mp H
    obtain ⟨t469, A40, H⟩ := H
    replace H : ((spec_GridLines.f k t465 t466).bind fun t470 => (if t469 = t470 then (laws_FnContours.j0 k t465 t466 t469 t470 (decide (t469 < 0))) else (laws_FnContours.j0 k t465 t466 t469 t470 true))) = some r := H
    have A4 := Aside0.mk A40
    clear A40
    replace H := Option.bind_eq_some_iff.mp H
    obtain ⟨t470, A50, H⟩ := H
    replace H : (if t469 = t470 then (laws_FnContours.j0 k t465 t466 t469 t470 (decide (t469 < 0))) else (laws_FnContours.j0 k t465 t466 t469 t470 true)) = some r := H
    have A5 := Aside0.mk A50
    clear A50
    have HC6 := Aside0.mk H
    clear H
    go_enter Try.func13, Try.ntmps13
    go_upto_region 6 with (first | ((with_reducible refine gate_callee (f := 37) rfl ?_); refine goesL_ (some 18) rfl rfl Try.func37 (by kernel_rfl) rfl #[.slice A0 l0.length c0] rfl (by (try simp only [List.map_toArray, List.map_cons, List.map_nil]); first | done | rfl | (simp only [List.length_drop, List.length_take]; rfl)) ?_; (with_reducible refine (spec_DrawGridLines.calls k _ _ l0 t465 t466 _ ?side1 ?side2 A3.out).mono ?_); (case side1 => repeat (first | exact HR0.out | (with_reducible refine Kd.C_alloc ?_ _) | (with_reducible refine Kd.C_drewN ?_ _) | (with_reducible refine Kd.C_drew ?_))); (case side2 => exact HC0.out); rintro e w7 ⟨v467, rfl, ho0, hb⟩; refine ⟨_, rfl, ?_⟩; have n0_ := Aside0.mk (Kd.S_lower ho0 (below_size (by repeat (first | (with_reducible first | exact HB.out | apply below_alloc | apply pw_below_drewN | apply below_drew1) | exact HB.out)))); have n1_ := Aside0.mk (below_step (by repeat (first | (with_reducible first | exact HB.out | apply below_alloc | apply pw_below_drewN | apply below_drew1) | exact HB.out)) hb); clear HB; have HO468 := n0_; have HB := n1_; clear n0_ n1_; (try clear hb); (try clear hb2); (try clear hk); (try clear hi); (try clear ho0); obtain ⟨Ao8, co8, eo8⟩ := Kd.S_slice HO468.out; subst eo8) | ((with_reducible refine gate_callee (f := 33) rfl ?_); refine goesL_ (some 23) rfl rfl Try.func33 (by kernel_rfl) rfl #[.slice Ao8 t465.length co8, .int .i64 t466] rfl (by (try simp only [List.map_toArray, List.map_cons, List.map_nil]); first | done | rfl | (simp only [List.length_drop, List.length_take]; rfl)) ?_; (with_reducible refine (impl_GridLines.calls k _ _ t465 t466 t469 _ ?side1 ?side2 A4.out).mono ?_); (case side1 => repeat (first | exact (Kd.S_reads' HO468.out).2.2 | (with_reducible refine Kd.C_alloc ?_ _) | (with_reducible refine Kd.C_drewN ?_ _) | (with_reducible refine Kd.C_drew ?_))); (case side2 => exact (Kd.S_reads' HO468.out).2.1); rintro e w9 ⟨rfl, hb⟩; refine ⟨_, rfl, ?_⟩; have n0_ := Aside0.mk (Kd.S_below (by (with_reducible repeat (first | apply Kd.S_alloc | apply Kd.S_drewN | apply Kd.S_drew)); exact HO468.out) hb); have n1_ := Aside0.mk (below_step (by repeat (first | (with_reducible first | exact HB.out | apply below_alloc | apply pw_below_drewN | apply below_drew1) | exact HB.out)) hb); clear HO468; clear HB; have HO468 := n0_; have HB := n1_; clear n0_ n1_; (try clear hb); (try clear hb2); (try clear hk); (try clear hi)) | ((with_reducible refine gate_callee (f := 32) rfl ?_); refine goesL_ (some 26) rfl rfl Try.func32 (by kernel_rfl) rfl #[.slice Ao8 t465.length co8, .int .i64 t466] rfl (by (try simp only [List.map_toArray, List.map_cons, List.map_nil]); first | done | rfl | (simp only [List.length_drop, List.length_take]; rfl)) ?_; (with_reducible refine (spec_GridLines.calls k _ _ t465 t466 t470 _ ?side1 ?side2 A5.out).mono ?_); (case side1 => repeat (first | exact (Kd.S_reads' HO468.out).2.2 | (with_reducible refine Kd.C_alloc ?_ _) | (with_reducible refine Kd.C_drewN ?_ _) | (with_reducible refine Kd.C_drew ?_))); (case side2 => exact (Kd.S_reads' HO468.out).2.1); rintro e w10 ⟨rfl, hb⟩; refine ⟨_, rfl, ?_⟩; have n0_ := Aside0.mk (Kd.S_below (by (with_reducible repeat (first | apply Kd.S_alloc | apply Kd.S_drewN | apply Kd.S_drew)); exact HO468.out) hb); have n1_ := Aside0.mk (below_step (by repeat (first | (with_reducible first | exact HB.out | apply below_alloc | apply pw_below_drewN | apply below_drew1) | exact HB.out)) hb); clear HO468; clear HB; have HO468 := n0_; have HB := n1_; clear n0_ n1_; (try clear hb); (try clear hb2); (try clear hk); (try clear hi)))
    (try simp only [Act.put, List.setIfInBounds_toArray, List.set_cons_zero, List.set_cons_succ])
    go_cut [33] (fun v33 wc => ∃ (kq : Nat) (x33_5 : Bool), v33 = .bool x33_5 ∧ Aside0 (laws_FnContours.j0 kq t465 t466 t469 t470 x33_5 = some r) ∧ Aside0 (kq ≤ k) ∧ Aside0 (Kd.S (Kd.slice 3 (Kd.int .i64)) 35 wc w.heap.size (fun _ => True) (.slice Ao8 t465.length co8) t465) ∧ Aside0 (Below w.heap.size w wc))
    case first =>
      have H := HC6.out
      clear HC6
      by_cases c11 : t469 = t470
      · rw [if_pos c11] at H
        have c11b0 : (t469 == t470) = true := beq_iff_eq.mpr c11
        have c11b1 : (t469 != t470) = false := bne_eq_false_iff_eq.mpr c11
        clear c11
        (first | rw [c11b0] | (simp only [i64_w, i32_w]; rw [c11b0]) | skip)
        have H' := Aside0.mk H
        clear H
        go_wp2
        go_meet
        case rel => exact ⟨_, (decide (t469 < 0)), (by first | rfl | (simp; done) | (simp [*]; done)), H', ⟨by first | omega | exact Nat.le_refl _⟩, ⟨by (with_reducible repeat (first | apply Kd.S_alloc | apply Kd.S_drewN | apply Kd.S_drew)); exact HO468.out⟩, ⟨by repeat (first | (with_reducible first | exact HB.out | apply below_alloc | apply pw_below_drewN | apply below_drew1) | exact HB.out)⟩⟩
      · rw [if_neg c11] at H
        have c11b0 : (t469 == t470) = false := beq_eq_false_iff_ne.mpr c11
        have c11b1 : (t469 != t470) = true := bne_iff_ne.mpr c11
        (first | rw [c11b0] | (simp only [i64_w, i32_w]; rw [c11b0]) | skip)
        have H' := Aside0.mk H
        clear H
        go_wp2
        go_meet
        case rel => exact ⟨_, (true), (by first | rfl | (simp; done) | (simp [*]; done)), H', ⟨by first | omega | exact Nat.le_refl _⟩, ⟨by (with_reducible repeat (first | apply Kd.S_alloc | apply Kd.S_drewN | apply Kd.S_drew)); exact HO468.out⟩, ⟨by repeat (first | (with_reducible first | exact HB.out | apply below_alloc | apply pw_below_drewN | apply below_drew1) | exact HB.out)⟩⟩
    case rest =>
      clear HC6
      try clear c1
      try clear c2
      try clear c2b0
      try clear c2b1
      try clear p2
      try clear c3
      try clear c11
      try clear c11b0
      try clear c11b1
      obtain ⟨kq, x33_5, rfl, HA, HJ5, HO_3, HB⟩ := hcut
      cases kq with
      | zero => exact absurd HA.out (by simp [laws_FnContours.j0])
      | succ kj5 =>
        have H := HA.out
        clear HA
        simp only [laws_FnContours.j0] at H
        by_cases c12 : x33_5 = true
        · subst c12
          have H1 : (some (t469 == t470)) = some r := by rw [if_pos rfl] at H; exact H
          clear H
          have H := H1
          clear H1
          obtain rfl := Option.some.inj H
          go_wp2
          go_ret
          exact ⟨by first | rfl | (simp [errW_none, errW_some] <;> rfl) | (simp [*, errW_none, errW_some] <;> rfl), by repeat (first | (with_reducible first | exact HB.out | apply below_alloc | apply pw_below_drewN | apply below_drew1) | exact HB.out)⟩
        · replace c12 := Bool.eq_false_iff.mpr c12
          subst c12
          have H1 : (if 0 < (t465.length : Int) then (laws_FnContours.l0 kj5 t465 t466 t469 (t465.length : Int) ((rd_L1 t465 0).length : Int) 0 0) else (none)) = some r := by rw [if_neg (show ¬ (false = true) by decide)] at H; exact H
          clear H
          have H := H1
          clear H1
          by_cases c13 : 0 < (t465.length : Int)
          · rw [if_pos c13] at H
            have c13b0 : decide (0 < (t465.length : Int)) = true := decide_eq_true c13
            have c13b1 : decide (0 < t465.length) = true := decide_eq_true (by omega)
            clear c13
            have H' := Aside0.mk H
            clear H
            have p471 : 0 ≤ (0 : Int) := (by omega)
            have q471 : 0 < (t465.length : Int) := of_decide_eq_true (by first | (with_reducible assumption) | assumption)
            obtain ⟨ad471, A471_0, c471_0, e471, hx471_0, hl471_0, hi471_0⟩ := at_L1 (Kd.S_reads' HO_3.out).2.2 0 p471 q471
            cases e471
            obtain ⟨ce471, hce471, hMe471, hcc471⟩ := Kd.S_get HO_3.out [] 0 p471 (by first | exact q471 | exact of_decide_eq_true (by first | (with_reducible assumption) | assumption) | (have e_ := (Kd.S_reads' HO_3.out).1; omega))
            obtain ⟨ve471_0, rfl, ge471_0⟩ := hMe471
            have hv471_0 := hcc471 0 _ rfl
            rw [Nat.add_zero, show ((Kd.slice 3 (Kd.int .i64))).sz = 1 from rfl, Nat.mul_one] at hv471_0
            replace hv471_0 := Option.some.inj (hv471_0.symm.trans hx471_0)
            rw [hv471_0] at ge471_0
            have HL471_0 := Aside0.mk (show Kd.R (Kd.int .i64) 3 _ _ _ _ (rd_L1 t465 0) from ge471_0)
            clear hv471_0 ge471_0
            clear hcc471 hce471
            have qi471 : (0 < t465.length) = True := eq_true (by omega)
            (try rw [show ((0 : Int)).toNat = 0 from rfl] at hx471_0)
            (try rw [Addr.add_zero'] at hx471_0)
            have HR471_0 := Aside0.mk hi471_0
            have HC471_0 := Aside0.mk hl471_0
            clear hi471_0 hl471_0
            replace p471 := eq_true p471
            replace q471 := eq_true q471
            go_wp2
            go_loopg [9, 10] kj5 (fun kq v9 v10 w' => ∃ (x9_2 : Int) (x10_2 : Int), v9 = .int .i64 x9_2 ∧ v10 = .int .i64 x10_2 ∧ Aside0 (laws_FnContours.l0 kq t465 t466 t469 (t465.length : Int) ((rd_L1 t465 0).length : Int) x9_2 x10_2 = some r) ∧ Aside0 (kq ≤ kj5) ∧ Aside0 (Kd.S (Kd.slice 3 (Kd.int .i64)) 35 w' w.heap.size (fun _ => True) (.slice (some ad471) t465.length co8) t465) ∧ Aside0 (Kd.C (Kd.int .i64) w' A471_0 (rd_L1 t465 0).length (rd_L1 t465 0)) ∧ Aside0 (Below w.heap.size w w'))
            case atStart => exact ⟨(0), (0), (by first | rfl | (simp; done) | (simp [*]; done)), (by first | rfl | (simp; done) | (simp [*]; done)), H', ⟨Nat.le_refl _⟩, ⟨by (with_reducible repeat (first | apply Kd.S_alloc | apply Kd.S_drewN | apply Kd.S_drew)); exact HO_3.out⟩, ⟨by repeat (first | (with_reducible exact HR471_0.out) | (with_reducible refine Kd.C_alloc ?_ _) | (with_reducible refine Kd.C_drewN ?_ _) | (with_reducible refine Kd.C_drew ?_) | exact HR471_0.out)⟩, ⟨by repeat (first | (with_reducible first | exact HB.out | apply below_alloc | apply pw_below_drewN | apply below_drew1) | exact HB.out)⟩⟩
            case round =>
              clear H'
              try clear c1
              try clear c2
              try clear c2b0
              try clear c2b1
              try clear p2
              try clear c3
              try clear c4
              try clear p4
              try clear q4
              try clear hx4
              try clear qi4
              try clear c11
              try clear c11b0
              try clear c11b1
              try clear c12
              try clear c13
              try clear c13b0
              try clear c13b1
              try clear hx471_0
              try clear p2
              try clear p471
              try clear q471
              obtain ⟨x9_2, x10_2, rfl, rfl, HA, HK2, HO_3, HR471_0, HB⟩ := hrel
              cases gk with
              | zero => exact absurd HA.out (by simp [laws_FnContours.l0])
              | succ k2 =>
                have H := HA.out
                clear HA
                simp only [laws_FnContours.l0] at H
                by_cases c14 : x10_2 < (t465.length : Int)
                · rw [if_pos c14] at H
                  have c14b0 : decide (x10_2 < (t465.length : Int)) = true := decide_eq_true c14
                  clear c14
                  have H' := Aside0.mk H
                  clear H
                  go_wp2
                  go_loopg [9, 11] k2 (fun kq v9 v11 w' => ∃ (x9_3 : Int) (x11_3 : Int), v9 = .int .i64 x9_3 ∧ v11 = .int .i64 x11_3 ∧ Aside0 (laws_FnContours.l1 kq t465 t466 t469 (t465.length : Int) ((rd_L1 t465 0).length : Int) x9_3 x10_2 x11_3 = some r) ∧ Aside0 (kq ≤ k2) ∧ Aside0 (Kd.S (Kd.slice 3 (Kd.int .i64)) 35 w' w.heap.size (fun _ => True) (.slice (some ad471) t465.length co8) t465) ∧ Aside0 (Kd.C (Kd.int .i64) w' A471_0 (rd_L1 t465 0).length (rd_L1 t465 0)) ∧ Aside0 (Below w.heap.size w w'))
                  case atStart => exact ⟨(x9_2), (0), (by first | rfl | (simp; done) | (simp [*]; done)), (by first | rfl | (simp; done) | (simp [*]; done)), H', ⟨Nat.le_refl _⟩, ⟨by (with_reducible repeat (first | apply Kd.S_alloc | apply Kd.S_drewN | apply Kd.S_drew)); exact HO_3.out⟩, ⟨by repeat (first | (with_reducible exact HR471_0.out) | (with_reducible refine Kd.C_alloc ?_ _) | (with_reducible refine Kd.C_drewN ?_ _) | (with_reducible refine Kd.C_drew ?_) | exact HR471_0.out)⟩, ⟨by repeat (first | (with_reducible first | exact HB.out | apply below_alloc | apply pw_below_drewN | apply below_drew1) | exact HB.out)⟩⟩
                  case round =>
                    clear H'
                    try clear c1
                    try clear c2
                    try clear c2b0
                    try clear c2b1
                    try clear p2
                    try clear c3
                    try clear c4
                    try clear p4
                    try clear q4
                    try clear hx4
                    try clear qi4
                    try clear c11
                    try clear c11b0
                    try clear c11b1
                    try clear c12
                    try clear c13
                    try clear c13b0
                    try clear c13b1
                    try clear c14
                    try clear c14b0
                    try clear hx471_0
                    try clear p2
                    try clear p4
                    try clear p471
                    try clear q4
                    try clear q471
                    obtain ⟨x9_3, x11_3, rfl, rfl, HA, HK3, HO_3, HR471_0, HB⟩ := hrel
                    cases gk with
                    | zero => exact absurd HA.out (by simp [laws_FnContours.l1])
                    | succ k3 =>
                      have H := HA.out
                      clear HA
                      simp only [laws_FnContours.l1] at H
                      by_cases c15 : x11_3 < ((rd_L1 t465 0).length : Int)
                      · rw [if_pos c15] at H
                        have c15b0 : decide (x11_3 < ((rd_L1 t465 0).length : Int)) = true := decide_eq_true c15
                        clear c15
                        by_cases c16 : 0 ≤ x10_2
                        · rw [if_pos c16] at H
                          have c16b0 : decide (0 ≤ x10_2) = true := decide_eq_true c16
                          clear c16
                          by_cases c17 : x10_2 < (t465.length : Int)
                          · rw [if_pos c17] at H
                            have c17b0 : decide (x10_2 < (t465.length : Int)) = true := decide_eq_true c17
                            clear c17
                            by_cases c18 : 0 ≤ x11_3
                            · rw [if_pos c18] at H
                              have c18b0 : decide (0 ≤ x11_3) = true := decide_eq_true c18
                              clear c18
                              by_cases c19 : x11_3 < ((rd_L1 t465 x10_2).length : Int)
                              · rw [if_pos c19] at H
                                have c19b0 : decide (x11_3 < ((rd_L1 t465 x10_2).length : Int)) = true := decide_eq_true c19
                                clear c19
                                have HC20 := Aside0.mk H
                                clear H
                                have p473 : 0 ≤ (x10_2 : Int) := of_decide_eq_true (by first | (with_reducible assumption) | assumption)
                                have q473 : x10_2 < (t465.length : Int) := of_decide_eq_true (by first | (with_reducible assumption) | assumption)
                                obtain ⟨ad473, A473_0, c473_0, e473, hx473_0, hl473_0, hi473_0⟩ := at_L1 (Kd.S_reads' HO_3.out).2.2 x10_2 p473 q473
                                obtain rfl : ad471 = ad473 := (by injection e473)
                                obtain ⟨ce473, hce473, hMe473, hcc473⟩ := Kd.S_get HO_3.out [] x10_2 p473 (by first | exact q473 | exact of_decide_eq_true (by first | (with_reducible assumption) | assumption) | (have e_ := (Kd.S_reads' HO_3.out).1; omega))
                                obtain ⟨ve473_0, rfl, ge473_0⟩ := hMe473
                                have hv473_0 := hcc473 0 _ rfl
                                rw [Nat.add_zero, show ((Kd.slice 3 (Kd.int .i64))).sz = 1 from rfl, Nat.mul_one] at hv473_0
                                replace hv473_0 := Option.some.inj (hv473_0.symm.trans hx473_0)
                                rw [hv473_0] at ge473_0
                                have HL473_0 := Aside0.mk (show Kd.R (Kd.int .i64) 3 _ _ _ _ (rd_L1 t465 x10_2) from ge473_0)
                                clear hv473_0 ge473_0
                                clear hcc473 hce473
                                have HR473_0 := Aside0.mk hi473_0
                                have HC473_0 := Aside0.mk hl473_0
                                clear hi473_0 hl473_0
                                replace p473 := eq_true p473
                                replace q473 := eq_true q473
                                have p474 : 0 ≤ (x11_3 : Int) := of_decide_eq_true (by first | (with_reducible assumption) | assumption)
                                have q474 : x11_3 < ((rd_L1 t465 x10_2).length : Int) := of_decide_eq_true (by first | (with_reducible assumption) | assumption)
                                obtain ⟨ad474, e474, hx474_0⟩ := Kd.at_int (by repeat (first | (with_reducible exact HR473_0.out) | (with_reducible refine Kd.C_alloc ?_ _) | (with_reducible refine Kd.C_drewN ?_ _) | (with_reducible refine Kd.C_drew ?_) | exact HR473_0.out)) x11_3 p474 q474
                                cases e474
                                replace p474 := eq_true p474
                                replace q474 := eq_true q474
                                go_upto_region 18 with (fail)
                                go_cut [89] (fun v89 wc => ∃ (kq : Nat) (x89_19 : Bool), v89 = .bool x89_19 ∧ Aside0 (laws_FnContours.j3 kq t465 t466 t469 (t465.length : Int) ((rd_L1 t465 0).length : Int) x9_3 x10_2 x11_3 (decide ((rd (rd_L1 t465 x10_2) x11_3) ≥ t466)) x89_19 = some r) ∧ Aside0 (kq ≤ k3) ∧ Aside0 (Kd.S (Kd.slice 3 (Kd.int .i64)) 35 wc w.heap.size (fun _ => True) (.slice (some ad471) t465.length co8) t465) ∧ Aside0 (Kd.C (Kd.int .i64) wc A471_0 (rd_L1 t465 0).length (rd_L1 t465 0)) ∧ Aside0 (Kd.C (Kd.int .i64) wc (some ad474) (rd_L1 t465 x10_2).length (rd_L1 t465 x10_2)) ∧ Aside0 (Below w.heap.size w wc))
                                case first =>
                                  have H := HC20.out
                                  clear HC20
                                  by_cases c21 : (wrap64 (x11_3 + 1)) < ((rd_L1 t465 0).length : Int)
                                  · rw [if_pos c21] at H
                                    have c21b0 : decide ((wrap64 (x11_3 + 1)) < ((rd_L1 t465 0).length : Int)) = true := decide_eq_true c21
                                    clear c21
                                    (first | rw [c21b0] | (simp only [i64_w, i32_w]; rw [c21b0]) | skip)
                                    by_cases c22 : x10_2 = 0
                                    · rw [if_pos c22] at H
                                      have c22b0 : (x10_2 == 0) = true := beq_iff_eq.mpr c22
                                      have c22b1 : (x10_2 != 0) = false := bne_eq_false_iff_eq.mpr c22
                                      clear c22
                                      obtain ⟨ji23, hji23⟩ : ∃ j_ : Int, (wrap64 (x11_3 + 1)) = j_ := ⟨_, rfl⟩
                                      replace H : (if 0 ≤ (ji23) then (if (ji23) < ((rd_L1 t465 x10_2).length : Int) then (laws_FnContours.j3 k3 t465 t466 t469 (t465.length : Int) ((rd_L1 t465 0).length : Int) x9_3 x10_2 x11_3 (decide ((rd (rd_L1 t465 x10_2) x11_3) ≥ t466)) ((decide ((rd (rd_L1 t465 x10_2) x11_3) ≥ t466)) != (decide ((rd (rd_L1 t465 x10_2) (ji23)) ≥ t466)))) else (none)) else (none)) = some r := by first | (rw [hji23] at H; exact H) | (simp only [hji23] at H ⊢; exact H)
                                      (try rw [hji23] at c21b0)
                                      have hji23w : (IntKind.i64.wrap (x11_3 + 1)) = ji23 := (i64_w _).trans hji23
                                      by_cases c24 : 0 ≤ (ji23)
                                      · rw [if_pos c24] at H
                                        have c24b0 : decide (0 ≤ (ji23)) = true := decide_eq_true c24
                                        clear c24
                                        by_cases c25 : (ji23) < ((rd_L1 t465 x10_2).length : Int)
                                        · rw [if_pos c25] at H
                                          have c25b0 : decide ((ji23) < ((rd_L1 t465 x10_2).length : Int)) = true := decide_eq_true c25
                                          clear c25
                                          have H' := Aside0.mk H
                                          clear H
                                          have p475 : 0 ≤ (x10_2 : Int) := of_decide_eq_true (by first | (with_reducible assumption) | assumption)
                                          have q475 : x10_2 < (t465.length : Int) := of_decide_eq_true (by first | (with_reducible assumption) | assumption)
                                          obtain ⟨ad475, A475_0, c475_0, e475, hx475_0, hl475_0, hi475_0⟩ := at_L1 (Kd.S_reads' HO_3.out).2.2 x10_2 p475 q475
                                          obtain rfl : ad471 = ad475 := (by injection e475)
                                          obtain ⟨ce475, hce475, hMe475, hcc475⟩ := Kd.S_get HO_3.out [] x10_2 p475 (by first | exact q475 | exact of_decide_eq_true (by first | (with_reducible assumption) | assumption) | (have e_ := (Kd.S_reads' HO_3.out).1; omega))
                                          obtain ⟨ve475_0, rfl, ge475_0⟩ := hMe475
                                          have hv475_0 := hcc475 0 _ rfl
                                          rw [Nat.add_zero, show ((Kd.slice 3 (Kd.int .i64))).sz = 1 from rfl, Nat.mul_one] at hv475_0
                                          replace hv475_0 := Option.some.inj (hv475_0.symm.trans hx475_0)
                                          rw [hv475_0] at ge475_0
                                          have HL475_0 := Aside0.mk (show Kd.R (Kd.int .i64) 3 _ _ _ _ (rd_L1 t465 x10_2) from ge475_0)
                                          clear hv475_0 ge475_0
                                          clear hcc475 hce475
                                          have HR475_0 := Aside0.mk hi475_0
                                          have HC475_0 := Aside0.mk hl475_0
                                          clear hi475_0 hl475_0
                                          replace p475 := eq_true p475
                                          replace q475 := eq_true q475
                                          have ea_ := Option.some.inj (hx473_0.symm.trans hx475_0)
                                          injection ea_ with ea_ en_ ec_
                                          subst ea_
                                          subst ec_
                                          clear en_
                                          have p476 : 0 ≤ ((ji23) : Int) := of_decide_eq_true (by first | (with_reducible assumption) | assumption)
                                          have q476 : (ji23) < ((rd_L1 t465 x10_2).length : Int) := of_decide_eq_true (by first | (with_reducible assumption) | assumption)
                                          obtain ⟨ad476, e476, hx476_0⟩ := Kd.at_int (by repeat (first | (with_reducible exact HR475_0.out) | (with_reducible refine Kd.C_alloc ?_ _) | (with_reducible refine Kd.C_drewN ?_ _) | (with_reducible refine Kd.C_drew ?_) | exact HR475_0.out)) (ji23) p476 q476
                                          cases e476
                                          replace p476 := eq_true p476
                                          replace q476 := eq_true q476
                                          go_wp2
                                          go_meet
                                          case rel => exact ⟨_, (((decide ((rd (rd_L1 t465 x10_2) x11_3) ≥ t466)) != (decide ((rd (rd_L1 t465 x10_2) (ji23)) ≥ t466)))), (by first | rfl | (simp; done) | (simp only [← hji23] <;> (first | rfl | simp)) | (simp [*]; done)), H', ⟨by have := HJ5.out; have := HK2.out; have := HK3.out; first | omega | exact Nat.le_refl _⟩, ⟨by (with_reducible repeat (first | apply Kd.S_alloc | apply Kd.S_drewN | apply Kd.S_drew)); exact HO_3.out⟩, ⟨by repeat (first | (with_reducible exact HR471_0.out) | (with_reducible refine Kd.C_alloc ?_ _) | (with_reducible refine Kd.C_drewN ?_ _) | (with_reducible refine Kd.C_drew ?_) | exact HR471_0.out)⟩, ⟨by repeat (first | (with_reducible exact HR473_0.out) | (with_reducible refine Kd.C_alloc ?_ _) | (with_reducible refine Kd.C_drewN ?_ _) | (with_reducible refine Kd.C_drew ?_) | exact HR473_0.out)⟩, ⟨by repeat (first | (with_reducible first | exact HB.out | apply below_alloc | apply pw_below_drewN | apply below_drew1) | exact HB.out)⟩⟩
                                        · rw [if_neg c25] at H
                                          exact absurd H (by simp)
                                      · rw [if_neg c24] at H
                                        exact absurd H (by simp)
                                    · rw [if_neg c22] at H
                                      have c22b0 : (x10_2 == 0) = false := beq_eq_false_iff_ne.mpr c22
                                      have c22b1 : (x10_2 != 0) = true := bne_iff_ne.mpr c22
                                      by_cases c26 : x10_2 = (wrap64 ((t465.length : Int) - 1))
                                      · rw [if_pos c26] at H
                                        have c26b0 : (x10_2 == (wrap64 ((t465.length : Int) - 1))) = true := beq_iff_eq.mpr c26
                                        have c26b1 : (x10_2 != (wrap64 ((t465.length : Int) - 1))) = false := bne_eq_false_iff_eq.mpr c26
                                        clear c26
                                        obtain ⟨ji27, hji27⟩ : ∃ j_ : Int, (wrap64 (x11_3 + 1)) = j_ := ⟨_, rfl⟩
                                        replace H : (if 0 ≤ (ji27) then (if (ji27) < ((rd_L1 t465 x10_2).length : Int) then (laws_FnContours.j3 k3 t465 t466 t469 (t465.length : Int) ((rd_L1 t465 0).length : Int) x9_3 x10_2 x11_3 (decide ((rd (rd_L1 t465 x10_2) x11_3) ≥ t466)) ((decide ((rd (rd_L1 t465 x10_2) x11_3) ≥ t466)) != (decide ((rd (rd_L1 t465 x10_2) (ji27)) ≥ t466)))) else (none)) else (none)) = some r := by first | (rw [hji27] at H; exact H) | (simp only [hji27] at H ⊢; exact H)
                                        (try rw [hji27] at c21b0)
                                        have hji27w : (IntKind.i64.wrap (x11_3 + 1)) = ji27 := (i64_w _).trans hji27
                                        by_cases c28 : 0 ≤ (ji27)
                                        · rw [if_pos c28] at H
                                          have c28b0 : decide (0 ≤ (ji27)) = true := decide_eq_true c28
                                          clear c28
                                          by_cases c29 : (ji27) < ((rd_L1 t465 x10_2).length : Int)
                                          · rw [if_pos c29] at H
                                            have c29b0 : decide ((ji27) < ((rd_L1 t465 x10_2).length : Int)) = true := decide_eq_true c29
                                            clear c29
                                            have H' := Aside0.mk H
                                            clear H
                                            have p477 : 0 ≤ (x10_2 : Int) := of_decide_eq_true (by first | (with_reducible assumption) | assumption)
                                            have q477 : x10_2 < (t465.length : Int) := of_decide_eq_true (by first | (with_reducible assumption) | assumption)
                                            obtain ⟨ad477, A477_0, c477_0, e477, hx477_0, hl477_0, hi477_0⟩ := at_L1 (Kd.S_reads' HO_3.out).2.2 x10_2 p477 q477
                                            obtain rfl : ad471 = ad477 := (by injection e477)
                                            obtain ⟨ce477, hce477, hMe477, hcc477⟩ := Kd.S_get HO_3.out [] x10_2 p477 (by first | exact q477 | exact of_decide_eq_true (by first | (with_reducible assumption) | assumption) | (have e_ := (Kd.S_reads' HO_3.out).1; omega))
                                            obtain ⟨ve477_0, rfl, ge477_0⟩ := hMe477
                                            have hv477_0 := hcc477 0 _ rfl
                                            rw [Nat.add_zero, show ((Kd.slice 3 (Kd.int .i64))).sz = 1 from rfl, Nat.mul_one] at hv477_0
                                            replace hv477_0 := Option.some.inj (hv477_0.symm.trans hx477_0)
                                            rw [hv477_0] at ge477_0
                                            have HL477_0 := Aside0.mk (show Kd.R (Kd.int .i64) 3 _ _ _ _ (rd_L1 t465 x10_2) from ge477_0)
                                            clear hv477_0 ge477_0
                                            clear hcc477 hce477
                                            have HR477_0 := Aside0.mk hi477_0
                                            have HC477_0 := Aside0.mk hl477_0
                                            clear hi477_0 hl477_0
                                            replace p477 := eq_true p477
                                            replace q477 := eq_true q477
                                            have ea_ := Option.some.inj (hx473_0.symm.trans hx477_0)
                                            injection ea_ with ea_ en_ ec_
                                            subst ea_
                                            subst ec_
                                            clear en_
                                            have p478 : 0 ≤ ((ji27) : Int) := of_decide_eq_true (by first | (with_reducible assumption) | assumption)
                                            have q478 : (ji27) < ((rd_L1 t465 x10_2).length : Int) := of_decide_eq_true (by first | (with_reducible assumption) | assumption)
                                            obtain ⟨ad478, e478, hx478_0⟩ := Kd.at_int (by repeat (first | (with_reducible exact HR477_0.out) | (with_reducible refine Kd.C_alloc ?_ _) | (with_reducible refine Kd.C_drewN ?_ _) | (with_reducible refine Kd.C_drew ?_) | exact HR477_0.out)) (ji27) p478 q478
                                            cases e478
                                            replace p478 := eq_true p478
                                            replace q478 := eq_true q478
                                            go_wp2
                                            go_meet
                                            case rel => exact ⟨_, (((decide ((rd (rd_L1 t465 x10_2) x11_3) ≥ t466)) != (decide ((rd (rd_L1 t465 x10_2) (ji27)) ≥ t466)))), (by first | rfl | (simp; done) | (simp only [← hji27] <;> (first | rfl | simp)) | (simp [*]; done)), H', ⟨by have := HJ5.out; have := HK2.out; have := HK3.out; first | omega | exact Nat.le_refl _⟩, ⟨by (with_reducible repeat (first | apply Kd.S_alloc | apply Kd.S_drewN | apply Kd.S_drew)); exact HO_3.out⟩, ⟨by repeat (first | (with_reducible exact HR471_0.out) | (with_reducible refine Kd.C_alloc ?_ _) | (with_reducible refine Kd.C_drewN ?_ _) | (with_reducible refine Kd.C_drew ?_) | exact HR471_0.out)⟩, ⟨by repeat (first | (with_reducible exact HR473_0.out) | (with_reducible refine Kd.C_alloc ?_ _) | (with_reducible refine Kd.C_drewN ?_ _) | (with_reducible refine Kd.C_drew ?_) | exact HR473_0.out)⟩, ⟨by repeat (first | (with_reducible first | exact HB.out | apply below_alloc | apply pw_below_drewN | apply below_drew1) | exact HB.out)⟩⟩
                                          · rw [if_neg c29] at H
                                            exact absurd H (by simp)
                                        · rw [if_neg c28] at H
                                          exact absurd H (by simp)
                                      · rw [if_neg c26] at H
                                        have c26b0 : (x10_2 == (wrap64 ((t465.length : Int) - 1))) = false := beq_eq_false_iff_ne.mpr c26
                                        have c26b1 : (x10_2 != (wrap64 ((t465.length : Int) - 1))) = true := bne_iff_ne.mpr c26
                                        have H' := Aside0.mk H
                                        clear H
                                        go_wp2
                                        go_meet
                                        case rel => exact ⟨_, (false), (by first | rfl | (simp; done) | (simp [*]; done)), H', ⟨by have := HJ5.out; have := HK2.out; have := HK3.out; first | omega | exact Nat.le_refl _⟩, ⟨by (with_reducible repeat (first | apply Kd.S_alloc | apply Kd.S_drewN | apply Kd.S_drew)); exact HO_3.out⟩, ⟨by repeat (first | (with_reducible exact HR471_0.out) | (with_reducible refine Kd.C_alloc ?_ _) | (with_reducible refine Kd.C_drewN ?_ _) | (with_reducible refine Kd.C_drew ?_) | exact HR471_0.out)⟩, ⟨by repeat (first | (with_reducible exact HR473_0.out) | (with_reducible refine Kd.C_alloc ?_ _) | (with_reducible refine Kd.C_drewN ?_ _) | (with_reducible refine Kd.C_drew ?_) | exact HR473_0.out)⟩, ⟨by repeat (first | (with_reducible first | exact HB.out | apply below_alloc | apply pw_below_drewN | apply below_drew1) | exact HB.out)⟩⟩
                                  · rw [if_neg c21] at H
                                    have c21b0 : decide ((wrap64 (x11_3 + 1)) < ((rd_L1 t465 0).length : Int)) = false := decide_eq_false c21
                                    clear c21
                                    (first | rw [c21b0] | (simp only [i64_w, i32_w]; rw [c21b0]) | skip)
                                    have H' := Aside0.mk H
                                    clear H
                                    go_wp2
                                    go_meet
                                    case rel => exact ⟨_, (false), (by first | rfl | (simp; done) | (simp [*]; done)), H', ⟨by have := HJ5.out; have := HK2.out; have := HK3.out; first | omega | exact Nat.le_refl _⟩, ⟨by (with_reducible repeat (first | apply Kd.S_alloc | apply Kd.S_drewN | apply Kd.S_drew)); exact HO_3.out⟩, ⟨by repeat (first | (with_reducible exact HR471_0.out) | (with_reducible refine Kd.C_alloc ?_ _) | (with_reducible refine Kd.C_drewN ?_ _) | (with_reducible refine Kd.C_drew ?_) | exact HR471_0.out)⟩, ⟨by repeat (first | (with_reducible exact HR473_0.out) | (with_reducible refine Kd.C_alloc ?_ _) | (with_reducible refine Kd.C_drewN ?_ _) | (with_reducible refine Kd.C_drew ?_) | exact HR473_0.out)⟩, ⟨by repeat (first | (with_reducible first | exact HB.out | apply below_alloc | apply pw_below_drewN | apply below_drew1) | exact HB.out)⟩⟩
                                case rest =>
                                  clear HC20
                                  try clear c1
                                  try clear c2
                                  try clear c2b0
                                  try clear c2b1
                                  try clear p2
                                  try clear c3
                                  try clear c4
                                  try clear p4
                                  try clear q4
                                  try clear hx4
                                  try clear qi4
                                  try clear p6
                                  try clear c11
                                  try clear c11b0
                                  try clear c11b1
                                  try clear c12
                                  try clear c13
                                  try clear c13b0
                                  try clear c13b1
                                  try clear c14
                                  try clear c14b0
                                  try clear c15
                                  try clear c15b0
                                  try clear c16
                                  try clear c16b0
                                  try clear c17
                                  try clear c17b0
                                  try clear c18
                                  try clear c18b0
                                  try clear c19
                                  try clear c19b0
                                  try clear c21
                                  try clear c21b0
                                  try clear c22
                                  try clear c22b0
                                  try clear c22b1
                                  try clear c24
                                  try clear c24b0
                                  try clear c25
                                  try clear c25b0
                                  try clear c26
                                  try clear c26b0
                                  try clear c26b1
                                  try clear c28
                                  try clear c28b0
                                  try clear c29
                                  try clear c29b0
                                  try clear hx471_0
                                  try clear hx473_0
                                  try clear hx474_0
                                  try clear hx475_0
                                  try clear hx476_0
                                  try clear hx477_0
                                  try clear hx478_0
                                  try clear p2
                                  try clear p4
                                  try clear p471
                                  try clear p473
                                  try clear p474
                                  try clear p475
                                  try clear p476
                                  try clear p477
                                  try clear p478
                                  try clear q4
                                  try clear q471
                                  try clear q473
                                  try clear q474
                                  try clear q475
                                  try clear q476
                                  try clear q477
                                  try clear q478
                                  obtain ⟨kq, x89_19, rfl, HA, HJ19, HO_3, HR471_0, HR473_0, HB⟩ := hcut
                                  cases kq with
                                  | zero => exact absurd HA.out (by simp [laws_FnContours.j3])
                                  | succ kj19 =>
                                    have H := HA.out
                                    clear HA
                                    simp only [laws_FnContours.j3] at H
                                    by_cases c30 : x89_19 = true
                                    · subst c30
                                      have H1 : (if (wrap64 (x10_2 + 1)) < (t465.length : Int) then (if x11_3 = 0 then (if 0 ≤ (wrap64 (x10_2 + 1)) then (if (wrap64 (x10_2 + 1)) < (t465.length : Int) then (if 0 ≤ x11_3 then (if x11_3 < ((rd_L1 t465 (wrap64 (x10_2 + 1))).length : Int) then (if ((decide ((rd (rd_L1 t465 x10_2) x11_3) ≥ t466)) != (decide ((rd (rd_L1 t465 (wrap64 (x10_2 + 1))) x11_3) ≥ t466))) = true then (laws_FnContours.l1 kj19 t465 t466 t469 (t465.length : Int) ((rd_L1 t465 0).length : Int) (wrap64 ((wrap64 (x9_3 + 1)) + 1)) x10_2 (wrap64 (x11_3 + 1))) else (laws_FnContours.l1 kj19 t465 t466 t469 (t465.length : Int) ((rd_L1 t465 0).length : Int) (wrap64 (x9_3 + 1)) x10_2 (wrap64 (x11_3 + 1)))) else (none)) else (none)) else (none)) else (none)) else (if x11_3 = (wrap64 (((rd_L1 t465 0).length : Int) - 1)) then (if 0 ≤ (wrap64 (x10_2 + 1)) then (if (wrap64 (x10_2 + 1)) < (t465.length : Int) then (if 0 ≤ x11_3 then (if x11_3 < ((rd_L1 t465 (wrap64 (x10_2 + 1))).length : Int) then (if ((decide ((rd (rd_L1 t465 x10_2) x11_3) ≥ t466)) != (decide ((rd (rd_L1 t465 (wrap64 (x10_2 + 1))) x11_3) ≥ t466))) = true then (laws_FnContours.l1 kj19 t465 t466 t469 (t465.length : Int) ((rd_L1 t465 0).length : Int) (wrap64 ((wrap64 (x9_3 + 1)) + 1)) x10_2 (wrap64 (x11_3 + 1))) else (laws_FnContours.l1 kj19 t465 t466 t469 (t465.length : Int) ((rd_L1 t465 0).length : Int) (wrap64 (x9_3 + 1)) x10_2 (wrap64 (x11_3 + 1)))) else (none)) else (none)) else (none)) else (none)) else (laws_FnContours.l1 kj19 t465 t466 t469 (t465.length : Int) ((rd_L1 t465 0).length : Int) (wrap64 (x9_3 + 1)) x10_2 (wrap64 (x11_3 + 1))))) else (laws_FnContours.l1 kj19 t465 t466 t469 (t465.length : Int) ((rd_L1 t465 0).length : Int) (wrap64 (x9_3 + 1)) x10_2 (wrap64 (x11_3 + 1)))) = some r := by rw [if_pos rfl] at H; exact H
                                      clear H
                                      have H := H1
                                      clear H1
                                      by_cases c31 : (wrap64 (x10_2 + 1)) < (t465.length : Int)
                                      · rw [if_pos c31] at H
                                        have c31b0 : decide ((wrap64 (x10_2 + 1)) < (t465.length : Int)) = true := decide_eq_true c31
                                        clear c31
                                        by_cases c32 : x11_3 = 0
                                        · rw [if_pos c32] at H
                                          have c32b0 : (x11_3 == 0) = true := beq_iff_eq.mpr c32
                                          have c32b1 : (x11_3 != 0) = false := bne_eq_false_iff_eq.mpr c32
                                          clear c32
                                          obtain ⟨ji33, hji33⟩ : ∃ j_ : Int, (wrap64 (x10_2 + 1)) = j_ := ⟨_, rfl⟩
                                          replace H : (if 0 ≤ (ji33) then (if (ji33) < (t465.length : Int) then (if 0 ≤ x11_3 then (if x11_3 < ((rd_L1 t465 (ji33)).length : Int) then (if ((decide ((rd (rd_L1 t465 x10_2) x11_3) ≥ t466)) != (decide ((rd (rd_L1 t465 (ji33)) x11_3) ≥ t466))) = true then (laws_FnContours.l1 kj19 t465 t466 t469 (t465.length : Int) ((rd_L1 t465 0).length : Int) (wrap64 ((wrap64 (x9_3 + 1)) + 1)) x10_2 (wrap64 (x11_3 + 1))) else (laws_FnContours.l1 kj19 t465 t466 t469 (t465.length : Int) ((rd_L1 t465 0).length : Int) (wrap64 (x9_3 + 1)) x10_2 (wrap64 (x11_3 + 1)))) else (none)) else (none)) else (none)) else (none)) = some r := by first | (rw [hji33] at H; exact H) | (simp only [hji33] at H ⊢; exact H)
                                          (try rw [hji33] at c31b0)
                                          have hji33w : (IntKind.i64.wrap (x10_2 + 1)) = ji33 := (i64_w _).trans hji33
                                          by_cases c34 : 0 ≤ (ji33)
                                          · rw [if_pos c34] at H
                                            have c34b0 : decide (0 ≤ (ji33)) = true := decide_eq_true c34
                                            clear c34
                                            by_cases c35 : (ji33) < (t465.length : Int)
                                            · rw [if_pos c35] at H
                                              have c35b0 : decide ((ji33) < (t465.length : Int)) = true := decide_eq_true c35
                                              clear c35
                                              by_cases c36 : 0 ≤ x11_3
                                              · rw [if_pos c36] at H
                                                have c36b0 : decide (0 ≤ x11_3) = true := decide_eq_true c36
                                                clear c36
                                                by_cases c37 : x11_3 < ((rd_L1 t465 (ji33)).length : Int)
                                                · rw [if_pos c37] at H
                                                  have c37b0 : decide (x11_3 < ((rd_L1 t465 (ji33)).length : Int)) = true := decide_eq_true c37
                                                  clear c37
                                                  by_cases c38 : ((decide ((rd (rd_L1 t465 x10_2) x11_3) ≥ t466)) != (decide ((rd (rd_L1 t465 (ji33)) x11_3) ≥ t466))) = true
                                                  · rw [if_pos c38] at H
                                                    have c38b0 : ((decide ((rd (rd_L1 t465 x10_2) x11_3) ≥ t466)) != (decide ((rd (rd_L1 t465 (ji33)) x11_3) ≥ t466))) = true := c38
                                                    (try (have c38b1 : decide ((decide ((rd (rd_L1 t465 x10_2) x11_3) ≥ t466)) = (decide ((rd (rd_L1 t465 (ji33)) x11_3) ≥ t466))) = false := by simpa using c38))
                                                    (try (have c38b2 : ((decide ((rd (rd_L1 t465 x10_2) x11_3) ≥ t466)) == (decide ((rd (rd_L1 t465 (ji33)) x11_3) ≥ t466))) = false := by simpa using c38))
                                                    (try (have c38b3 : ¬ ((decide ((rd (rd_L1 t465 x10_2) x11_3) ≥ t466)) = (decide ((rd (rd_L1 t465 (ji33)) x11_3) ≥ t466))) := by simpa using c38))
                                                    clear c38
                                                    have H' := Aside0.mk H
                                                    clear H
                                                    have p479 : 0 ≤ ((ji33) : Int) := of_decide_eq_true (by first | (with_reducible assumption) | assumption)
                                                    have q479 : (ji33) < (t465.length : Int) := of_decide_eq_true (by first | (with_reducible assumption) | assumption)
                                                    obtain ⟨ad479, A479_0, c479_0, e479, hx479_0, hl479_0, hi479_0⟩ := at_L1 (Kd.S_reads' HO_3.out).2.2 (ji33) p479 q479
                                                    obtain rfl : ad471 = ad479 := (by injection e479)
                                                    obtain ⟨ce479, hce479, hMe479, hcc479⟩ := Kd.S_get HO_3.out [] (ji33) p479 (by first | exact q479 | exact of_decide_eq_true (by first | (with_reducible assumption) | assumption) | (have e_ := (Kd.S_reads' HO_3.out).1; omega))
                                                    obtain ⟨ve479_0, rfl, ge479_0⟩ := hMe479
                                                    have hv479_0 := hcc479 0 _ rfl
                                                    rw [Nat.add_zero, show ((Kd.slice 3 (Kd.int .i64))).sz = 1 from rfl, Nat.mul_one] at hv479_0
                                                    replace hv479_0 := Option.some.inj (hv479_0.symm.trans hx479_0)
                                                    rw [hv479_0] at ge479_0
                                                    have HL479_0 := Aside0.mk (show Kd.R (Kd.int .i64) 3 _ _ _ _ (rd_L1 t465 (ji33)) from ge479_0)
                                                    clear hv479_0 ge479_0
                                                    clear hcc479 hce479
                                                    have HR479_0 := Aside0.mk hi479_0
                                                    have HC479_0 := Aside0.mk hl479_0
                                                    clear hi479_0 hl479_0
                                                    replace p479 := eq_true p479
                                                    replace q479 := eq_true q479
                                                    have p480 : 0 ≤ (x11_3 : Int) := of_decide_eq_true (by first | (with_reducible assumption) | assumption)
                                                    have q480 : x11_3 < ((rd_L1 t465 (ji33)).length : Int) := of_decide_eq_true (by first | (with_reducible assumption) | assumption)
                                                    obtain ⟨ad480, e480, hx480_0⟩ := Kd.at_int (by repeat (first | (with_reducible exact HR479_0.out) | (with_reducible refine Kd.C_alloc ?_ _) | (with_reducible refine Kd.C_drewN ?_ _) | (with_reducible refine Kd.C_drew ?_) | exact HR479_0.out)) x11_3 p480 q480
                                                    cases e480
                                                    replace p480 := eq_true p480
                                                    replace q480 := eq_true q480
                                                    go_wp2
                                                    go_roundg kj19
                                                    case measure => have := HJ5.out; have := HK2.out; have := HK3.out; have := HJ19.out; omega
                                                    case rel => exact ⟨(wrap64 ((wrap64 (x9_3 + 1)) + 1)), (wrap64 (x11_3 + 1)), (by first | rfl | (simp; done) | (simp [*]; done)), (by first | rfl | (simp; done) | (simp [*]; done)), H', ⟨by have := HJ5.out; have := HK2.out; have := HK3.out; have := HJ19.out; omega⟩, ⟨by (with_reducible repeat (first | apply Kd.S_alloc | apply Kd.S_drewN | apply Kd.S_drew)); exact HO_3.out⟩, ⟨by repeat (first | (with_reducible exact HR471_0.out) | (with_reducible refine Kd.C_alloc ?_ _) | (with_reducible refine Kd.C_drewN ?_ _) | (with_reducible refine Kd.C_drew ?_) | exact HR471_0.out)⟩, ⟨by repeat (first | (with_reducible first | exact HB.out | apply below_alloc | apply pw_below_drewN | apply below_drew1) | exact HB.out)⟩⟩
                                                  · rw [if_neg c38] at H
                                                    have c38b0 : ((decide ((rd (rd_L1 t465 x10_2) x11_3) ≥ t466)) != (decide ((rd (rd_L1 t465 (ji33)) x11_3) ≥ t466))) = false := by simpa using c38
                                                    (try (have c38b1 : decide ((decide ((rd (rd_L1 t465 x10_2) x11_3) ≥ t466)) = (decide ((rd (rd_L1 t465 (ji33)) x11_3) ≥ t466))) = true := by simpa using c38))
                                                    (try (have c38b2 : ((decide ((rd (rd_L1 t465 x10_2) x11_3) ≥ t466)) == (decide ((rd (rd_L1 t465 (ji33)) x11_3) ≥ t466))) = true := by simpa using c38))
                                                    clear c38
                                                    have H' := Aside0.mk H
                                                    clear H
                                                    have p479 : 0 ≤ ((ji33) : Int) := of_decide_eq_true (by first | (with_reducible assumption) | assumption)
                                                    have q479 : (ji33) < (t465.length : Int) := of_decide_eq_true (by first | (with_reducible assumption) | assumption)
                                                    obtain ⟨ad479, A479_0, c479_0, e479, hx479_0, hl479_0, hi479_0⟩ := at_L1 (Kd.S_reads' HO_3.out).2.2 (ji33) p479 q479
                                                    obtain rfl : ad471 = ad479 := (by injection e479)
                                                    obtain ⟨ce479, hce479, hMe479, hcc479⟩ := Kd.S_get HO_3.out [] (ji33) p479 (by first | exact q479 | exact of_decide_eq_true (by first | (with_reducible assumption) | assumption) | (have e_ := (Kd.S_reads' HO_3.out).1; omega))
                                                    obtain ⟨ve479_0, rfl, ge479_0⟩ := hMe479
                                                    have hv479_0 := hcc479 0 _ rfl
                                                    rw [Nat.add_zero, show ((Kd.slice 3 (Kd.int .i64))).sz = 1 from rfl, Nat.mul_one] at hv479_0
                                                    replace hv479_0 := Option.some.inj (hv479_0.symm.trans hx479_0)
                                                    rw [hv479_0] at ge479_0
                                                    have HL479_0 := Aside0.mk (show Kd.R (Kd.int .i64) 3 _ _ _ _ (rd_L1 t465 (ji33)) from ge479_0)
                                                    clear hv479_0 ge479_0
                                                    clear hcc479 hce479
                                                    have HR479_0 := Aside0.mk hi479_0
                                                    have HC479_0 := Aside0.mk hl479_0
                                                    clear hi479_0 hl479_0
                                                    replace p479 := eq_true p479
                                                    replace q479 := eq_true q479
                                                    have p480 : 0 ≤ (x11_3 : Int) := of_decide_eq_true (by first | (with_reducible assumption) | assumption)
                                                    have q480 : x11_3 < ((rd_L1 t465 (ji33)).length : Int) := of_decide_eq_true (by first | (with_reducible assumption) | assumption)
                                                    obtain ⟨ad480, e480, hx480_0⟩ := Kd.at_int (by repeat (first | (with_reducible exact HR479_0.out) | (with_reducible refine Kd.C_alloc ?_ _) | (with_reducible refine Kd.C_drewN ?_ _) | (with_reducible refine Kd.C_drew ?_) | exact HR479_0.out)) x11_3 p480 q480
                                                    cases e480
                                                    replace p480 := eq_true p480
                                                    replace q480 := eq_true q480
                                                    go_wp2
                                                    go_roundg kj19
                                                    case measure => have := HJ5.out; have := HK2.out; have := HK3.out; have := HJ19.out; omega
                                                    case rel => exact ⟨(wrap64 (x9_3 + 1)), (wrap64 (x11_3 + 1)), (by first | rfl | (simp; done) | (simp [*]; done)), (by first | rfl | (simp; done) | (simp [*]; done)), H', ⟨by have := HJ5.out; have := HK2.out; have := HK3.out; have := HJ19.out; omega⟩, ⟨by (with_reducible repeat (first | apply Kd.S_alloc | apply Kd.S_drewN | apply Kd.S_drew)); exact HO_3.out⟩, ⟨by repeat (first | (with_reducible exact HR471_0.out) | (with_reducible refine Kd.C_alloc ?_ _) | (with_reducible refine Kd.C_drewN ?_ _) | (with_reducible refine Kd.C_drew ?_) | exact HR471_0.out)⟩, ⟨by repeat (first | (with_reducible first | exact HB.out | apply below_alloc | apply pw_below_drewN | apply below_drew1) | exact HB.out)⟩⟩
                                                · rw [if_neg c37] at H
                                                  exact absurd H (by simp)
                                              · rw [if_neg c36] at H
                                                exact absurd H (by simp)
                                            · rw [if_neg c35] at H
                                              exact absurd H (by simp)
                                          · rw [if_neg c34] at H
                                            exact absurd H (by simp)
                                        · rw [if_neg c32] at H
                                          have c32b0 : (x11_3 == 0) = false := beq_eq_false_iff_ne.mpr c32
                                          have c32b1 : (x11_3 != 0) = true := bne_iff_ne.mpr c32
                                          by_cases c39 : x11_3 = (wrap64 (((rd_L1 t465 0).length : Int) - 1))
                                          · rw [if_pos c39] at H
                                            have c39b0 : (x11_3 == (wrap64 (((rd_L1 t465 0).length : Int) - 1))) = true := beq_iff_eq.mpr c39
                                            have c39b1 : (x11_3 != (wrap64 (((rd_L1 t465 0).length : Int) - 1))) = false := bne_eq_false_iff_eq.mpr c39
                                            clear c39
                                            obtain ⟨ji40, hji40⟩ : ∃ j_ : Int, (wrap64 (x10_2 + 1)) = j_ := ⟨_, rfl⟩
                                            replace H : (if 0 ≤ (ji40) then (if (ji40) < (t465.length : Int) then (if 0 ≤ x11_3 then (if x11_3 < ((rd_L1 t465 (ji40)).length : Int) then (if ((decide ((rd (rd_L1 t465 x10_2) x11_3) ≥ t466)) != (decide ((rd (rd_L1 t465 (ji40)) x11_3) ≥ t466))) = true then (laws_FnContours.l1 kj19 t465 t466 t469 (t465.length : Int) ((rd_L1 t465 0).length : Int) (wrap64 ((wrap64 (x9_3 + 1)) + 1)) x10_2 (wrap64 (x11_3 + 1))) else (laws_FnContours.l1 kj19 t465 t466 t469 (t465.length : Int) ((rd_L1 t465 0).length : Int) (wrap64 (x9_3 + 1)) x10_2 (wrap64 (x11_3 + 1)))) else (none)) else (none)) else (none)) else (none)) = some r := by first | (rw [hji40] at H; exact H) | (simp only [hji40] at H ⊢; exact H)
                                            (try rw [hji40] at c31b0)
                                            have hji40w : (IntKind.i64.wrap (x10_2 + 1)) = ji40 := (i64_w _).trans hji40
                                            by_cases c41 : 0 ≤ (ji40)
                                            · rw [if_pos c41] at H
                                              have c41b0 : decide (0 ≤ (ji40)) = true := decide_eq_true c41
                                              clear c41
                                              by_cases c42 : (ji40) < (t465.length : Int)
                                              · rw [if_pos c42] at H
                                                have c42b0 : decide ((ji40) < (t465.length : Int)) = true := decide_eq_true c42
                                                clear c42
                                                by_cases c43 : 0 ≤ x11_3
                                                · rw [if_pos c43] at H
                                                  have c43b0 : decide (0 ≤ x11_3) = true := decide_eq_true c43
                                                  clear c43
                                                  by_cases c44 : x11_3 < ((rd_L1 t465 (ji40)).length : Int)
                                                  · rw [if_pos c44] at H
                                                    have c44b0 : decide (x11_3 < ((rd_L1 t465 (ji40)).length : Int)) = true := decide_eq_true c44
                                                    clear c44
                                                    by_cases c45 : ((decide ((rd (rd_L1 t465 x10_2) x11_3) ≥ t466)) != (decide ((rd (rd_L1 t465 (ji40)) x11_3) ≥ t466))) = true
                                                    · rw [if_pos c45] at H
                                                      have c45b0 : ((decide ((rd (rd_L1 t465 x10_2) x11_3) ≥ t466)) != (decide ((rd (rd_L1 t465 (ji40)) x11_3) ≥ t466))) = true := c45
                                                      (try (have c45b1 : decide ((decide ((rd (rd_L1 t465 x10_2) x11_3) ≥ t466)) = (decide ((rd (rd_L1 t465 (ji40)) x11_3) ≥ t466))) = false := by simpa using c45))
                                                      (try (have c45b2 : ((decide ((rd (rd_L1 t465 x10_2) x11_3) ≥ t466)) == (decide ((rd (rd_L1 t465 (ji40)) x11_3) ≥ t466))) = false := by simpa using c45))
                                                      (try (have c45b3 : ¬ ((decide ((rd (rd_L1 t465 x10_2) x11_3) ≥ t466)) = (decide ((rd (rd_L1 t465 (ji40)) x11_3) ≥ t466))) := by simpa using c45))
                                                      clear c45
                                                      have H' := Aside0.mk H
                                                      clear H
                                                      have p481 : 0 ≤ ((ji40) : Int) := of_decide_eq_true (by first | (with_reducible assumption) | assumption)
                                                      have q481 : (ji40) < (t465.length : Int) := of_decide_eq_true (by first | (with_reducible assumption) | assumption)
                                                      obtain ⟨ad481, A481_0, c481_0, e481, hx481_0, hl481_0, hi481_0⟩ := at_L1 (Kd.S_reads' HO_3.out).2.2 (ji40) p481 q481
                                                      obtain rfl : ad471 = ad481 := (by injection e481)
                                                      obtain ⟨ce481, hce481, hMe481, hcc481⟩ := Kd.S_get HO_3.out [] (ji40) p481 (by first | exact q481 | exact of_decide_eq_true (by first | (with_reducible assumption) | assumption) | (have e_ := (Kd.S_reads' HO_3.out).1; omega))
                                                      obtain ⟨ve481_0, rfl, ge481_0⟩ := hMe481
                                                      have hv481_0 := hcc481 0 _ rfl
                                                      rw [Nat.add_zero, show ((Kd.slice 3 (Kd.int .i64))).sz = 1 from rfl, Nat.mul_one] at hv481_0
                                                      replace hv481_0 := Option.some.inj (hv481_0.symm.trans hx481_0)
                                                      rw [hv481_0] at ge481_0
                                                      have HL481_0 := Aside0.mk (show Kd.R (Kd.int .i64) 3 _ _ _ _ (rd_L1 t465 (ji40)) from ge481_0)
                                                      clear hv481_0 ge481_0
                                                      clear hcc481 hce481
                                                      have HR481_0 := Aside0.mk hi481_0
                                                      have HC481_0 := Aside0.mk hl481_0
                                                      clear hi481_0 hl481_0
                                                      replace p481 := eq_true p481
                                                      replace q481 := eq_true q481
                                                      have p482 : 0 ≤ (x11_3 : Int) := of_decide_eq_true (by first | (with_reducible assumption) | assumption)
                                                      have q482 : x11_3 < ((rd_L1 t465 (ji40)).length : Int) := of_decide_eq_true (by first | (with_reducible assumption) | assumption)
                                                      obtain ⟨ad482, e482, hx482_0⟩ := Kd.at_int (by repeat (first | (with_reducible exact HR481_0.out) | (with_reducible refine Kd.C_alloc ?_ _) | (with_reducible refine Kd.C_drewN ?_ _) | (with_reducible refine Kd.C_drew ?_) | exact HR481_0.out)) x11_3 p482 q482
                                                      cases e482
                                                      replace p482 := eq_true p482
                                                      replace q482 := eq_true q482
                                                      go_wp2
                                                      go_roundg kj19
                                                      case measure => have := HJ5.out; have := HK2.out; have := HK3.out; have := HJ19.out; omega
                                                      case rel => exact ⟨(wrap64 ((wrap64 (x9_3 + 1)) + 1)), (wrap64 (x11_3 + 1)), (by first | rfl | (simp; done) | (simp [*]; done)), (by first | rfl | (simp; done) | (simp [*]; done)), H', ⟨by have := HJ5.out; have := HK2.out; have := HK3.out; have := HJ19.out; omega⟩, ⟨by (with_reducible repeat (first | apply Kd.S_alloc | apply Kd.S_drewN | apply Kd.S_drew)); exact HO_3.out⟩, ⟨by repeat (first | (with_reducible exact HR471_0.out) | (with_reducible refine Kd.C_alloc ?_ _) | (with_reducible refine Kd.C_drewN ?_ _) | (with_reducible refine Kd.C_drew ?_) | exact HR471_0.out)⟩, ⟨by repeat (first | (with_reducible first | exact HB.out | apply below_alloc | apply pw_below_drewN | apply below_drew1) | exact HB.out)⟩⟩
                                                    · rw [if_neg c45] at H
                                                      have c45b0 : ((decide ((rd (rd_L1 t465 x10_2) x11_3) ≥ t466)) != (decide ((rd (rd_L1 t465 (ji40)) x11_3) ≥ t466))) = false := by simpa using c45
                                                      (try (have c45b1 : decide ((decide ((rd (rd_L1 t465 x10_2) x11_3) ≥ t466)) = (decide ((rd (rd_L1 t465 (ji40)) x11_3) ≥ t466))) = true := by simpa using c45))
                                                      (try (have c45b2 : ((decide ((rd (rd_L1 t465 x10_2) x11_3) ≥ t466)) == (decide ((rd (rd_L1 t465 (ji40)) x11_3) ≥ t466))) = true := by simpa using c45))
                                                      clear c45
                                                      have H' := Aside0.mk H
                                                      clear H
                                                      have p481 : 0 ≤ ((ji40) : Int) := of_decide_eq_true (by first | (with_reducible assumption) | assumption)
                                                      have q481 : (ji40) < (t465.length : Int) := of_decide_eq_true (by first | (with_reducible assumption) | assumption)
                                                      obtain ⟨ad481, A481_0, c481_0, e481, hx481_0, hl481_0, hi481_0⟩ := at_L1 (Kd.S_reads' HO_3.out).2.2 (ji40) p481 q481
                                                      obtain rfl : ad471 = ad481 := (by injection e481)
                                                      obtain ⟨ce481, hce481, hMe481, hcc481⟩ := Kd.S_get HO_3.out [] (ji40) p481 (by first | exact q481 | exact of_decide_eq_true (by first | (with_reducible assumption) | assumption) | (have e_ := (Kd.S_reads' HO_3.out).1; omega))
                                                      obtain ⟨ve481_0, rfl, ge481_0⟩ := hMe481
                                                      have hv481_0 := hcc481 0 _ rfl
                                                      rw [Nat.add_zero, show ((Kd.slice 3 (Kd.int .i64))).sz = 1 from rfl, Nat.mul_one] at hv481_0
                                                      replace hv481_0 := Option.some.inj (hv481_0.symm.trans hx481_0)
                                                      rw [hv481_0] at ge481_0
                                                      have HL481_0 := Aside0.mk (show Kd.R (Kd.int .i64) 3 _ _ _ _ (rd_L1 t465 (ji40)) from ge481_0)
                                                      clear hv481_0 ge481_0
                                                      clear hcc481 hce481
                                                      have HR481_0 := Aside0.mk hi481_0
                                                      have HC481_0 := Aside0.mk hl481_0
                                                      clear hi481_0 hl481_0
                                                      replace p481 := eq_true p481
                                                      replace q481 := eq_true q481
                                                      have p482 : 0 ≤ (x11_3 : Int) := of_decide_eq_true (by first | (with_reducible assumption) | assumption)
                                                      have q482 : x11_3 < ((rd_L1 t465 (ji40)).length : Int) := of_decide_eq_true (by first | (with_reducible assumption) | assumption)
                                                      obtain ⟨ad482, e482, hx482_0⟩ := Kd.at_int (by repeat (first | (with_reducible exact HR481_0.out) | (with_reducible refine Kd.C_alloc ?_ _) | (with_reducible refine Kd.C_drewN ?_ _) | (with_reducible refine Kd.C_drew ?_) | exact HR481_0.out)) x11_3 p482 q482
                                                      cases e482
                                                      replace p482 := eq_true p482
                                                      replace q482 := eq_true q482
                                                      go_wp2
                                                      go_roundg kj19
                                                      case measure => have := HJ5.out; have := HK2.out; have := HK3.out; have := HJ19.out; omega
                                                      case rel => exact ⟨(wrap64 (x9_3 + 1)), (wrap64 (x11_3 + 1)), (by first | rfl | (simp; done) | (simp [*]; done)), (by first | rfl | (simp; done) | (simp [*]; done)), H', ⟨by have := HJ5.out; have := HK2.out; have := HK3.out; have := HJ19.out; omega⟩, ⟨by (with_reducible repeat (first | apply Kd.S_alloc | apply Kd.S_drewN | apply Kd.S_drew)); exact HO_3.out⟩, ⟨by repeat (first | (with_reducible exact HR471_0.out) | (with_reducible refine Kd.C_alloc ?_ _) | (with_reducible refine Kd.C_drewN ?_ _) | (with_reducible refine Kd.C_drew ?_) | exact HR471_0.out)⟩, ⟨by repeat (first | (with_reducible first | exact HB.out | apply below_alloc | apply pw_below_drewN | apply below_drew1) | exact HB.out)⟩⟩
                                                  · rw [if_neg c44] at H
                                                    exact absurd H (by simp)
                                                · rw [if_neg c43] at H
                                                  exact absurd H (by simp)
                                              · rw [if_neg c42] at H
                                                exact absurd H (by simp)
                                            · rw [if_neg c41] at H
                                              exact absurd H (by simp)
                                          · rw [if_neg c39] at H
                                            have c39b0 : (x11_3 == (wrap64 (((rd_L1 t465 0).length : Int) - 1))) = false := beq_eq_false_iff_ne.mpr c39
                                            have c39b1 : (x11_3 != (wrap64 (((rd_L1 t465 0).length : Int) - 1))) = true := bne_iff_ne.mpr c39
                                            have H' := Aside0.mk H
                                            clear H
                                            go_wp2
                                            go_roundg kj19
                                            case measure => have := HJ5.out; have := HK2.out; have := HK3.out; have := HJ19.out; omega
                                            case rel => exact ⟨(wrap64 (x9_3 + 1)), (wrap64 (x11_3 + 1)), (by first | rfl | (simp; done) | (simp [*]; done)), (by first | rfl | (simp; done) | (simp [*]; done)), H', ⟨by have := HJ5.out; have := HK2.out; have := HK3.out; have := HJ19.out; omega⟩, ⟨by (with_reducible repeat (first | apply Kd.S_alloc | apply Kd.S_drewN | apply Kd.S_drew)); exact HO_3.out⟩, ⟨by repeat (first | (with_reducible exact HR471_0.out) | (with_reducible refine Kd.C_alloc ?_ _) | (with_reducible refine Kd.C_drewN ?_ _) | (with_reducible refine Kd.C_drew ?_) | exact HR471_0.out)⟩, ⟨by repeat (first | (with_reducible first | exact HB.out | apply below_alloc | apply pw_below_drewN | apply below_drew1) | exact HB.out)⟩⟩
                                      · rw [if_neg c31] at H
                                        have c31b0 : decide ((wrap64 (x10_2 + 1)) < (t465.length : Int)) = false := decide_eq_false c31
                                        clear c31
                                        have H' := Aside0.mk H
                                        clear H
                                        go_wp2
                                        go_roundg kj19
                                        case measure => have := HJ5.out; have := HK2.out; have := HK3.out; have := HJ19.out; omega
                                        case rel => exact ⟨(wrap64 (x9_3 + 1)), (wrap64 (x11_3 + 1)), (by first | rfl | (simp; done) | (simp [*]; done)), (by first | rfl | (simp; done) | (simp [*]; done)), H', ⟨by have := HJ5.out; have := HK2.out; have := HK3.out; have := HJ19.out; omega⟩, ⟨by (with_reducible repeat (first | apply Kd.S_alloc | apply Kd.S_drewN | apply Kd.S_drew)); exact HO_3.out⟩, ⟨by repeat (first | (with_reducible exact HR471_0.out) | (with_reducible refine Kd.C_alloc ?_ _) | (with_reducible refine Kd.C_drewN ?_ _) | (with_reducible refine Kd.C_drew ?_) | exact HR471_0.out)⟩, ⟨by repeat (first | (with_reducible first | exact HB.out | apply below_alloc | apply pw_below_drewN | apply below_drew1) | exact HB.out)⟩⟩
                                    · replace c30 := Bool.eq_false_iff.mpr c30
                                      subst c30
                                      have H1 : (if (wrap64 (x10_2 + 1)) < (t465.length : Int) then (if x11_3 = 0 then (if 0 ≤ (wrap64 (x10_2 + 1)) then (if (wrap64 (x10_2 + 1)) < (t465.length : Int) then (if 0 ≤ x11_3 then (if x11_3 < ((rd_L1 t465 (wrap64 (x10_2 + 1))).length : Int) then (if ((decide ((rd (rd_L1 t465 x10_2) x11_3) ≥ t466)) != (decide ((rd (rd_L1 t465 (wrap64 (x10_2 + 1))) x11_3) ≥ t466))) = true then (laws_FnContours.l1 kj19 t465 t466 t469 (t465.length : Int) ((rd_L1 t465 0).length : Int) (wrap64 (x9_3 + 1)) x10_2 (wrap64 (x11_3 + 1))) else (laws_FnContours.l1 kj19 t465 t466 t469 (t465.length : Int) ((rd_L1 t465 0).length : Int) x9_3 x10_2 (wrap64 (x11_3 + 1)))) else (none)) else (none)) else (none)) else (none)) else (if x11_3 = (wrap64 (((rd_L1 t465 0).length : Int) - 1)) then (if 0 ≤ (wrap64 (x10_2 + 1)) then (if (wrap64 (x10_2 + 1)) < (t465.length : Int) then (if 0 ≤ x11_3 then (if x11_3 < ((rd_L1 t465 (wrap64 (x10_2 + 1))).length : Int) then (if ((decide ((rd (rd_L1 t465 x10_2) x11_3) ≥ t466)) != (decide ((rd (rd_L1 t465 (wrap64 (x10_2 + 1))) x11_3) ≥ t466))) = true then (laws_FnContours.l1 kj19 t465 t466 t469 (t465.length : Int) ((rd_L1 t465 0).length : Int) (wrap64 (x9_3 + 1)) x10_2 (wrap64 (x11_3 + 1))) else (laws_FnContours.l1 kj19 t465 t466 t469 (t465.length : Int) ((rd_L1 t465 0).length : Int) x9_3 x10_2 (wrap64 (x11_3 + 1)))) else (none)) else (none)) else (none)) else (none)) else (laws_FnContours.l1 kj19 t465 t466 t469 (t465.length : Int) ((rd_L1 t465 0).length : Int) x9_3 x10_2 (wrap64 (x11_3 + 1))))) else (laws_FnContours.l1 kj19 t465 t466 t469 (t465.length : Int) ((rd_L1 t465 0).length : Int) x9_3 x10_2 (wrap64 (x11_3 + 1)))) = some r := by rw [if_neg (show ¬ (false = true) by decide)] at H; exact H
                                      clear H
                                      have H := H1
                                      clear H1
                                      by_cases c46 : (wrap64 (x10_2 + 1)) < (t465.length : Int)
                                      · rw [if_pos c46] at H
                                        have c46b0 : decide ((wrap64 (x10_2 + 1)) < (t465.length : Int)) = true := decide_eq_true c46
                                        clear c46
                                        by_cases c47 : x11_3 = 0
                                        · rw [if_pos c47] at H
                                          have c47b0 : (x11_3 == 0) = true := beq_iff_eq.mpr c47
                                          have c47b1 : (x11_3 != 0) = false := bne_eq_false_iff_eq.mpr c47
                                          clear c47
                                          obtain ⟨ji48, hji48⟩ : ∃ j_ : Int, (wrap64 (x10_2 + 1)) = j_ := ⟨_, rfl⟩
                                          replace H : (if 0 ≤ (ji48) then (if (ji48) < (t465.length : Int) then (if 0 ≤ x11_3 then (if x11_3 < ((rd_L1 t465 (ji48)).length : Int) then (if ((decide ((rd (rd_L1 t465 x10_2) x11_3) ≥ t466)) != (decide ((rd (rd_L1 t465 (ji48)) x11_3) ≥ t466))) = true then (laws_FnContours.l1 kj19 t465 t466 t469 (t465.length : Int) ((rd_L1 t465 0).length : Int) (wrap64 (x9_3 + 1)) x10_2 (wrap64 (x11_3 + 1))) else (laws_FnContours.l1 kj19 t465 t466 t469 (t465.length : Int) ((rd_L1 t465 0).length : Int) x9_3 x10_2 (wrap64 (x11_3 + 1)))) else (none)) else (none)) else (none)) else (none)) = some r := by first | (rw [hji48] at H; exact H) | (simp only [hji48] at H ⊢; exact H)
                                          (try rw [hji48] at c46b0)
                                          have hji48w : (IntKind.i64.wrap (x10_2 + 1)) = ji48 := (i64_w _).trans hji48
                                          by_cases c49 : 0 ≤ (ji48)
                                          · rw [if_pos c49] at H
                                            have c49b0 : decide (0 ≤ (ji48)) = true := decide_eq_true c49
                                            clear c49
                                            by_cases c50 : (ji48) < (t465.length : Int)
                                            · rw [if_pos c50] at H
                                              have c50b0 : decide ((ji48) < (t465.length : Int)) = true := decide_eq_true c50
                                              clear c50
                                              by_cases c51 : 0 ≤ x11_3
                                              · rw [if_pos c51] at H
                                                have c51b0 : decide (0 ≤ x11_3) = true := decide_eq_true c51
                                                clear c51
                                                by_cases c52 : x11_3 < ((rd_L1 t465 (ji48)).length : Int)
                                                · rw [if_pos c52] at H
                                                  have c52b0 : decide (x11_3 < ((rd_L1 t465 (ji48)).length : Int)) = true := decide_eq_true c52
                                                  clear c52
                                                  by_cases c53 : ((decide ((rd (rd_L1 t465 x10_2) x11_3) ≥ t466)) != (decide ((rd (rd_L1 t465 (ji48)) x11_3) ≥ t466))) = true
                                                  · rw [if_pos c53] at H
                                                    have c53b0 : ((decide ((rd (rd_L1 t465 x10_2) x11_3) ≥ t466)) != (decide ((rd (rd_L1 t465 (ji48)) x11_3) ≥ t466))) = true := c53
                                                    (try (have c53b1 : decide ((decide ((rd (rd_L1 t465 x10_2) x11_3) ≥ t466)) = (decide ((rd (rd_L1 t465 (ji48)) x11_3) ≥ t466))) = false := by simpa using c53))
                                                    (try (have c53b2 : ((decide ((rd (rd_L1 t465 x10_2) x11_3) ≥ t466)) == (decide ((rd (rd_L1 t465 (ji48)) x11_3) ≥ t466))) = false := by simpa using c53))
                                                    (try (have c53b3 : ¬ ((decide ((rd (rd_L1 t465 x10_2) x11_3) ≥ t466)) = (decide ((rd (rd_L1 t465 (ji48)) x11_3) ≥ t466))) := by simpa using c53))
                                                    clear c53
                                                    have H' := Aside0.mk H
                                                    clear H
                                                    have p483 : 0 ≤ ((ji48) : Int) := of_decide_eq_true (by first | (with_reducible assumption) | assumption)
                                                    have q483 : (ji48) < (t465.length : Int) := of_decide_eq_true (by first | (with_reducible assumption) | assumption)
                                                    obtain ⟨ad483, A483_0, c483_0, e483, hx483_0, hl483_0, hi483_0⟩ := at_L1 (Kd.S_reads' HO_3.out).2.2 (ji48) p483 q483
                                                    obtain rfl : ad471 = ad483 := (by injection e483)
                                                    obtain ⟨ce483, hce483, hMe483, hcc483⟩ := Kd.S_get HO_3.out [] (ji48) p483 (by first | exact q483 | exact of_decide_eq_true (by first | (with_reducible assumption) | assumption) | (have e_ := (Kd.S_reads' HO_3.out).1; omega))
                                                    obtain ⟨ve483_0, rfl, ge483_0⟩ := hMe483
                                                    have hv483_0 := hcc483 0 _ rfl
                                                    rw [Nat.add_zero, show ((Kd.slice 3 (Kd.int .i64))).sz = 1 from rfl, Nat.mul_one] at hv483_0
                                                    replace hv483_0 := Option.some.inj (hv483_0.symm.trans hx483_0)
                                                    rw [hv483_0] at ge483_0
                                                    have HL483_0 := Aside0.mk (show Kd.R (Kd.int .i64) 3 _ _ _ _ (rd_L1 t465 (ji48)) from ge483_0)
                                                    clear hv483_0 ge483_0
                                                    clear hcc483 hce483
                                                    have HR483_0 := Aside0.mk hi483_0
                                                    have HC483_0 := Aside0.mk hl483_0
                                                    clear hi483_0 hl483_0
                                                    replace p483 := eq_true p483
                                                    replace q483 := eq_true q483
                                                    have p484 : 0 ≤ (x11_3 : Int) := of_decide_eq_true (by first | (with_reducible assumption) | assumption)
                                                    have q484 : x11_3 < ((rd_L1 t465 (ji48)).length : Int) := of_decide_eq_true (by first | (with_reducible assumption) | assumption)
                                                    obtain ⟨ad484, e484, hx484_0⟩ := Kd.at_int (by repeat (first | (with_reducible exact HR483_0.out) | (with_reducible refine Kd.C_alloc ?_ _) | (with_reducible refine Kd.C_drewN ?_ _) | (with_reducible refine Kd.C_drew ?_) | exact HR483_0.out)) x11_3 p484 q484
                                                    cases e484
                                                    replace p484 := eq_true p484
                                                    replace q484 := eq_true q484
                                                    go_wp2
                                                    go_roundg kj19
                                                    case measure => have := HJ5.out; have := HK2.out; have := HK3.out; have := HJ19.out; omega
                                                    case rel => exact ⟨(wrap64 (x9_3 + 1)), (wrap64 (x11_3 + 1)), (by first | rfl | (simp; done) | (simp [*]; done)), (by first | rfl | (simp; done) | (simp [*]; done)), H', ⟨by have := HJ5.out; have := HK2.out; have := HK3.out; have := HJ19.out; omega⟩, ⟨by (with_reducible repeat (first | apply Kd.S_alloc | apply Kd.S_drewN | apply Kd.S_drew)); exact HO_3.out⟩, ⟨by repeat (first | (with_reducible exact HR471_0.out) | (with_reducible refine Kd.C_alloc ?_ _) | (with_reducible refine Kd.C_drewN ?_ _) | (with_reducible refine Kd.C_drew ?_) | exact HR471_0.out)⟩, ⟨by repeat (first | (with_reducible first | exact HB.out | apply below_alloc | apply pw_below_drewN | apply below_drew1) | exact HB.out)⟩⟩
                                                  · rw [if_neg c53] at H
                                                    have c53b0 : ((decide ((rd (rd_L1 t465 x10_2) x11_3) ≥ t466)) != (decide ((rd (rd_L1 t465 (ji48)) x11_3) ≥ t466))) = false := by simpa using c53
                                                    (try (have c53b1 : decide ((decide ((rd (rd_L1 t465 x10_2) x11_3) ≥ t466)) = (decide ((rd (rd_L1 t465 (ji48)) x11_3) ≥ t466))) = true := by simpa using c53))
                                                    (try (have c53b2 : ((decide ((rd (rd_L1 t465 x10_2) x11_3) ≥ t466)) == (decide ((rd (rd_L1 t465 (ji48)) x11_3) ≥ t466))) = true := by simpa using c53))
                                                    clear c53
                                                    have H' := Aside0.mk H
                                                    clear H
                                                    have p483 : 0 ≤ ((ji48) : Int) := of_decide_eq_true (by first | (with_reducible assumption) | assumption)
                                                    have q483 : (ji48) < (t465.length : Int) := of_decide_eq_true (by first | (with_reducible assumption) | assumption)
                                                    obtain ⟨ad483, A483_0, c483_0, e483, hx483_0, hl483_0, hi483_0⟩ := at_L1 (Kd.S_reads' HO_3.out).2.2 (ji48) p483 q483
                                                    obtain rfl : ad471 = ad483 := (by injection e483)
                                                    obtain ⟨ce483, hce483, hMe483, hcc483⟩ := Kd.S_get HO_3.out [] (ji48) p483 (by first | exact q483 | exact of_decide_eq_true (by first | (with_reducible assumption) | assumption) | (have e_ := (Kd.S_reads' HO_3.out).1; omega))
                                                    obtain ⟨ve483_0, rfl, ge483_0⟩ := hMe483
                                                    have hv483_0 := hcc483 0 _ rfl
                                                    rw [Nat.add_zero, show ((Kd.slice 3 (Kd.int .i64))).sz = 1 from rfl, Nat.mul_one] at hv483_0
                                                    replace hv483_0 := Option.some.inj (hv483_0.symm.trans hx483_0)
                                                    rw [hv483_0] at ge483_0
                                                    have HL483_0 := Aside0.mk (show Kd.R (Kd.int .i64) 3 _ _ _ _ (rd_L1 t465 (ji48)) from ge483_0)
                                                    clear hv483_0 ge483_0
                                                    clear hcc483 hce483
                                                    have HR483_0 := Aside0.mk hi483_0
                                                    have HC483_0 := Aside0.mk hl483_0
                                                    clear hi483_0 hl483_0
                                                    replace p483 := eq_true p483
                                                    replace q483 := eq_true q483
                                                    have p484 : 0 ≤ (x11_3 : Int) := of_decide_eq_true (by first | (with_reducible assumption) | assumption)
                                                    have q484 : x11_3 < ((rd_L1 t465 (ji48)).length : Int) := of_decide_eq_true (by first | (with_reducible assumption) | assumption)
                                                    obtain ⟨ad484, e484, hx484_0⟩ := Kd.at_int (by repeat (first | (with_reducible exact HR483_0.out) | (with_reducible refine Kd.C_alloc ?_ _) | (with_reducible refine Kd.C_drewN ?_ _) | (with_reducible refine Kd.C_drew ?_) | exact HR483_0.out)) x11_3 p484 q484
                                                    cases e484
                                                    replace p484 := eq_true p484
                                                    replace q484 := eq_true q484
                                                    go_wp2
                                                    go_roundg kj19
                                                    case measure => have := HJ5.out; have := HK2.out; have := HK3.out; have := HJ19.out; omega
                                                    case rel => exact ⟨(x9_3), (wrap64 (x11_3 + 1)), (by first | rfl | (simp; done) | (simp [*]; done)), (by first | rfl | (simp; done) | (simp [*]; done)), H', ⟨by have := HJ5.out; have := HK2.out; have := HK3.out; have := HJ19.out; omega⟩, ⟨by (with_reducible repeat (first | apply Kd.S_alloc | apply Kd.S_drewN | apply Kd.S_drew)); exact HO_3.out⟩, ⟨by repeat (first | (with_reducible exact HR471_0.out) | (with_reducible refine Kd.C_alloc ?_ _) | (with_reducible refine Kd.C_drewN ?_ _) | (with_reducible refine Kd.C_drew ?_) | exact HR471_0.out)⟩, ⟨by repeat (first | (with_reducible first | exact HB.out | apply below_alloc | apply pw_below_drewN | apply below_drew1) | exact HB.out)⟩⟩
                                                · rw [if_neg c52] at H
                                                  exact absurd H (by simp)
                                              · rw [if_neg c51] at H
                                                exact absurd H (by simp)
                                            · rw [if_neg c50] at H
                                              exact absurd H (by simp)
                                          · rw [if_neg c49] at H
                                            exact absurd H (by simp)
                                        · rw [if_neg c47] at H
                                          have c47b0 : (x11_3 == 0) = false := beq_eq_false_iff_ne.mpr c47
                                          have c47b1 : (x11_3 != 0) = true := bne_iff_ne.mpr c47
                                          by_cases c54 : x11_3 = (wrap64 (((rd_L1 t465 0).length : Int) - 1))
                                          · rw [if_pos c54] at H
                                            have c54b0 : (x11_3 == (wrap64 (((rd_L1 t465 0).length : Int) - 1))) = true := beq_iff_eq.mpr c54
                                            have c54b1 : (x11_3 != (wrap64 (((rd_L1 t465 0).length : Int) - 1))) = false := bne_eq_false_iff_eq.mpr c54
                                            clear c54
                                            obtain ⟨ji55, hji55⟩ : ∃ j_ : Int, (wrap64 (x10_2 + 1)) = j_ := ⟨_, rfl⟩
                                            replace H : (if 0 ≤ (ji55) then (if (ji55) < (t465.length : Int) then (if 0 ≤ x11_3 then (if x11_3 < ((rd_L1 t465 (ji55)).length : Int) then (if ((decide ((rd (rd_L1 t465 x10_2) x11_3) ≥ t466)) != (decide ((rd (rd_L1 t465 (ji55)) x11_3) ≥ t466))) = true then (laws_FnContours.l1 kj19 t465 t466 t469 (t465.length : Int) ((rd_L1 t465 0).length : Int) (wrap64 (x9_3 + 1)) x10_2 (wrap64 (x11_3 + 1))) else (laws_FnContours.l1 kj19 t465 t466 t469 (t465.length : Int) ((rd_L1 t465 0).length : Int) x9_3 x10_2 (wrap64 (x11_3 + 1)))) else (none)) else (none)) else (none)) else (none)) = some r := by first | (rw [hji55] at H; exact H) | (simp only [hji55] at H ⊢; exact H)
                                            (try rw [hji55] at c46b0)
                                            have hji55w : (IntKind.i64.wrap (x10_2 + 1)) = ji55 := (i64_w _).trans hji55
                                            by_cases c56 : 0 ≤ (ji55)
                                            · rw [if_pos c56] at H
                                              have c56b0 : decide (0 ≤ (ji55)) = true := decide_eq_true c56
                                              clear c56
                                              by_cases c57 : (ji55) < (t465.length : Int)
                                              · rw [if_pos c57] at H
                                                have c57b0 : decide ((ji55) < (t465.length : Int)) = true := decide_eq_true c57
                                                clear c57
                                                by_cases c58 : 0 ≤ x11_3
                                                · rw [if_pos c58] at H
                                                  have c58b0 : decide (0 ≤ x11_3) = true := decide_eq_true c58
                                                  clear c58
                                                  by_cases c59 : x11_3 < ((rd_L1 t465 (ji55)).length : Int)
                                                  · rw [if_pos c59] at H
                                                    have c59b0 : decide (x11_3 < ((rd_L1 t465 (ji55)).length : Int)) = true := decide_eq_true c59
                                                    clear c59
                                                    by_cases c60 : ((decide ((rd (rd_L1 t465 x10_2) x11_3) ≥ t466)) != (decide ((rd (rd_L1 t465 (ji55)) x11_3) ≥ t466))) = true
                                                    · rw [if_pos c60] at H
                                                      have c60b0 : ((decide ((rd (rd_L1 t465 x10_2) x11_3) ≥ t466)) != (decide ((rd (rd_L1 t465 (ji55)) x11_3) ≥ t466))) = true := c60
                                                      (try (have c60b1 : decide ((decide ((rd (rd_L1 t465 x10_2) x11_3) ≥ t466)) = (decide ((rd (rd_L1 t465 (ji55)) x11_3) ≥ t466))) = false := by simpa using c60))
                                                      (try (have c60b2 : ((decide ((rd (rd_L1 t465 x10_2) x11_3) ≥ t466)) == (decide ((rd (rd_L1 t465 (ji55)) x11_3) ≥ t466))) = false := by simpa using c60))
                                                      (try (have c60b3 : ¬ ((decide ((rd (rd_L1 t465 x10_2) x11_3) ≥ t466)) = (decide ((rd (rd_L1 t465 (ji55)) x11_3) ≥ t466))) := by simpa using c60))
                                                      clear c60
                                                      have H' := Aside0.mk H
                                                      clear H
                                                      have p485 : 0 ≤ ((ji55) : Int) := of_decide_eq_true (by first | (with_reducible assumption) | assumption)
                                                      have q485 : (ji55) < (t465.length : Int) := of_decide_eq_true (by first | (with_reducible assumption) | assumption)
                                                      obtain ⟨ad485, A485_0, c485_0, e485, hx485_0, hl485_0, hi485_0⟩ := at_L1 (Kd.S_reads' HO_3.out).2.2 (ji55) p485 q485
                                                      obtain rfl : ad471 = ad485 := (by injection e485)
                                                      obtain ⟨ce485, hce485, hMe485, hcc485⟩ := Kd.S_get HO_3.out [] (ji55) p485 (by first | exact q485 | exact of_decide_eq_true (by first | (with_reducible assumption) | assumption) | (have e_ := (Kd.S_reads' HO_3.out).1; omega))
                                                      obtain ⟨ve485_0, rfl, ge485_0⟩ := hMe485
                                                      have hv485_0 := hcc485 0 _ rfl
                                                      rw [Nat.add_zero, show ((Kd.slice 3 (Kd.int .i64))).sz = 1 from rfl, Nat.mul_one] at hv485_0
                                                      replace hv485_0 := Option.some.inj (hv485_0.symm.trans hx485_0)
                                                      rw [hv485_0] at ge485_0
                                                      have HL485_0 := Aside0.mk (show Kd.R (Kd.int .i64) 3 _ _ _ _ (rd_L1 t465 (ji55)) from ge485_0)
                                                      clear hv485_0 ge485_0
                                                      clear hcc485 hce485
                                                      have HR485_0 := Aside0.mk hi485_0
                                                      have HC485_0 := Aside0.mk hl485_0
                                                      clear hi485_0 hl485_0
                                                      replace p485 := eq_true p485
                                                      replace q485 := eq_true q485
                                                      have p486 : 0 ≤ (x11_3 : Int) := of_decide_eq_true (by first | (with_reducible assumption) | assumption)
                                                      have q486 : x11_3 < ((rd_L1 t465 (ji55)).length : Int) := of_decide_eq_true (by first | (with_reducible assumption) | assumption)
                                                      obtain ⟨ad486, e486, hx486_0⟩ := Kd.at_int (by repeat (first | (with_reducible exact HR485_0.out) | (with_reducible refine Kd.C_alloc ?_ _) | (with_reducible refine Kd.C_drewN ?_ _) | (with_reducible refine Kd.C_drew ?_) | exact HR485_0.out)) x11_3 p486 q486
                                                      cases e486
                                                      replace p486 := eq_true p486
                                                      replace q486 := eq_true q486
                                                      go_wp2
                                                      go_roundg kj19
                                                      case measure => have := HJ5.out; have := HK2.out; have := HK3.out; have := HJ19.out; omega
                                                      case rel => exact ⟨(wrap64 (x9_3 + 1)), (wrap64 (x11_3 + 1)), (by first | rfl | (simp; done) | (simp [*]; done)), (by first | rfl | (simp; done) | (simp [*]; done)), H', ⟨by have := HJ5.out; have := HK2.out; have := HK3.out; have := HJ19.out; omega⟩, ⟨by (with_reducible repeat (first | apply Kd.S_alloc | apply Kd.S_drewN | apply Kd.S_drew)); exact HO_3.out⟩, ⟨by repeat (first | (with_reducible exact HR471_0.out) | (with_reducible refine Kd.C_alloc ?_ _) | (with_reducible refine Kd.C_drewN ?_ _) | (with_reducible refine Kd.C_drew ?_) | exact HR471_0.out)⟩, ⟨by repeat (first | (with_reducible first | exact HB.out | apply below_alloc | apply pw_below_drewN | apply below_drew1) | exact HB.out)⟩⟩
                                                    · rw [if_neg c60] at H
                                                      have c60b0 : ((decide ((rd (rd_L1 t465 x10_2) x11_3) ≥ t466)) != (decide ((rd (rd_L1 t465 (ji55)) x11_3) ≥ t466))) = false := by simpa using c60
                                                      (try (have c60b1 : decide ((decide ((rd (rd_L1 t465 x10_2) x11_3) ≥ t466)) = (decide ((rd (rd_L1 t465 (ji55)) x11_3) ≥ t466))) = true := by simpa using c60))
                                                      (try (have c60b2 : ((decide ((rd (rd_L1 t465 x10_2) x11_3) ≥ t466)) == (decide ((rd (rd_L1 t465 (ji55)) x11_3) ≥ t466))) = true := by simpa using c60))
                                                      clear c60
                                                      have H' := Aside0.mk H
                                                      clear H
                                                      have p485 : 0 ≤ ((ji55) : Int) := of_decide_eq_true (by first | (with_reducible assumption) | assumption)
                                                      have q485 : (ji55) < (t465.length : Int) := of_decide_eq_true (by first | (with_reducible assumption) | assumption)
                                                      obtain ⟨ad485, A485_0, c485_0, e485, hx485_0, hl485_0, hi485_0⟩ := at_L1 (Kd.S_reads' HO_3.out).2.2 (ji55) p485 q485
                                                      obtain rfl : ad471 = ad485 := (by injection e485)
                                                      obtain ⟨ce485, hce485, hMe485, hcc485⟩ := Kd.S_get HO_3.out [] (ji55) p485 (by first | exact q485 | exact of_decide_eq_true (by first | (with_reducible assumption) | assumption) | (have e_ := (Kd.S_reads' HO_3.out).1; omega))
                                                      obtain ⟨ve485_0, rfl, ge485_0⟩ := hMe485
                                                      have hv485_0 := hcc485 0 _ rfl
                                                      rw [Nat.add_zero, show ((Kd.slice 3 (Kd.int .i64))).sz = 1 from rfl, Nat.mul_one] at hv485_0
                                                      replace hv485_0 := Option.some.inj (hv485_0.symm.trans hx485_0)
                                                      rw [hv485_0] at ge485_0
                                                      have HL485_0 := Aside0.mk (show Kd.R (Kd.int .i64) 3 _ _ _ _ (rd_L1 t465 (ji55)) from ge485_0)
                                                      clear hv485_0 ge485_0
                                                      clear hcc485 hce485
                                                      have HR485_0 := Aside0.mk hi485_0
                                                      have HC485_0 := Aside0.mk hl485_0
                                                      clear hi485_0 hl485_0
                                                      replace p485 := eq_true p485
                                                      replace q485 := eq_true q485
                                                      have p486 : 0 ≤ (x11_3 : Int) := of_decide_eq_true (by first | (with_reducible assumption) | assumption)
                                                      have q486 : x11_3 < ((rd_L1 t465 (ji55)).length : Int) := of_decide_eq_true (by first | (with_reducible assumption) | assumption)
                                                      obtain ⟨ad486, e486, hx486_0⟩ := Kd.at_int (by repeat (first | (with_reducible exact HR485_0.out) | (with_reducible refine Kd.C_alloc ?_ _) | (with_reducible refine Kd.C_drewN ?_ _) | (with_reducible refine Kd.C_drew ?_) | exact HR485_0.out)) x11_3 p486 q486
                                                      cases e486
                                                      replace p486 := eq_true p486
                                                      replace q486 := eq_true q486
                                                      go_wp2
                                                      go_roundg kj19
                                                      case measure => have := HJ5.out; have := HK2.out; have := HK3.out; have := HJ19.out; omega
                                                      case rel => exact ⟨(x9_3), (wrap64 (x11_3 + 1)), (by first | rfl | (simp; done) | (simp [*]; done)), (by first | rfl | (simp; done) | (simp [*]; done)), H', ⟨by have := HJ5.out; have := HK2.out; have := HK3.out; have := HJ19.out; omega⟩, ⟨by (with_reducible repeat (first | apply Kd.S_alloc | apply Kd.S_drewN | apply Kd.S_drew)); exact HO_3.out⟩, ⟨by repeat (first | (with_reducible exact HR471_0.out) | (with_reducible refine Kd.C_alloc ?_ _) | (with_reducible refine Kd.C_drewN ?_ _) | (with_reducible refine Kd.C_drew ?_) | exact HR471_0.out)⟩, ⟨by repeat (first | (with_reducible first | exact HB.out | apply below_alloc | apply pw_below_drewN | apply below_drew1) | exact HB.out)⟩⟩
                                                  · rw [if_neg c59] at H
                                                    exact absurd H (by simp)
                                                · rw [if_neg c58] at H
                                                  exact absurd H (by simp)
                                              · rw [if_neg c57] at H
                                                exact absurd H (by simp)
                                            · rw [if_neg c56] at H
                                              exact absurd H (by simp)
                                          · rw [if_neg c54] at H
                                            have c54b0 : (x11_3 == (wrap64 (((rd_L1 t465 0).length : Int) - 1))) = false := beq_eq_false_iff_ne.mpr c54
                                            have c54b1 : (x11_3 != (wrap64 (((rd_L1 t465 0).length : Int) - 1))) = true := bne_iff_ne.mpr c54
                                            have H' := Aside0.mk H
                                            clear H
                                            go_wp2
                                            go_roundg kj19
                                            case measure => have := HJ5.out; have := HK2.out; have := HK3.out; have := HJ19.out; omega
                                            case rel => exact ⟨(x9_3), (wrap64 (x11_3 + 1)), (by first | rfl | (simp; done) | (simp [*]; done)), (by first | rfl | (simp; done) | (simp [*]; done)), H', ⟨by have := HJ5.out; have := HK2.out; have := HK3.out; have := HJ19.out; omega⟩, ⟨by (with_reducible repeat (first | apply Kd.S_alloc | apply Kd.S_drewN | apply Kd.S_drew)); exact HO_3.out⟩, ⟨by repeat (first | (with_reducible exact HR471_0.out) | (with_reducible refine Kd.C_alloc ?_ _) | (with_reducible refine Kd.C_drewN ?_ _) | (with_reducible refine Kd.C_drew ?_) | exact HR471_0.out)⟩, ⟨by repeat (first | (with_reducible first | exact HB.out | apply below_alloc | apply pw_below_drewN | apply below_drew1) | exact HB.out)⟩⟩
                                      · rw [if_neg c46] at H
                                        have c46b0 : decide ((wrap64 (x10_2 + 1)) < (t465.length : Int)) = false := decide_eq_false c46
                                        clear c46
                                        have H' := Aside0.mk H
                                        clear H
                                        go_wp2
                                        go_roundg kj19
                                        case measure => have := HJ5.out; have := HK2.out; have := HK3.out; have := HJ19.out; omega
                                        case rel => exact ⟨(x9_3), (wrap64 (x11_3 + 1)), (by first | rfl | (simp; done) | (simp [*]; done)), (by first | rfl | (simp; done) | (simp [*]; done)), H', ⟨by have := HJ5.out; have := HK2.out; have := HK3.out; have := HJ19.out; omega⟩, ⟨by (with_reducible repeat (first | apply Kd.S_alloc | apply Kd.S_drewN | apply Kd.S_drew)); exact HO_3.out⟩, ⟨by repeat (first | (with_reducible exact HR471_0.out) | (with_reducible refine Kd.C_alloc ?_ _) | (with_reducible refine Kd.C_drewN ?_ _) | (with_reducible refine Kd.C_drew ?_) | exact HR471_0.out)⟩, ⟨by repeat (first | (with_reducible first | exact HB.out | apply below_alloc | apply pw_below_drewN | apply below_drew1) | exact HB.out)⟩⟩
                              · rw [if_neg c19] at H
                                exact absurd H (by simp)
                            · rw [if_neg c18] at H
                              exact absurd H (by simp)
                          · rw [if_neg c17] at H
                            exact absurd H (by simp)
                        · rw [if_neg c16] at H
                          exact absurd H (by simp)
                      · rw [if_neg c15] at H
                        have c15b0 : decide (x11_3 < ((rd_L1 t465 0).length : Int)) = false := decide_eq_false c15
                        clear c15
                        have H' := Aside0.mk H
                        clear H
                        go_wp2
                        go_roundg k3
                        case measure => have := HJ5.out; have := HK2.out; have := HK3.out; omega
                        case rel => exact ⟨(x9_3), (wrap64 (x10_2 + 1)), (by first | rfl | (simp; done) | (simp [*]; done)), (by first | rfl | (simp; done) | (simp [*]; done)), H', ⟨by have := HJ5.out; have := HK2.out; have := HK3.out; omega⟩, ⟨by (with_reducible repeat (first | apply Kd.S_alloc | apply Kd.S_drewN | apply Kd.S_drew)); exact HO_3.out⟩, ⟨by repeat (first | (with_reducible exact HR471_0.out) | (with_reducible refine Kd.C_alloc ?_ _) | (with_reducible refine Kd.C_drewN ?_ _) | (with_reducible refine Kd.C_drew ?_) | exact HR471_0.out)⟩, ⟨by repeat (first | (with_reducible first | exact HB.out | apply below_alloc | apply pw_below_drewN | apply below_drew1) | exact HB.out)⟩⟩
                · rw [if_neg c14] at H
                  have c14b0 : decide (x10_2 < (t465.length : Int)) = false := decide_eq_false c14
                  clear c14
                  replace H := Option.bind_eq_some_iff.mp H
                  obtain ⟨t472, A610, H⟩ := H
                  replace H : (if (wrap64 (2 * t469)) = (wrap64 ((wrap64 (2 * t472)) - x9_2)) then (some ((Int.tmod x9_2 2) == 0)) else (some false)) = some r := H
                  have A61 := Aside0.mk A610
                  clear A610
                  by_cases c62 : (wrap64 (2 * t469)) = (wrap64 ((wrap64 (2 * t472)) - x9_2))
                  · rw [if_pos c62] at H
                    have c62b0 : ((wrap64 (2 * t469)) == (wrap64 ((wrap64 (2 * t472)) - x9_2))) = true := beq_iff_eq.mpr c62
                    have c62b1 : ((wrap64 (2 * t469)) != (wrap64 ((wrap64 (2 * t472)) - x9_2))) = false := bne_eq_false_iff_eq.mpr c62
                    clear c62
                    obtain rfl := Option.some.inj H
                    go_wp2_with (first | ((with_reducible refine gate_callee (f := 25) rfl ?_); refine goesL_ (some 126) rfl rfl Try.func25 (by kernel_rfl) rfl #[.slice (some ad471) t465.length co8, .int .i64 t466] rfl (by (try simp only [List.map_toArray, List.map_cons, List.map_nil]); first | done | rfl | (simp only [List.length_drop, List.length_take]; rfl)) ?_; (with_reducible refine (impl_GridCuts.calls k2 _ _ t465 t466 t472 _ ?side1 ?side2 A61.out).mono ?_); (case side1 => repeat (first | exact (Kd.S_reads' HO_3.out).2.2 | (with_reducible refine Kd.C_alloc ?_ _) | (with_reducible refine Kd.C_drewN ?_ _) | (with_reducible refine Kd.C_drew ?_))); (case side2 => exact (Kd.S_reads' HO_3.out).2.1); rintro e w63 ⟨rfl, hb⟩; refine ⟨_, rfl, ?_⟩; have n0_ := Aside0.mk (Kd.S_below (by (with_reducible repeat (first | apply Kd.S_alloc | apply Kd.S_drewN | apply Kd.S_drew)); exact HO_3.out) hb); have n1_ := Aside0.mk (Kd.C_below (by repeat (first | (with_reducible exact HR471_0.out) | (with_reducible refine Kd.C_alloc ?_ _) | (with_reducible refine Kd.C_drewN ?_ _) | (with_reducible refine Kd.C_drew ?_) | exact HR471_0.out)) hb); have n2_ := Aside0.mk (below_step (by repeat (first | (with_reducible first | exact HB.out | apply below_alloc | apply pw_below_drewN | apply below_drew1) | exact HB.out)) hb); clear HO_3; clear HR471_0; clear HB; have HO_3 := n0_; have HR471_0 := n1_; have HB := n2_; clear n0_ n1_ n2_; (try clear hb); (try clear hb2); (try clear hk); (try clear hi)))
                    go_ret
                    exact ⟨by first | rfl | (simp [errW_none, errW_some] <;> rfl) | (simp [*, errW_none, errW_some] <;> rfl), by repeat (first | (with_reducible first | exact HB.out | apply below_alloc | apply pw_below_drewN | apply below_drew1) | exact HB.out)⟩
                  · rw [if_neg c62] at H
                    have c62b0 : ((wrap64 (2 * t469)) == (wrap64 ((wrap64 (2 * t472)) - x9_2))) = false := beq_eq_false_iff_ne.mpr c62
                    have c62b1 : ((wrap64 (2 * t469)) != (wrap64 ((wrap64 (2 * t472)) - x9_2))) = true := bne_iff_ne.mpr c62
                    obtain rfl := Option.some.inj H
                    go_wp2_with (first | ((with_reducible refine gate_callee (f := 25) rfl ?_); refine goesL_ (some 126) rfl rfl Try.func25 (by kernel_rfl) rfl #[.slice (some ad471) t465.length co8, .int .i64 t466] rfl (by (try simp only [List.map_toArray, List.map_cons, List.map_nil]); first | done | rfl | (simp only [List.length_drop, List.length_take]; rfl)) ?_; (with_reducible refine (impl_GridCuts.calls k2 _ _ t465 t466 t472 _ ?side1 ?side2 A61.out).mono ?_); (case side1 => repeat (first | exact (Kd.S_reads' HO_3.out).2.2 | (with_reducible refine Kd.C_alloc ?_ _) | (with_reducible refine Kd.C_drewN ?_ _) | (with_reducible refine Kd.C_drew ?_))); (case side2 => exact (Kd.S_reads' HO_3.out).2.1); rintro e w64 ⟨rfl, hb⟩; refine ⟨_, rfl, ?_⟩; have n0_ := Aside0.mk (Kd.S_below (by (with_reducible repeat (first | apply Kd.S_alloc | apply Kd.S_drewN | apply Kd.S_drew)); exact HO_3.out) hb); have n1_ := Aside0.mk (Kd.C_below (by repeat (first | (with_reducible exact HR471_0.out) | (with_reducible refine Kd.C_alloc ?_ _) | (with_reducible refine Kd.C_drewN ?_ _) | (with_reducible refine Kd.C_drew ?_) | exact HR471_0.out)) hb); have n2_ := Aside0.mk (below_step (by repeat (first | (with_reducible first | exact HB.out | apply below_alloc | apply pw_below_drewN | apply below_drew1) | exact HB.out)) hb); clear HO_3; clear HR471_0; clear HB; have HO_3 := n0_; have HR471_0 := n1_; have HB := n2_; clear n0_ n1_ n2_; (try clear hb); (try clear hb2); (try clear hk); (try clear hi)))
                    go_ret
                    exact ⟨by first | rfl | (simp [errW_none, errW_some] <;> rfl) | (simp [*, errW_none, errW_some] <;> rfl), by repeat (first | (with_reducible first | exact HB.out | apply below_alloc | apply pw_below_drewN | apply below_drew1) | exact HB.out)⟩
          · rw [if_neg c13] at H
            exact absurd H (by simp)

/-- THE ONE PURE STATEMENT of laws_FnContours: yours. -/
def laws_FnContours.Pure : Prop := ∀ (l0 : List Int), l0.length ≤ maxLen → l0.length * 1 ≤ 140737488351232 → (∀ x ∈ l0, (Lit.int .u8 x).wf = true) → ∃ k, laws_FnContours.f k l0 = some true
theorem laws_FnContours.walk (P : laws_FnContours.Pure) (a0 : Option Addr) (len0 cap0 : Nat) (z0 : List Int) (w : World) (w0 : (a0 = none ∧ len0 = 0 ∧ cap0 = 0 ∧ z0 = []) ∨ ∃ x, a0 = some x ∧ len0 ≤ cap0 ∧ cap0 ≤ maxLen ∧ z0.length = cap0 ∧ (∀ i, i < z0.length → w.cell? (x.add i) = some (.int .u8 (z0.getD i 0))) ∧ ∀ n ∈ z0, (Lit.int .u8 n).wf = true) (y0 : len0 * 1 ≤ 140737488351232) :
    Calls Try.prog 13 #[.slice a0 len0 cap0] w fun e w' => e = .returned (.bool true) ∧ Below w.heap.size w w' := by
  obtain ⟨l0, rfl, hr0, hm0, hw0, hc0⟩ := ReadsInt.ofRowC w0
  obtain ⟨k, h⟩ := P l0 hm0 y0 hw0
  refine (laws_FnContours.calls k _ _ l0 true w (Kd.C_of_reads (d := (0 : Int)) (h1 := fun _ => rfl) hr0) hc0 h).mono ?_
  rintro e w' ⟨rfl, hd⟩
  exact ⟨rfl, hd⟩

end Go.Proofs.Ytkhemhmdapggmaa.P

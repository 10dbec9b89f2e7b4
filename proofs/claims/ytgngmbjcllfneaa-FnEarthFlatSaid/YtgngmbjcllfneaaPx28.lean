-- Written by a program of this session (wip/xprint.py over the print's own program), not by print.sh. Lean checks it.
import Derived.Test.YtgngmbjcllfneaaPx0
import Derived.Test.YtgngmbjcllfneaaPx12
import Derived.Test.YtgngmbjcllfneaaPx17
import Derived.Test.YtgngmbjcllfneaaPx18
import Derived.Test.YtgngmbjcllfneaaPx27
namespace Go.Proofs.Ytgngmbjcllfneaa.P
open Go.RowKit Go.Proofs.YtgngmbjcllfneaaW.PrintWords Go.Proofs.YtgngmbjcllfneaaW.PrintLast Go.Proofs.YtgngmbjcllfneaaW.PrintMore
attribute [local go_sem] max2_int min2_int max_two min_two max_three min_three max_four min_four   -- for this text's walks alone
set_option linter.unusedVariables false
set_option linter.unusedSimpArgs false

/-! ### laws_FnEarthFlat: function 10 -/
mutual
def laws_FnEarthFlat.j0 : Nat → List Int → List Int → Bool → Option (Bool)
  | 0, _, _, _ => none
  | k + 1, x0, x1, x23 => if x23 = true then (some true) else ((spec_DrawEarthFlat.f k x0).bind fun t340 => ((impl_EarthFlat.f k t340).bind fun bt343 => ((spec_EarthFlat.f k t340).bind fun bt345 => (if (bt343.2 != bt345.2) = true then (laws_FnEarthFlat.j1 k x1 t340 bt343.1 bt343.2 bt345.1 bt345.2 true) else (if bt343.1 = bt345.1 then (laws_FnEarthFlat.j1 k x1 t340 bt343.1 bt343.2 bt345.1 bt345.2 (!bt343.2)) else (laws_FnEarthFlat.j1 k x1 t340 bt343.1 bt343.2 bt345.1 bt345.2 true))))))
def laws_FnEarthFlat.j1 : Nat → List Int → List (List Int) → Int → Bool → Int → Bool → Bool → Option (Bool)
  | 0, _, _, _, _, _, _, _ => none
  | k + 1, x1, x5, x6, x7, x8, x9, x47 => if x47 = true then (if (x7 == x9) = true then (some (x6 == x8)) else (some false)) else (laws_FnEarthFlat.l0 k x1 x5 x6 0 0 0)
def laws_FnEarthFlat.l0 : Nat → List Int → List (List Int) → Int → Int → Int → Int → Option (Bool)
  | 0, _, _, _, _, _, _ => none
  | k + 1, x1, x5, x6, x10, x11, x12 => if x12 < (x5.length : Int) then (laws_FnEarthFlat.l1 k x1 x5 x6 x10 x11 x12 0) else (if 0 < (x5.length : Int) then ((impl_EarthMove.f k x5 x6).bind fun t348 => ((impl_EarthMove.f k x5 ((x1.length : Int) % 25)).bind fun t349 => (if t348 ≤ t349 then (if (wrap64 (2 * x10)) ≤ (wrap64 ((x5.length : Int) * ((rd_L1 x5 0).length : Int))) then (some (decide ((wrap64 (2 * x11)) ≤ (wrap64 ((x5.length : Int) * ((rd_L1 x5 0).length : Int)))))) else (some false)) else (some false)))) else (none))
def laws_FnEarthFlat.l1 : Nat → List Int → List (List Int) → Int → Int → Int → Int → Int → Option (Bool)
  | 0, _, _, _, _, _, _, _ => none
  | k + 1, x1, x5, x6, x10, x11, x12, x13 => if 0 ≤ x12 then (if x12 < (x5.length : Int) then (if x13 < ((rd_L1 x5 x12).length : Int) then (if 0 ≤ x13 then (if (rd (rd_L1 x5 x12) x13) < x6 then (if (rd (rd_L1 x5 x12) x13) > x6 then (laws_FnEarthFlat.l1 k x1 x5 x6 (wrap64 (x10 + 1)) (wrap64 (x11 + 1)) x12 (wrap64 (x13 + 1))) else (laws_FnEarthFlat.l1 k x1 x5 x6 (wrap64 (x10 + 1)) x11 x12 (wrap64 (x13 + 1)))) else (if (rd (rd_L1 x5 x12) x13) > x6 then (laws_FnEarthFlat.l1 k x1 x5 x6 x10 (wrap64 (x11 + 1)) x12 (wrap64 (x13 + 1))) else (laws_FnEarthFlat.l1 k x1 x5 x6 x10 x11 x12 (wrap64 (x13 + 1))))) else (none)) else (laws_FnEarthFlat.l0 k x1 x5 x6 x10 x11 (wrap64 (x12 + 1)))) else (none)) else (none)
end
def laws_FnEarthFlat.f (k : Nat) (l0 : List Int) (l1 : List Int) : Option (Bool) := if (l0.length : Int) > 1048576 then (laws_FnEarthFlat.j0 k l0 l1 true) else (laws_FnEarthFlat.j0 k l0 l1 (decide ((l1.length : Int) > 1048576)))
theorem laws_FnEarthFlat.mono_l : ∀ k, (∀ y0 y1 y2, LeO (laws_FnEarthFlat.j0 k y0 y1 y2) (laws_FnEarthFlat.j0 (k + 1) y0 y1 y2)) ∧ (∀ y0 y1 y2 y3 y4 y5 y6, LeO (laws_FnEarthFlat.j1 k y0 y1 y2 y3 y4 y5 y6) (laws_FnEarthFlat.j1 (k + 1) y0 y1 y2 y3 y4 y5 y6)) ∧ (∀ y0 y1 y2 y3 y4 y5, LeO (laws_FnEarthFlat.l0 k y0 y1 y2 y3 y4 y5) (laws_FnEarthFlat.l0 (k + 1) y0 y1 y2 y3 y4 y5)) ∧ (∀ y0 y1 y2 y3 y4 y5 y6, LeO (laws_FnEarthFlat.l1 k y0 y1 y2 y3 y4 y5 y6) (laws_FnEarthFlat.l1 (k + 1) y0 y1 y2 y3 y4 y5 y6))
  | 0 => ⟨fun _ _ _ r h => by simp [laws_FnEarthFlat.j0] at h, fun _ _ _ _ _ _ _ r h => by simp [laws_FnEarthFlat.j1] at h, fun _ _ _ _ _ _ r h => by simp [laws_FnEarthFlat.l0] at h, fun _ _ _ _ _ _ _ r h => by simp [laws_FnEarthFlat.l1] at h⟩
  | k + 1 => by
    obtain ⟨ih0, ih1, ih2, ih3⟩ := laws_FnEarthFlat.mono_l k
    refine ⟨?_, ?_, ?_, ?_⟩
    · intro y0 y1 y2
      unfold laws_FnEarthFlat.j0
      repeat' first
      | (with_reducible exact ih0 _ _ _)
      | (with_reducible exact ih1 _ _ _ _ _ _ _)
      | (with_reducible exact ih2 _ _ _ _ _ _)
      | (with_reducible exact ih3 _ _ _ _ _ _ _)
      | (with_reducible exact impl_EarthFlat.mono _ _)
      | (with_reducible exact impl_EarthMove.mono _ _ _)
      | (with_reducible exact spec_DrawEarthFlat.mono _ _)
      | (with_reducible exact spec_EarthFlat.mono _ _)
      | (with_reducible exact LeO.refl _)
      | (with_reducible exact LeO.none _)
      | (with_reducible refine LeO.ite ?_ ?_)
      | (with_reducible refine LeO.bind ?_ (fun _ => ?_))
      | exact ih0 _ _ _
      | exact ih1 _ _ _ _ _ _ _
      | exact ih2 _ _ _ _ _ _
      | exact ih3 _ _ _ _ _ _ _
      | exact impl_EarthFlat.mono _ _
      | exact impl_EarthMove.mono _ _ _
      | exact spec_DrawEarthFlat.mono _ _
      | exact spec_EarthFlat.mono _ _
      | exact LeO.none _
      | refine LeO.ite ?_ ?_
      | refine LeO.bind ?_ (fun _ => ?_)
    · intro y0 y1 y2 y3 y4 y5 y6
      unfold laws_FnEarthFlat.j1
      repeat' first
      | (with_reducible exact ih0 _ _ _)
      | (with_reducible exact ih1 _ _ _ _ _ _ _)
      | (with_reducible exact ih2 _ _ _ _ _ _)
      | (with_reducible exact ih3 _ _ _ _ _ _ _)
      | (with_reducible exact impl_EarthFlat.mono _ _)
      | (with_reducible exact impl_EarthMove.mono _ _ _)
      | (with_reducible exact spec_DrawEarthFlat.mono _ _)
      | (with_reducible exact spec_EarthFlat.mono _ _)
      | (with_reducible exact LeO.refl _)
      | (with_reducible exact LeO.none _)
      | (with_reducible refine LeO.ite ?_ ?_)
      | (with_reducible refine LeO.bind ?_ (fun _ => ?_))
      | exact ih0 _ _ _
      | exact ih1 _ _ _ _ _ _ _
      | exact ih2 _ _ _ _ _ _
      | exact ih3 _ _ _ _ _ _ _
      | exact impl_EarthFlat.mono _ _
      | exact impl_EarthMove.mono _ _ _
      | exact spec_DrawEarthFlat.mono _ _
      | exact spec_EarthFlat.mono _ _
      | exact LeO.none _
      | refine LeO.ite ?_ ?_
      | refine LeO.bind ?_ (fun _ => ?_)
    · intro y0 y1 y2 y3 y4 y5
      unfold laws_FnEarthFlat.l0
      repeat' first
      | (with_reducible exact ih0 _ _ _)
      | (with_reducible exact ih1 _ _ _ _ _ _ _)
      | (with_reducible exact ih2 _ _ _ _ _ _)
      | (with_reducible exact ih3 _ _ _ _ _ _ _)
      | (with_reducible exact impl_EarthFlat.mono _ _)
      | (with_reducible exact impl_EarthMove.mono _ _ _)
      | (with_reducible exact spec_DrawEarthFlat.mono _ _)
      | (with_reducible exact spec_EarthFlat.mono _ _)
      | (with_reducible exact LeO.refl _)
      | (with_reducible exact LeO.none _)
      | (with_reducible refine LeO.ite ?_ ?_)
      | (with_reducible refine LeO.bind ?_ (fun _ => ?_))
      | exact ih0 _ _ _
      | exact ih1 _ _ _ _ _ _ _
      | exact ih2 _ _ _ _ _ _
      | exact ih3 _ _ _ _ _ _ _
      | exact impl_EarthFlat.mono _ _
      | exact impl_EarthMove.mono _ _ _
      | exact spec_DrawEarthFlat.mono _ _
      | exact spec_EarthFlat.mono _ _
      | exact LeO.none _
      | refine LeO.ite ?_ ?_
      | refine LeO.bind ?_ (fun _ => ?_)
    · intro y0 y1 y2 y3 y4 y5 y6
      unfold laws_FnEarthFlat.l1
      repeat' first
      | (with_reducible exact ih0 _ _ _)
      | (with_reducible exact ih1 _ _ _ _ _ _ _)
      | (with_reducible exact ih2 _ _ _ _ _ _)
      | (with_reducible exact ih3 _ _ _ _ _ _ _)
      | (with_reducible exact impl_EarthFlat.mono _ _)
      | (with_reducible exact impl_EarthMove.mono _ _ _)
      | (with_reducible exact spec_DrawEarthFlat.mono _ _)
      | (with_reducible exact spec_EarthFlat.mono _ _)
      | (with_reducible exact LeO.refl _)
      | (with_reducible exact LeO.none _)
      | (with_reducible refine LeO.ite ?_ ?_)
      | (with_reducible refine LeO.bind ?_ (fun _ => ?_))
      | exact ih0 _ _ _
      | exact ih1 _ _ _ _ _ _ _
      | exact ih2 _ _ _ _ _ _
      | exact ih3 _ _ _ _ _ _ _
      | exact impl_EarthFlat.mono _ _
      | exact impl_EarthMove.mono _ _ _
      | exact spec_DrawEarthFlat.mono _ _
      | exact spec_EarthFlat.mono _ _
      | exact LeO.none _
      | refine LeO.ite ?_ ?_
      | refine LeO.bind ?_ (fun _ => ?_)
theorem laws_FnEarthFlat.mono : ∀ a0 a1 k, LeO (laws_FnEarthFlat.f k a0 a1) (laws_FnEarthFlat.f (k + 1) a0 a1) := by
  intro a0 a1 k
  obtain ⟨ih0, ih1, ih2, ih3⟩ := laws_FnEarthFlat.mono_l k
  unfold laws_FnEarthFlat.f
  repeat' first
      | (with_reducible exact ih0 _ _ _)
      | (with_reducible exact ih1 _ _ _ _ _ _ _)
      | (with_reducible exact ih2 _ _ _ _ _ _)
      | (with_reducible exact ih3 _ _ _ _ _ _ _)
      | (with_reducible exact impl_EarthFlat.mono _ _)
      | (with_reducible exact impl_EarthMove.mono _ _ _)
      | (with_reducible exact spec_DrawEarthFlat.mono _ _)
      | (with_reducible exact spec_EarthFlat.mono _ _)
      | (with_reducible exact LeO.refl _)
      | (with_reducible exact LeO.none _)
      | (with_reducible refine LeO.ite ?_ ?_)
      | (with_reducible refine LeO.bind ?_ (fun _ => ?_))
      | exact ih0 _ _ _
      | exact ih1 _ _ _ _ _ _ _
      | exact ih2 _ _ _ _ _ _
      | exact ih3 _ _ _ _ _ _ _
      | exact impl_EarthFlat.mono _ _
      | exact impl_EarthMove.mono _ _ _
      | exact spec_DrawEarthFlat.mono _ _
      | exact spec_EarthFlat.mono _ _
      | exact LeO.none _
      | refine LeO.ite ?_ ?_
      | refine LeO.bind ?_ (fun _ => ?_)
set_option maxHeartbeats 8000000 in
set_option maxRecDepth 100000 in
theorem laws_FnEarthFlat.calls (k : Nat) (A0 : Option Addr) (c0 : Nat) (l0 : List Int) (A1 : Option Addr) (c1 : Nat) (l1 : List Int) (r : Bool) (w : World) (hr0 : Kd.C (Kd.int .u8) w A0 l0.length l0) (hc0 : l0.length ≤ c0) (hr1 : Kd.C (Kd.int .u8) w A1 l1.length l1) (hc1 : l1.length ≤ c1) (h : laws_FnEarthFlat.f k l0 l1 = some r) :
    Calls Try.prog 10 #[.slice A0 l0.length c0, .slice A1 l1.length c1] w fun e w' => e = .returned (.bool r) ∧ Below w.heap.size w w' := by
  have HR0 := Aside0.mk hr0
  have HC0 := Aside0.mk hc0
  clear hr0 hc0
  have HR1 := Aside0.mk hr1
  have HC1 := Aside0.mk hc1
  clear hr1 hc1
  have HB := Aside0.mk (Below.refl w.heap.size w)
  have H : (if (l0.length : Int) > 1048576 then (laws_FnEarthFlat.j0 k l0 l1 true) else (laws_FnEarthFlat.j0 k l0 l1 (decide ((l1.length : Int) > 1048576)))) = some r := h
  clear h
  have HC3 := Aside0.mk H
  clear H
  go_enter Try.func10, Try.ntmps10
  go_upto_region 1 with (fail)
  go_cut [23] (fun v23 wc => ∃ (kq : Nat) (x23_2 : Bool), v23 = .bool x23_2 ∧ Aside0 (laws_FnEarthFlat.j0 kq l0 l1 x23_2 = some r) ∧ Aside0 (kq ≤ k) ∧ Aside0 (Below w.heap.size w wc))
  case first =>
    have H := HC3.out
    clear HC3
    by_cases c4 : (l0.length : Int) > 1048576
    · rw [if_pos c4] at H
      have c4b0 : decide (1048576 < (l0.length : Int)) = true := decide_eq_true c4
      have c4b1 : decide (1048576 < l0.length) = true := decide_eq_true (by omega)
      clear c4
      (first | rw [c4b0] | (simp only [i64_w, i32_w]; rw [c4b0]) | skip)
      have H' := Aside0.mk H
      clear H
      go_wp2
      go_meet
      case rel => exact ⟨_, (true), (by first | rfl | (simp; done) | (simp [*]; done)), H', ⟨by first | omega | exact Nat.le_refl _⟩, ⟨by repeat (first | (with_reducible first | exact HB.out | apply below_alloc | apply pw_below_drewN | apply below_drew1) | exact HB.out)⟩⟩
    · rw [if_neg c4] at H
      have c4b0 : decide (1048576 < (l0.length : Int)) = false := decide_eq_false c4
      have c4b1 : decide (1048576 < l0.length) = false := decide_eq_false (by omega)
      clear c4
      (first | rw [c4b0] | (simp only [i64_w, i32_w]; rw [c4b0]) | skip)
      have H' := Aside0.mk H
      clear H
      go_wp2
      go_meet
      case rel => exact ⟨_, (decide ((l1.length : Int) > 1048576)), (by first | rfl | (simp; done) | (simp [*]; done)), H', ⟨by first | omega | exact Nat.le_refl _⟩, ⟨by repeat (first | (with_reducible first | exact HB.out | apply below_alloc | apply pw_below_drewN | apply below_drew1) | exact HB.out)⟩⟩
  case rest =>
    clear HC3
    try clear c1
    try clear p2
    try clear c4
    try clear c4b0
    try clear c4b1
    obtain ⟨kq, x23_2, rfl, HA, HJ2, HB⟩ := hcut
    cases kq with
    | zero => exact absurd HA.out (by simp [laws_FnEarthFlat.j0])
    | succ kj2 =>
      have H := HA.out
      clear HA
      simp only [laws_FnEarthFlat.j0] at H
      by_cases c5 : x23_2 = true
      · subst c5
        have H1 : (some true) = some r := by rw [if_pos rfl] at H; exact H
        clear H
        have H := H1
        clear H1
        obtain rfl := Option.some.inj H
        go_wp2
        go_ret
        exact ⟨by first | rfl | (simp [errW_none, errW_some] <;> rfl) | (simp [*, errW_none, errW_some] <;> rfl), by repeat (first | (with_reducible first | exact HB.out | apply below_alloc | apply pw_below_drewN | apply below_drew1) | exact HB.out)⟩
      · replace c5 := Bool.eq_false_iff.mpr c5
        subst c5
        have H1 : ((spec_DrawEarthFlat.f kj2 l0).bind fun t340 => ((impl_EarthFlat.f kj2 t340).bind fun bt343 => ((spec_EarthFlat.f kj2 t340).bind fun bt345 => (if (bt343.2 != bt345.2) = true then (laws_FnEarthFlat.j1 kj2 l1 t340 bt343.1 bt343.2 bt345.1 bt345.2 true) else (if bt343.1 = bt345.1 then (laws_FnEarthFlat.j1 kj2 l1 t340 bt343.1 bt343.2 bt345.1 bt345.2 (!bt343.2)) else (laws_FnEarthFlat.j1 kj2 l1 t340 bt343.1 bt343.2 bt345.1 bt345.2 true)))))) = some r := by rw [if_neg (show ¬ (false = true) by decide)] at H; exact H
        clear H
        have H := H1
        clear H1
        replace H := Option.bind_eq_some_iff.mp H
        obtain ⟨t340, A60, H⟩ := H
        replace H : ((impl_EarthFlat.f kj2 t340).bind fun bt343 => ((spec_EarthFlat.f kj2 t340).bind fun bt345 => (if (bt343.2 != bt345.2) = true then (laws_FnEarthFlat.j1 kj2 l1 t340 bt343.1 bt343.2 bt345.1 bt345.2 true) else (if bt343.1 = bt345.1 then (laws_FnEarthFlat.j1 kj2 l1 t340 bt343.1 bt343.2 bt345.1 bt345.2 (!bt343.2)) else (laws_FnEarthFlat.j1 kj2 l1 t340 bt343.1 bt343.2 bt345.1 bt345.2 true))))) = some r := H
        have A6 := Aside0.mk A60
        clear A60
        replace H := Option.bind_eq_some_iff.mp H
        obtain ⟨⟨t343, t344⟩, A70, H⟩ := H
        replace H : ((spec_EarthFlat.f kj2 t340).bind fun bt345 => (if (t344 != bt345.2) = true then (laws_FnEarthFlat.j1 kj2 l1 t340 t343 t344 bt345.1 bt345.2 true) else (if t343 = bt345.1 then (laws_FnEarthFlat.j1 kj2 l1 t340 t343 t344 bt345.1 bt345.2 (!t344)) else (laws_FnEarthFlat.j1 kj2 l1 t340 t343 t344 bt345.1 bt345.2 true)))) = some r := H
        have A7 := Aside0.mk A70
        clear A70
        replace H := Option.bind_eq_some_iff.mp H
        obtain ⟨⟨t345, t346⟩, A80, H⟩ := H
        replace H : (if (t344 != t346) = true then (laws_FnEarthFlat.j1 kj2 l1 t340 t343 t344 t345 t346 true) else (if t343 = t345 then (laws_FnEarthFlat.j1 kj2 l1 t340 t343 t344 t345 t346 (!t344)) else (laws_FnEarthFlat.j1 kj2 l1 t340 t343 t344 t345 t346 true))) = some r := H
        have A8 := Aside0.mk A80
        clear A80
        have HC9 := Aside0.mk H
        clear H
        go_upto_region 6 with (first | ((with_reducible refine gate_callee (f := 30) rfl ?_); refine goesL_ (some 25) rfl rfl Try.func30 (by kernel_rfl) rfl #[.slice A0 l0.length c0] rfl (by (try simp only [List.map_toArray, List.map_cons, List.map_nil]); first | done | rfl | (simp only [List.length_drop, List.length_take]; rfl)) ?_; (with_reducible refine (spec_DrawEarthFlat.calls kj2 _ _ l0 t340 _ ?side1 ?side2 A6.out).mono ?_); (case side1 => repeat (first | exact (Kd.C_below HR0.out HB.out) | (with_reducible refine Kd.C_alloc ?_ _) | (with_reducible refine Kd.C_drewN ?_ _) | (with_reducible refine Kd.C_drew ?_))); (case side2 => exact HC0.out); rintro e w10 ⟨v341, rfl, ho0, hb⟩; refine ⟨_, rfl, ?_⟩; have n0_ := Aside0.mk (Kd.S_lower ho0 (below_size (by repeat (first | (with_reducible first | exact HB.out | apply below_alloc | apply pw_below_drewN | apply below_drew1) | exact HB.out)))); have n1_ := Aside0.mk (below_step (by repeat (first | (with_reducible first | exact HB.out | apply below_alloc | apply pw_below_drewN | apply below_drew1) | exact HB.out)) hb); clear HB; have HO342 := n0_; have HB := n1_; clear n0_ n1_; (try clear hb); (try clear hb2); (try clear hk); (try clear hi); (try clear ho0); obtain ⟨Ao11, co11, eo11⟩ := Kd.S_slice HO342.out; subst eo11) | ((with_reducible refine gate_callee (f := 26) rfl ?_); refine goesL_ (some 28) rfl rfl Try.func26 (by kernel_rfl) rfl #[.slice Ao11 t340.length co11] rfl (by (try simp only [List.map_toArray, List.map_cons, List.map_nil]); first | done | rfl | (simp only [List.length_drop, List.length_take]; rfl)) ?_; (with_reducible refine (impl_EarthFlat.calls kj2 _ _ t340 t343 t344 _ ?side1 ?side2 A7.out).mono ?_); (case side1 => repeat (first | exact (Kd.S_reads' HO342.out).2.2 | (with_reducible refine Kd.C_alloc ?_ _) | (with_reducible refine Kd.C_drewN ?_ _) | (with_reducible refine Kd.C_drew ?_))); (case side2 => exact (Kd.S_reads' HO342.out).2.1); rintro e w12 ⟨rfl, hb⟩; refine ⟨_, rfl, ?_⟩; have n0_ := Aside0.mk (Kd.S_below (by (with_reducible repeat (first | apply Kd.S_alloc | apply Kd.S_drewN | apply Kd.S_drew)); exact HO342.out) hb); have n1_ := Aside0.mk (below_step (by repeat (first | (with_reducible first | exact HB.out | apply below_alloc | apply pw_below_drewN | apply below_drew1) | exact HB.out)) hb); clear HO342; clear HB; have HO342 := n0_; have HB := n1_; clear n0_ n1_; (try clear hb); (try clear hb2); (try clear hk); (try clear hi)) | ((with_reducible refine gate_callee (f := 25) rfl ?_); refine goesL_ (some 33) rfl rfl Try.func25 (by kernel_rfl) rfl #[.slice Ao11 t340.length co11] rfl (by (try simp only [List.map_toArray, List.map_cons, List.map_nil]); first | done | rfl | (simp only [List.length_drop, List.length_take]; rfl)) ?_; (with_reducible refine (spec_EarthFlat.calls kj2 _ _ t340 t345 t346 _ ?side1 ?side2 A8.out).mono ?_); (case side1 => repeat (first | exact (Kd.S_reads' HO342.out).2.2 | (with_reducible refine Kd.C_alloc ?_ _) | (with_reducible refine Kd.C_drewN ?_ _) | (with_reducible refine Kd.C_drew ?_))); (case side2 => exact (Kd.S_reads' HO342.out).2.1); rintro e w13 ⟨rfl, hb⟩; refine ⟨_, rfl, ?_⟩; have n0_ := Aside0.mk (Kd.S_below (by (with_reducible repeat (first | apply Kd.S_alloc | apply Kd.S_drewN | apply Kd.S_drew)); exact HO342.out) hb); have n1_ := Aside0.mk (below_step (by repeat (first | (with_reducible first | exact HB.out | apply below_alloc | apply pw_below_drewN | apply below_drew1) | exact HB.out)) hb); clear HO342; clear HB; have HO342 := n0_; have HB := n1_; clear n0_ n1_; (try clear hb); (try clear hb2); (try clear hk); (try clear hi)))
        (try simp only [Act.put, List.setIfInBounds_toArray, List.set_cons_zero, List.set_cons_succ])
        go_cut [47] (fun v47 wc => ∃ (kq : Nat) (x47_8 : Bool), v47 = .bool x47_8 ∧ Aside0 (laws_FnEarthFlat.j1 kq l1 t340 t343 t344 t345 t346 x47_8 = some r) ∧ Aside0 (kq ≤ kj2) ∧ Aside0 (Kd.S (Kd.slice 3 (Kd.int .i64)) 33 wc w.heap.size (fun _ => True) (.slice Ao11 t340.length co11) t340) ∧ Aside0 (Below w.heap.size w wc))
        case first =>
          have H := HC9.out
          clear HC9
          by_cases c14 : (t344 != t346) = true
          · rw [if_pos c14] at H
            have c14b0 : (t344 != t346) = true := c14
            (try (have c14b1 : decide (t344 = t346) = false := by simpa using c14))
            (try (have c14b2 : (t344 == t346) = false := by simpa using c14))
            (try (have c14b3 : ¬ (t344 = t346) := by simpa using c14))
            clear c14
            (first | rw [c14b0] | (simp only [i64_w, i32_w]; rw [c14b0]) | skip)
            have H' := Aside0.mk H
            clear H
            go_wp2
            go_meet
            case rel => exact ⟨_, (true), (by first | rfl | (simp; done) | (simp [*]; done)), H', ⟨by have := HJ2.out; first | omega | exact Nat.le_refl _⟩, ⟨by (with_reducible repeat (first | apply Kd.S_alloc | apply Kd.S_drewN | apply Kd.S_drew)); exact HO342.out⟩, ⟨by repeat (first | (with_reducible first | exact HB.out | apply below_alloc | apply pw_below_drewN | apply below_drew1) | exact HB.out)⟩⟩
          · rw [if_neg c14] at H
            have c14b0 : (t344 != t346) = false := by simpa using c14
            (try (have c14b1 : decide (t344 = t346) = true := by simpa using c14))
            (try (have c14b2 : (t344 == t346) = true := by simpa using c14))
            clear c14
            (first | rw [c14b0] | (simp only [i64_w, i32_w]; rw [c14b0]) | skip)
            by_cases c15 : t343 = t345
            · rw [if_pos c15] at H
              have c15b0 : (t343 == t345) = true := beq_iff_eq.mpr c15
              have c15b1 : (t343 != t345) = false := bne_eq_false_iff_eq.mpr c15
              clear c15
              have H' := Aside0.mk H
              clear H
              go_wp2
              go_meet
              case rel => exact ⟨_, (!t344), (by first | rfl | (simp; done) | (simp [*]; done)), H', ⟨by have := HJ2.out; first | omega | exact Nat.le_refl _⟩, ⟨by (with_reducible repeat (first | apply Kd.S_alloc | apply Kd.S_drewN | apply Kd.S_drew)); exact HO342.out⟩, ⟨by repeat (first | (with_reducible first | exact HB.out | apply below_alloc | apply pw_below_drewN | apply below_drew1) | exact HB.out)⟩⟩
            · rw [if_neg c15] at H
              have c15b0 : (t343 == t345) = false := beq_eq_false_iff_ne.mpr c15
              have c15b1 : (t343 != t345) = true := bne_iff_ne.mpr c15
              have H' := Aside0.mk H
              clear H
              go_wp2
              go_meet
              case rel => exact ⟨_, (true), (by first | rfl | (simp; done) | (simp [*]; done)), H', ⟨by have := HJ2.out; first | omega | exact Nat.le_refl _⟩, ⟨by (with_reducible repeat (first | apply Kd.S_alloc | apply Kd.S_drewN | apply Kd.S_drew)); exact HO342.out⟩, ⟨by repeat (first | (with_reducible first | exact HB.out | apply below_alloc | apply pw_below_drewN | apply below_drew1) | exact HB.out)⟩⟩
        case rest =>
          clear HC9
          try clear c1
          try clear c2
          try clear p2
          try clear c3
          try clear c4
          try clear c4b0
          try clear c4b1
          try clear c5
          try clear c10
          try clear c14
          try clear c14b0
          try clear c14b1
          try clear c14b2
          try clear c15
          try clear c15b0
          try clear c15b1
          try clear p2
          obtain ⟨kq, x47_8, rfl, HA, HJ8, HO_5, HB⟩ := hcut
          cases kq with
          | zero => exact absurd HA.out (by simp [laws_FnEarthFlat.j1])
          | succ kj8 =>
            have H := HA.out
            clear HA
            simp only [laws_FnEarthFlat.j1] at H
            by_cases c16 : x47_8 = true
            · subst c16
              have H1 : (if (t344 == t346) = true then (some (t343 == t345)) else (some false)) = some r := by rw [if_pos rfl] at H; exact H
              clear H
              have H := H1
              clear H1
              by_cases c17 : (t344 == t346) = true
              · rw [if_pos c17] at H
                have c17b0 : (t344 == t346) = true := c17
                (try (have c17b1 : decide (t344 = t346) = true := by simpa using c17))
                (try (have c17b2 : (t344 == t346) = true := by simpa using c17))
                clear c17
                obtain rfl := Option.some.inj H
                go_wp2
                go_ret
                exact ⟨by first | rfl | (simp [errW_none, errW_some] <;> rfl) | (simp [*, errW_none, errW_some] <;> rfl), by repeat (first | (with_reducible first | exact HB.out | apply below_alloc | apply pw_below_drewN | apply below_drew1) | exact HB.out)⟩
              · rw [if_neg c17] at H
                have c17b0 : (t344 == t346) = false := by simpa using c17
                (try (have c17b1 : decide (t344 = t346) = false := by simpa using c17))
                (try (have c17b2 : (t344 == t346) = false := by simpa using c17))
                (try (have c17b3 : ¬ (t344 = t346) := by simpa using c17))
                clear c17
                obtain rfl := Option.some.inj H
                go_wp2
                go_ret
                exact ⟨by first | rfl | (simp [errW_none, errW_some] <;> rfl) | (simp [*, errW_none, errW_some] <;> rfl), by repeat (first | (with_reducible first | exact HB.out | apply below_alloc | apply pw_below_drewN | apply below_drew1) | exact HB.out)⟩
            · replace c16 := Bool.eq_false_iff.mpr c16
              subst c16
              have H1 : (laws_FnEarthFlat.l0 kj8 l1 t340 t343 0 0 0) = some r := by rw [if_neg (show ¬ (false = true) by decide)] at H; exact H
              clear H
              have H := H1
              clear H1
              have H' := Aside0.mk H
              clear H
              go_wp2
              go_loopg [10, 11, 12] kj8 (fun kq v10 v11 v12 w' => ∃ (x10_3 : Int) (x11_3 : Int) (x12_3 : Int), v10 = .int .i64 x10_3 ∧ v11 = .int .i64 x11_3 ∧ v12 = .int .i64 x12_3 ∧ Aside0 (laws_FnEarthFlat.l0 kq l1 t340 t343 x10_3 x11_3 x12_3 = some r) ∧ Aside0 (kq ≤ kj8) ∧ Aside0 (Kd.S (Kd.slice 3 (Kd.int .i64)) 33 w' w.heap.size (fun _ => True) (.slice Ao11 t340.length co11) t340) ∧ Aside0 (Below w.heap.size w w'))
              case atStart => exact ⟨(0), (0), (0), (by first | rfl | (simp; done) | (simp [*]; done)), (by first | rfl | (simp; done) | (simp [*]; done)), (by first | rfl | (simp; done) | (simp [*]; done)), H', ⟨Nat.le_refl _⟩, ⟨by (with_reducible repeat (first | apply Kd.S_alloc | apply Kd.S_drewN | apply Kd.S_drew)); exact HO_5.out⟩, ⟨by repeat (first | (with_reducible first | exact HB.out | apply below_alloc | apply pw_below_drewN | apply below_drew1) | exact HB.out)⟩⟩
              case round =>
                clear H'
                try clear c1
                try clear c2
                try clear p2
                try clear c3
                try clear c4
                try clear c4b0
                try clear c4b1
                try clear c5
                try clear c10
                try clear c14
                try clear c14b0
                try clear c14b1
                try clear c14b2
                try clear c15
                try clear c15b0
                try clear c15b1
                try clear c16
                try clear c17
                try clear c17b0
                try clear c17b1
                try clear c17b2
                try clear p2
                obtain ⟨x10_3, x11_3, x12_3, rfl, rfl, rfl, HA, HK3, HO_5, HB⟩ := hrel
                cases gk with
                | zero => exact absurd HA.out (by simp [laws_FnEarthFlat.l0])
                | succ k3 =>
                  have H := HA.out
                  clear HA
                  simp only [laws_FnEarthFlat.l0] at H
                  by_cases c18 : x12_3 < (t340.length : Int)
                  · rw [if_pos c18] at H
                    have c18b0 : decide (x12_3 < (t340.length : Int)) = true := decide_eq_true c18
                    clear c18
                    have H' := Aside0.mk H
                    clear H
                    go_wp2
                    go_loopg [10, 11, 13] k3 (fun kq v10 v11 v13 w' => ∃ (x10_4 : Int) (x11_4 : Int) (x13_4 : Int), v10 = .int .i64 x10_4 ∧ v11 = .int .i64 x11_4 ∧ v13 = .int .i64 x13_4 ∧ Aside0 (laws_FnEarthFlat.l1 kq l1 t340 t343 x10_4 x11_4 x12_3 x13_4 = some r) ∧ Aside0 (kq ≤ k3) ∧ Aside0 (Kd.S (Kd.slice 3 (Kd.int .i64)) 33 w' w.heap.size (fun _ => True) (.slice Ao11 t340.length co11) t340) ∧ Aside0 (Below w.heap.size w w'))
                    case atStart => exact ⟨(x10_3), (x11_3), (0), (by first | rfl | (simp; done) | (simp [*]; done)), (by first | rfl | (simp; done) | (simp [*]; done)), (by first | rfl | (simp; done) | (simp [*]; done)), H', ⟨Nat.le_refl _⟩, ⟨by (with_reducible repeat (first | apply Kd.S_alloc | apply Kd.S_drewN | apply Kd.S_drew)); exact HO_5.out⟩, ⟨by repeat (first | (with_reducible first | exact HB.out | apply below_alloc | apply pw_below_drewN | apply below_drew1) | exact HB.out)⟩⟩
                    case round =>
                      clear H'
                      try clear c1
                      try clear c2
                      try clear p2
                      try clear c3
                      try clear c4
                      try clear c4b0
                      try clear c4b1
                      try clear c5
                      try clear c10
                      try clear c14
                      try clear c14b0
                      try clear c14b1
                      try clear c14b2
                      try clear c15
                      try clear c15b0
                      try clear c15b1
                      try clear c16
                      try clear c17
                      try clear c17b0
                      try clear c17b1
                      try clear c17b2
                      try clear c18
                      try clear c18b0
                      try clear p2
                      obtain ⟨x10_4, x11_4, x13_4, rfl, rfl, rfl, HA, HK4, HO_5, HB⟩ := hrel
                      cases gk with
                      | zero => exact absurd HA.out (by simp [laws_FnEarthFlat.l1])
                      | succ k4 =>
                        have H := HA.out
                        clear HA
                        simp only [laws_FnEarthFlat.l1] at H
                        by_cases c19 : 0 ≤ x12_3
                        · rw [if_pos c19] at H
                          have c19b0 : decide (0 ≤ x12_3) = true := decide_eq_true c19
                          clear c19
                          by_cases c20 : x12_3 < (t340.length : Int)
                          · rw [if_pos c20] at H
                            have c20b0 : decide (x12_3 < (t340.length : Int)) = true := decide_eq_true c20
                            clear c20
                            by_cases c21 : x13_4 < ((rd_L1 t340 x12_3).length : Int)
                            · rw [if_pos c21] at H
                              have c21b0 : decide (x13_4 < ((rd_L1 t340 x12_3).length : Int)) = true := decide_eq_true c21
                              clear c21
                              by_cases c22 : 0 ≤ x13_4
                              · rw [if_pos c22] at H
                                have c22b0 : decide (0 ≤ x13_4) = true := decide_eq_true c22
                                clear c22
                                by_cases c23 : (rd (rd_L1 t340 x12_3) x13_4) < t343
                                · rw [if_pos c23] at H
                                  have c23b0 : decide ((rd (rd_L1 t340 x12_3) x13_4) < t343) = true := decide_eq_true c23
                                  clear c23
                                  by_cases c24 : (rd (rd_L1 t340 x12_3) x13_4) > t343
                                  · rw [if_pos c24] at H
                                    have c24b0 : decide (t343 < (rd (rd_L1 t340 x12_3) x13_4)) = true := decide_eq_true c24
                                    clear c24
                                    have H' := Aside0.mk H
                                    clear H
                                    have p350 : 0 ≤ (x12_3 : Int) := of_decide_eq_true (by first | (with_reducible assumption) | assumption)
                                    have q350 : x12_3 < (t340.length : Int) := of_decide_eq_true (by first | (with_reducible assumption) | assumption)
                                    obtain ⟨ad350, A350_0, c350_0, e350, hx350_0, hl350_0, hi350_0⟩ := at_L1 (Kd.S_reads' HO_5.out).2.2 x12_3 p350 q350
                                    cases e350
                                    obtain ⟨ce350, hce350, hMe350, hcc350⟩ := Kd.S_get HO_5.out [] x12_3 p350 (by first | exact q350 | exact of_decide_eq_true (by first | (with_reducible assumption) | assumption) | (have e_ := (Kd.S_reads' HO_5.out).1; omega))
                                    obtain ⟨ve350_0, rfl, ge350_0⟩ := hMe350
                                    have hv350_0 := hcc350 0 _ rfl
                                    rw [Nat.add_zero, show ((Kd.slice 3 (Kd.int .i64))).sz = 1 from rfl, Nat.mul_one] at hv350_0
                                    replace hv350_0 := Option.some.inj (hv350_0.symm.trans hx350_0)
                                    rw [hv350_0] at ge350_0
                                    have HL350_0 := Aside0.mk (show Kd.R (Kd.int .i64) 3 _ _ _ _ (rd_L1 t340 x12_3) from ge350_0)
                                    clear hv350_0 ge350_0
                                    clear hcc350 hce350
                                    have HR350_0 := Aside0.mk hi350_0
                                    have HC350_0 := Aside0.mk hl350_0
                                    clear hi350_0 hl350_0
                                    replace p350 := eq_true p350
                                    replace q350 := eq_true q350
                                    have p351 : 0 ≤ (x12_3 : Int) := of_decide_eq_true (by first | (with_reducible assumption) | assumption)
                                    have q351 : x12_3 < (t340.length : Int) := of_decide_eq_true (by first | (with_reducible assumption) | assumption)
                                    obtain ⟨ad351, A351_0, c351_0, e351, hx351_0, hl351_0, hi351_0⟩ := at_L1 (Kd.S_reads' HO_5.out).2.2 x12_3 p351 q351
                                    obtain rfl : ad350 = ad351 := (by injection e351)
                                    obtain ⟨ce351, hce351, hMe351, hcc351⟩ := Kd.S_get HO_5.out [] x12_3 p351 (by first | exact q351 | exact of_decide_eq_true (by first | (with_reducible assumption) | assumption) | (have e_ := (Kd.S_reads' HO_5.out).1; omega))
                                    obtain ⟨ve351_0, rfl, ge351_0⟩ := hMe351
                                    have hv351_0 := hcc351 0 _ rfl
                                    rw [Nat.add_zero, show ((Kd.slice 3 (Kd.int .i64))).sz = 1 from rfl, Nat.mul_one] at hv351_0
                                    replace hv351_0 := Option.some.inj (hv351_0.symm.trans hx351_0)
                                    rw [hv351_0] at ge351_0
                                    have HL351_0 := Aside0.mk (show Kd.R (Kd.int .i64) 3 _ _ _ _ (rd_L1 t340 x12_3) from ge351_0)
                                    clear hv351_0 ge351_0
                                    clear hcc351 hce351
                                    have HR351_0 := Aside0.mk hi351_0
                                    have HC351_0 := Aside0.mk hl351_0
                                    clear hi351_0 hl351_0
                                    replace p351 := eq_true p351
                                    replace q351 := eq_true q351
                                    have ea_ := Option.some.inj (hx350_0.symm.trans hx351_0)
                                    injection ea_ with ea_ en_ ec_
                                    subst ea_
                                    subst ec_
                                    clear en_
                                    have p352 : 0 ≤ (x13_4 : Int) := of_decide_eq_true (by first | (with_reducible assumption) | assumption)
                                    have q352 : x13_4 < ((rd_L1 t340 x12_3).length : Int) := of_decide_eq_true (by first | (with_reducible assumption) | assumption)
                                    obtain ⟨ad352, e352, hx352_0⟩ := Kd.at_int (by repeat (first | (with_reducible exact HR351_0.out) | (with_reducible refine Kd.C_alloc ?_ _) | (with_reducible refine Kd.C_drewN ?_ _) | (with_reducible refine Kd.C_drew ?_) | exact HR351_0.out)) x13_4 p352 q352
                                    cases e352
                                    replace p352 := eq_true p352
                                    replace q352 := eq_true q352
                                    have p353 : 0 ≤ (x12_3 : Int) := of_decide_eq_true (by first | (with_reducible assumption) | assumption)
                                    have q353 : x12_3 < (t340.length : Int) := of_decide_eq_true (by first | (with_reducible assumption) | assumption)
                                    obtain ⟨ad353, A353_0, c353_0, e353, hx353_0, hl353_0, hi353_0⟩ := at_L1 (Kd.S_reads' HO_5.out).2.2 x12_3 p353 q353
                                    obtain rfl : ad350 = ad353 := (by injection e353)
                                    obtain ⟨ce353, hce353, hMe353, hcc353⟩ := Kd.S_get HO_5.out [] x12_3 p353 (by first | exact q353 | exact of_decide_eq_true (by first | (with_reducible assumption) | assumption) | (have e_ := (Kd.S_reads' HO_5.out).1; omega))
                                    obtain ⟨ve353_0, rfl, ge353_0⟩ := hMe353
                                    have hv353_0 := hcc353 0 _ rfl
                                    rw [Nat.add_zero, show ((Kd.slice 3 (Kd.int .i64))).sz = 1 from rfl, Nat.mul_one] at hv353_0
                                    replace hv353_0 := Option.some.inj (hv353_0.symm.trans hx353_0)
                                    rw [hv353_0] at ge353_0
                                    have HL353_0 := Aside0.mk (show Kd.R (Kd.int .i64) 3 _ _ _ _ (rd_L1 t340 x12_3) from ge353_0)
                                    clear hv353_0 ge353_0
                                    clear hcc353 hce353
                                    have HR353_0 := Aside0.mk hi353_0
                                    have HC353_0 := Aside0.mk hl353_0
                                    clear hi353_0 hl353_0
                                    replace p353 := eq_true p353
                                    replace q353 := eq_true q353
                                    have ea_ := Option.some.inj (hx350_0.symm.trans hx353_0)
                                    injection ea_ with ea_ en_ ec_
                                    subst ea_
                                    subst ec_
                                    clear en_
                                    have p354 : 0 ≤ (x13_4 : Int) := of_decide_eq_true (by first | (with_reducible assumption) | assumption)
                                    have q354 : x13_4 < ((rd_L1 t340 x12_3).length : Int) := of_decide_eq_true (by first | (with_reducible assumption) | assumption)
                                    obtain ⟨ad354, e354, hx354_0⟩ := Kd.at_int (by repeat (first | (with_reducible exact HR353_0.out) | (with_reducible refine Kd.C_alloc ?_ _) | (with_reducible refine Kd.C_drewN ?_ _) | (with_reducible refine Kd.C_drew ?_) | exact HR353_0.out)) x13_4 p354 q354
                                    cases e354
                                    replace p354 := eq_true p354
                                    replace q354 := eq_true q354
                                    go_wp2
                                    go_roundg k4
                                    case measure => have := HJ2.out; have := HJ8.out; have := HK3.out; have := HK4.out; omega
                                    case rel => exact ⟨(wrap64 (x10_4 + 1)), (wrap64 (x11_4 + 1)), (wrap64 (x13_4 + 1)), (by first | rfl | (simp; done) | (simp [*]; done)), (by first | rfl | (simp; done) | (simp [*]; done)), (by first | rfl | (simp; done) | (simp [*]; done)), H', ⟨by have := HJ2.out; have := HJ8.out; have := HK3.out; have := HK4.out; omega⟩, ⟨by (with_reducible repeat (first | apply Kd.S_alloc | apply Kd.S_drewN | apply Kd.S_drew)); exact HO_5.out⟩, ⟨by repeat (first | (with_reducible first | exact HB.out | apply below_alloc | apply pw_below_drewN | apply below_drew1) | exact HB.out)⟩⟩
                                  · rw [if_neg c24] at H
                                    have c24b0 : decide (t343 < (rd (rd_L1 t340 x12_3) x13_4)) = false := decide_eq_false c24
                                    clear c24
                                    have H' := Aside0.mk H
                                    clear H
                                    have p350 : 0 ≤ (x12_3 : Int) := of_decide_eq_true (by first | (with_reducible assumption) | assumption)
                                    have q350 : x12_3 < (t340.length : Int) := of_decide_eq_true (by first | (with_reducible assumption) | assumption)
                                    obtain ⟨ad350, A350_0, c350_0, e350, hx350_0, hl350_0, hi350_0⟩ := at_L1 (Kd.S_reads' HO_5.out).2.2 x12_3 p350 q350
                                    cases e350
                                    obtain ⟨ce350, hce350, hMe350, hcc350⟩ := Kd.S_get HO_5.out [] x12_3 p350 (by first | exact q350 | exact of_decide_eq_true (by first | (with_reducible assumption) | assumption) | (have e_ := (Kd.S_reads' HO_5.out).1; omega))
                                    obtain ⟨ve350_0, rfl, ge350_0⟩ := hMe350
                                    have hv350_0 := hcc350 0 _ rfl
                                    rw [Nat.add_zero, show ((Kd.slice 3 (Kd.int .i64))).sz = 1 from rfl, Nat.mul_one] at hv350_0
                                    replace hv350_0 := Option.some.inj (hv350_0.symm.trans hx350_0)
                                    rw [hv350_0] at ge350_0
                                    have HL350_0 := Aside0.mk (show Kd.R (Kd.int .i64) 3 _ _ _ _ (rd_L1 t340 x12_3) from ge350_0)
                                    clear hv350_0 ge350_0
                                    clear hcc350 hce350
                                    have HR350_0 := Aside0.mk hi350_0
                                    have HC350_0 := Aside0.mk hl350_0
                                    clear hi350_0 hl350_0
                                    replace p350 := eq_true p350
                                    replace q350 := eq_true q350
                                    have p351 : 0 ≤ (x12_3 : Int) := of_decide_eq_true (by first | (with_reducible assumption) | assumption)
                                    have q351 : x12_3 < (t340.length : Int) := of_decide_eq_true (by first | (with_reducible assumption) | assumption)
                                    obtain ⟨ad351, A351_0, c351_0, e351, hx351_0, hl351_0, hi351_0⟩ := at_L1 (Kd.S_reads' HO_5.out).2.2 x12_3 p351 q351
                                    obtain rfl : ad350 = ad351 := (by injection e351)
                                    obtain ⟨ce351, hce351, hMe351, hcc351⟩ := Kd.S_get HO_5.out [] x12_3 p351 (by first | exact q351 | exact of_decide_eq_true (by first | (with_reducible assumption) | assumption) | (have e_ := (Kd.S_reads' HO_5.out).1; omega))
                                    obtain ⟨ve351_0, rfl, ge351_0⟩ := hMe351
                                    have hv351_0 := hcc351 0 _ rfl
                                    rw [Nat.add_zero, show ((Kd.slice 3 (Kd.int .i64))).sz = 1 from rfl, Nat.mul_one] at hv351_0
                                    replace hv351_0 := Option.some.inj (hv351_0.symm.trans hx351_0)
                                    rw [hv351_0] at ge351_0
                                    have HL351_0 := Aside0.mk (show Kd.R (Kd.int .i64) 3 _ _ _ _ (rd_L1 t340 x12_3) from ge351_0)
                                    clear hv351_0 ge351_0
                                    clear hcc351 hce351
                                    have HR351_0 := Aside0.mk hi351_0
                                    have HC351_0 := Aside0.mk hl351_0
                                    clear hi351_0 hl351_0
                                    replace p351 := eq_true p351
                                    replace q351 := eq_true q351
                                    have ea_ := Option.some.inj (hx350_0.symm.trans hx351_0)
                                    injection ea_ with ea_ en_ ec_
                                    subst ea_
                                    subst ec_
                                    clear en_
                                    have p352 : 0 ≤ (x13_4 : Int) := of_decide_eq_true (by first | (with_reducible assumption) | assumption)
                                    have q352 : x13_4 < ((rd_L1 t340 x12_3).length : Int) := of_decide_eq_true (by first | (with_reducible assumption) | assumption)
                                    obtain ⟨ad352, e352, hx352_0⟩ := Kd.at_int (by repeat (first | (with_reducible exact HR351_0.out) | (with_reducible refine Kd.C_alloc ?_ _) | (with_reducible refine Kd.C_drewN ?_ _) | (with_reducible refine Kd.C_drew ?_) | exact HR351_0.out)) x13_4 p352 q352
                                    cases e352
                                    replace p352 := eq_true p352
                                    replace q352 := eq_true q352
                                    have p353 : 0 ≤ (x12_3 : Int) := of_decide_eq_true (by first | (with_reducible assumption) | assumption)
                                    have q353 : x12_3 < (t340.length : Int) := of_decide_eq_true (by first | (with_reducible assumption) | assumption)
                                    obtain ⟨ad353, A353_0, c353_0, e353, hx353_0, hl353_0, hi353_0⟩ := at_L1 (Kd.S_reads' HO_5.out).2.2 x12_3 p353 q353
                                    obtain rfl : ad350 = ad353 := (by injection e353)
                                    obtain ⟨ce353, hce353, hMe353, hcc353⟩ := Kd.S_get HO_5.out [] x12_3 p353 (by first | exact q353 | exact of_decide_eq_true (by first | (with_reducible assumption) | assumption) | (have e_ := (Kd.S_reads' HO_5.out).1; omega))
                                    obtain ⟨ve353_0, rfl, ge353_0⟩ := hMe353
                                    have hv353_0 := hcc353 0 _ rfl
                                    rw [Nat.add_zero, show ((Kd.slice 3 (Kd.int .i64))).sz = 1 from rfl, Nat.mul_one] at hv353_0
                                    replace hv353_0 := Option.some.inj (hv353_0.symm.trans hx353_0)
                                    rw [hv353_0] at ge353_0
                                    have HL353_0 := Aside0.mk (show Kd.R (Kd.int .i64) 3 _ _ _ _ (rd_L1 t340 x12_3) from ge353_0)
                                    clear hv353_0 ge353_0
                                    clear hcc353 hce353
                                    have HR353_0 := Aside0.mk hi353_0
                                    have HC353_0 := Aside0.mk hl353_0
                                    clear hi353_0 hl353_0
                                    replace p353 := eq_true p353
                                    replace q353 := eq_true q353
                                    have ea_ := Option.some.inj (hx350_0.symm.trans hx353_0)
                                    injection ea_ with ea_ en_ ec_
                                    subst ea_
                                    subst ec_
                                    clear en_
                                    have p354 : 0 ≤ (x13_4 : Int) := of_decide_eq_true (by first | (with_reducible assumption) | assumption)
                                    have q354 : x13_4 < ((rd_L1 t340 x12_3).length : Int) := of_decide_eq_true (by first | (with_reducible assumption) | assumption)
                                    obtain ⟨ad354, e354, hx354_0⟩ := Kd.at_int (by repeat (first | (with_reducible exact HR353_0.out) | (with_reducible refine Kd.C_alloc ?_ _) | (with_reducible refine Kd.C_drewN ?_ _) | (with_reducible refine Kd.C_drew ?_) | exact HR353_0.out)) x13_4 p354 q354
                                    cases e354
                                    replace p354 := eq_true p354
                                    replace q354 := eq_true q354
                                    go_wp2
                                    go_roundg k4
                                    case measure => have := HJ2.out; have := HJ8.out; have := HK3.out; have := HK4.out; omega
                                    case rel => exact ⟨(wrap64 (x10_4 + 1)), (x11_4), (wrap64 (x13_4 + 1)), (by first | rfl | (simp; done) | (simp [*]; done)), (by first | rfl | (simp; done) | (simp [*]; done)), (by first | rfl | (simp; done) | (simp [*]; done)), H', ⟨by have := HJ2.out; have := HJ8.out; have := HK3.out; have := HK4.out; omega⟩, ⟨by (with_reducible repeat (first | apply Kd.S_alloc | apply Kd.S_drewN | apply Kd.S_drew)); exact HO_5.out⟩, ⟨by repeat (first | (with_reducible first | exact HB.out | apply below_alloc | apply pw_below_drewN | apply below_drew1) | exact HB.out)⟩⟩
                                · rw [if_neg c23] at H
                                  have c23b0 : decide ((rd (rd_L1 t340 x12_3) x13_4) < t343) = false := decide_eq_false c23
                                  clear c23
                                  by_cases c25 : (rd (rd_L1 t340 x12_3) x13_4) > t343
                                  · rw [if_pos c25] at H
                                    have c25b0 : decide (t343 < (rd (rd_L1 t340 x12_3) x13_4)) = true := decide_eq_true c25
                                    clear c25
                                    have H' := Aside0.mk H
                                    clear H
                                    have p350 : 0 ≤ (x12_3 : Int) := of_decide_eq_true (by first | (with_reducible assumption) | assumption)
                                    have q350 : x12_3 < (t340.length : Int) := of_decide_eq_true (by first | (with_reducible assumption) | assumption)
                                    obtain ⟨ad350, A350_0, c350_0, e350, hx350_0, hl350_0, hi350_0⟩ := at_L1 (Kd.S_reads' HO_5.out).2.2 x12_3 p350 q350
                                    cases e350
                                    obtain ⟨ce350, hce350, hMe350, hcc350⟩ := Kd.S_get HO_5.out [] x12_3 p350 (by first | exact q350 | exact of_decide_eq_true (by first | (with_reducible assumption) | assumption) | (have e_ := (Kd.S_reads' HO_5.out).1; omega))
                                    obtain ⟨ve350_0, rfl, ge350_0⟩ := hMe350
                                    have hv350_0 := hcc350 0 _ rfl
                                    rw [Nat.add_zero, show ((Kd.slice 3 (Kd.int .i64))).sz = 1 from rfl, Nat.mul_one] at hv350_0
                                    replace hv350_0 := Option.some.inj (hv350_0.symm.trans hx350_0)
                                    rw [hv350_0] at ge350_0
                                    have HL350_0 := Aside0.mk (show Kd.R (Kd.int .i64) 3 _ _ _ _ (rd_L1 t340 x12_3) from ge350_0)
                                    clear hv350_0 ge350_0
                                    clear hcc350 hce350
                                    have HR350_0 := Aside0.mk hi350_0
                                    have HC350_0 := Aside0.mk hl350_0
                                    clear hi350_0 hl350_0
                                    replace p350 := eq_true p350
                                    replace q350 := eq_true q350
                                    have p351 : 0 ≤ (x12_3 : Int) := of_decide_eq_true (by first | (with_reducible assumption) | assumption)
                                    have q351 : x12_3 < (t340.length : Int) := of_decide_eq_true (by first | (with_reducible assumption) | assumption)
                                    obtain ⟨ad351, A351_0, c351_0, e351, hx351_0, hl351_0, hi351_0⟩ := at_L1 (Kd.S_reads' HO_5.out).2.2 x12_3 p351 q351
                                    obtain rfl : ad350 = ad351 := (by injection e351)
                                    obtain ⟨ce351, hce351, hMe351, hcc351⟩ := Kd.S_get HO_5.out [] x12_3 p351 (by first | exact q351 | exact of_decide_eq_true (by first | (with_reducible assumption) | assumption) | (have e_ := (Kd.S_reads' HO_5.out).1; omega))
                                    obtain ⟨ve351_0, rfl, ge351_0⟩ := hMe351
                                    have hv351_0 := hcc351 0 _ rfl
                                    rw [Nat.add_zero, show ((Kd.slice 3 (Kd.int .i64))).sz = 1 from rfl, Nat.mul_one] at hv351_0
                                    replace hv351_0 := Option.some.inj (hv351_0.symm.trans hx351_0)
                                    rw [hv351_0] at ge351_0
                                    have HL351_0 := Aside0.mk (show Kd.R (Kd.int .i64) 3 _ _ _ _ (rd_L1 t340 x12_3) from ge351_0)
                                    clear hv351_0 ge351_0
                                    clear hcc351 hce351
                                    have HR351_0 := Aside0.mk hi351_0
                                    have HC351_0 := Aside0.mk hl351_0
                                    clear hi351_0 hl351_0
                                    replace p351 := eq_true p351
                                    replace q351 := eq_true q351
                                    have ea_ := Option.some.inj (hx350_0.symm.trans hx351_0)
                                    injection ea_ with ea_ en_ ec_
                                    subst ea_
                                    subst ec_
                                    clear en_
                                    have p352 : 0 ≤ (x13_4 : Int) := of_decide_eq_true (by first | (with_reducible assumption) | assumption)
                                    have q352 : x13_4 < ((rd_L1 t340 x12_3).length : Int) := of_decide_eq_true (by first | (with_reducible assumption) | assumption)
                                    obtain ⟨ad352, e352, hx352_0⟩ := Kd.at_int (by repeat (first | (with_reducible exact HR351_0.out) | (with_reducible refine Kd.C_alloc ?_ _) | (with_reducible refine Kd.C_drewN ?_ _) | (with_reducible refine Kd.C_drew ?_) | exact HR351_0.out)) x13_4 p352 q352
                                    cases e352
                                    replace p352 := eq_true p352
                                    replace q352 := eq_true q352
                                    have p355 : 0 ≤ (x12_3 : Int) := of_decide_eq_true (by first | (with_reducible assumption) | assumption)
                                    have q355 : x12_3 < (t340.length : Int) := of_decide_eq_true (by first | (with_reducible assumption) | assumption)
                                    obtain ⟨ad355, A355_0, c355_0, e355, hx355_0, hl355_0, hi355_0⟩ := at_L1 (Kd.S_reads' HO_5.out).2.2 x12_3 p355 q355
                                    obtain rfl : ad350 = ad355 := (by injection e355)
                                    obtain ⟨ce355, hce355, hMe355, hcc355⟩ := Kd.S_get HO_5.out [] x12_3 p355 (by first | exact q355 | exact of_decide_eq_true (by first | (with_reducible assumption) | assumption) | (have e_ := (Kd.S_reads' HO_5.out).1; omega))
                                    obtain ⟨ve355_0, rfl, ge355_0⟩ := hMe355
                                    have hv355_0 := hcc355 0 _ rfl
                                    rw [Nat.add_zero, show ((Kd.slice 3 (Kd.int .i64))).sz = 1 from rfl, Nat.mul_one] at hv355_0
                                    replace hv355_0 := Option.some.inj (hv355_0.symm.trans hx355_0)
                                    rw [hv355_0] at ge355_0
                                    have HL355_0 := Aside0.mk (show Kd.R (Kd.int .i64) 3 _ _ _ _ (rd_L1 t340 x12_3) from ge355_0)
                                    clear hv355_0 ge355_0
                                    clear hcc355 hce355
                                    have HR355_0 := Aside0.mk hi355_0
                                    have HC355_0 := Aside0.mk hl355_0
                                    clear hi355_0 hl355_0
                                    replace p355 := eq_true p355
                                    replace q355 := eq_true q355
                                    have ea_ := Option.some.inj (hx350_0.symm.trans hx355_0)
                                    injection ea_ with ea_ en_ ec_
                                    subst ea_
                                    subst ec_
                                    clear en_
                                    have p356 : 0 ≤ (x13_4 : Int) := of_decide_eq_true (by first | (with_reducible assumption) | assumption)
                                    have q356 : x13_4 < ((rd_L1 t340 x12_3).length : Int) := of_decide_eq_true (by first | (with_reducible assumption) | assumption)
                                    obtain ⟨ad356, e356, hx356_0⟩ := Kd.at_int (by repeat (first | (with_reducible exact HR355_0.out) | (with_reducible refine Kd.C_alloc ?_ _) | (with_reducible refine Kd.C_drewN ?_ _) | (with_reducible refine Kd.C_drew ?_) | exact HR355_0.out)) x13_4 p356 q356
                                    cases e356
                                    replace p356 := eq_true p356
                                    replace q356 := eq_true q356
                                    go_wp2
                                    go_roundg k4
                                    case measure => have := HJ2.out; have := HJ8.out; have := HK3.out; have := HK4.out; omega
                                    case rel => exact ⟨(x10_4), (wrap64 (x11_4 + 1)), (wrap64 (x13_4 + 1)), (by first | rfl | (simp; done) | (simp [*]; done)), (by first | rfl | (simp; done) | (simp [*]; done)), (by first | rfl | (simp; done) | (simp [*]; done)), H', ⟨by have := HJ2.out; have := HJ8.out; have := HK3.out; have := HK4.out; omega⟩, ⟨by (with_reducible repeat (first | apply Kd.S_alloc | apply Kd.S_drewN | apply Kd.S_drew)); exact HO_5.out⟩, ⟨by repeat (first | (with_reducible first | exact HB.out | apply below_alloc | apply pw_below_drewN | apply below_drew1) | exact HB.out)⟩⟩
                                  · rw [if_neg c25] at H
                                    have c25b0 : decide (t343 < (rd (rd_L1 t340 x12_3) x13_4)) = false := decide_eq_false c25
                                    clear c25
                                    have H' := Aside0.mk H
                                    clear H
                                    have p350 : 0 ≤ (x12_3 : Int) := of_decide_eq_true (by first | (with_reducible assumption) | assumption)
                                    have q350 : x12_3 < (t340.length : Int) := of_decide_eq_true (by first | (with_reducible assumption) | assumption)
                                    obtain ⟨ad350, A350_0, c350_0, e350, hx350_0, hl350_0, hi350_0⟩ := at_L1 (Kd.S_reads' HO_5.out).2.2 x12_3 p350 q350
                                    cases e350
                                    obtain ⟨ce350, hce350, hMe350, hcc350⟩ := Kd.S_get HO_5.out [] x12_3 p350 (by first | exact q350 | exact of_decide_eq_true (by first | (with_reducible assumption) | assumption) | (have e_ := (Kd.S_reads' HO_5.out).1; omega))
                                    obtain ⟨ve350_0, rfl, ge350_0⟩ := hMe350
                                    have hv350_0 := hcc350 0 _ rfl
                                    rw [Nat.add_zero, show ((Kd.slice 3 (Kd.int .i64))).sz = 1 from rfl, Nat.mul_one] at hv350_0
                                    replace hv350_0 := Option.some.inj (hv350_0.symm.trans hx350_0)
                                    rw [hv350_0] at ge350_0
                                    have HL350_0 := Aside0.mk (show Kd.R (Kd.int .i64) 3 _ _ _ _ (rd_L1 t340 x12_3) from ge350_0)
                                    clear hv350_0 ge350_0
                                    clear hcc350 hce350
                                    have HR350_0 := Aside0.mk hi350_0
                                    have HC350_0 := Aside0.mk hl350_0
                                    clear hi350_0 hl350_0
                                    replace p350 := eq_true p350
                                    replace q350 := eq_true q350
                                    have p351 : 0 ≤ (x12_3 : Int) := of_decide_eq_true (by first | (with_reducible assumption) | assumption)
                                    have q351 : x12_3 < (t340.length : Int) := of_decide_eq_true (by first | (with_reducible assumption) | assumption)
                                    obtain ⟨ad351, A351_0, c351_0, e351, hx351_0, hl351_0, hi351_0⟩ := at_L1 (Kd.S_reads' HO_5.out).2.2 x12_3 p351 q351
                                    obtain rfl : ad350 = ad351 := (by injection e351)
                                    obtain ⟨ce351, hce351, hMe351, hcc351⟩ := Kd.S_get HO_5.out [] x12_3 p351 (by first | exact q351 | exact of_decide_eq_true (by first | (with_reducible assumption) | assumption) | (have e_ := (Kd.S_reads' HO_5.out).1; omega))
                                    obtain ⟨ve351_0, rfl, ge351_0⟩ := hMe351
                                    have hv351_0 := hcc351 0 _ rfl
                                    rw [Nat.add_zero, show ((Kd.slice 3 (Kd.int .i64))).sz = 1 from rfl, Nat.mul_one] at hv351_0
                                    replace hv351_0 := Option.some.inj (hv351_0.symm.trans hx351_0)
                                    rw [hv351_0] at ge351_0
                                    have HL351_0 := Aside0.mk (show Kd.R (Kd.int .i64) 3 _ _ _ _ (rd_L1 t340 x12_3) from ge351_0)
                                    clear hv351_0 ge351_0
                                    clear hcc351 hce351
                                    have HR351_0 := Aside0.mk hi351_0
                                    have HC351_0 := Aside0.mk hl351_0
                                    clear hi351_0 hl351_0
                                    replace p351 := eq_true p351
                                    replace q351 := eq_true q351
                                    have ea_ := Option.some.inj (hx350_0.symm.trans hx351_0)
                                    injection ea_ with ea_ en_ ec_
                                    subst ea_
                                    subst ec_
                                    clear en_
                                    have p352 : 0 ≤ (x13_4 : Int) := of_decide_eq_true (by first | (with_reducible assumption) | assumption)
                                    have q352 : x13_4 < ((rd_L1 t340 x12_3).length : Int) := of_decide_eq_true (by first | (with_reducible assumption) | assumption)
                                    obtain ⟨ad352, e352, hx352_0⟩ := Kd.at_int (by repeat (first | (with_reducible exact HR351_0.out) | (with_reducible refine Kd.C_alloc ?_ _) | (with_reducible refine Kd.C_drewN ?_ _) | (with_reducible refine Kd.C_drew ?_) | exact HR351_0.out)) x13_4 p352 q352
                                    cases e352
                                    replace p352 := eq_true p352
                                    replace q352 := eq_true q352
                                    have p355 : 0 ≤ (x12_3 : Int) := of_decide_eq_true (by first | (with_reducible assumption) | assumption)
                                    have q355 : x12_3 < (t340.length : Int) := of_decide_eq_true (by first | (with_reducible assumption) | assumption)
                                    obtain ⟨ad355, A355_0, c355_0, e355, hx355_0, hl355_0, hi355_0⟩ := at_L1 (Kd.S_reads' HO_5.out).2.2 x12_3 p355 q355
                                    obtain rfl : ad350 = ad355 := (by injection e355)
                                    obtain ⟨ce355, hce355, hMe355, hcc355⟩ := Kd.S_get HO_5.out [] x12_3 p355 (by first | exact q355 | exact of_decide_eq_true (by first | (with_reducible assumption) | assumption) | (have e_ := (Kd.S_reads' HO_5.out).1; omega))
                                    obtain ⟨ve355_0, rfl, ge355_0⟩ := hMe355
                                    have hv355_0 := hcc355 0 _ rfl
                                    rw [Nat.add_zero, show ((Kd.slice 3 (Kd.int .i64))).sz = 1 from rfl, Nat.mul_one] at hv355_0
                                    replace hv355_0 := Option.some.inj (hv355_0.symm.trans hx355_0)
                                    rw [hv355_0] at ge355_0
                                    have HL355_0 := Aside0.mk (show Kd.R (Kd.int .i64) 3 _ _ _ _ (rd_L1 t340 x12_3) from ge355_0)
                                    clear hv355_0 ge355_0
                                    clear hcc355 hce355
                                    have HR355_0 := Aside0.mk hi355_0
                                    have HC355_0 := Aside0.mk hl355_0
                                    clear hi355_0 hl355_0
                                    replace p355 := eq_true p355
                                    replace q355 := eq_true q355
                                    have ea_ := Option.some.inj (hx350_0.symm.trans hx355_0)
                                    injection ea_ with ea_ en_ ec_
                                    subst ea_
                                    subst ec_
                                    clear en_
                                    have p356 : 0 ≤ (x13_4 : Int) := of_decide_eq_true (by first | (with_reducible assumption) | assumption)
                                    have q356 : x13_4 < ((rd_L1 t340 x12_3).length : Int) := of_decide_eq_true (by first | (with_reducible assumption) | assumption)
                                    obtain ⟨ad356, e356, hx356_0⟩ := Kd.at_int (by repeat (first | (with_reducible exact HR355_0.out) | (with_reducible refine Kd.C_alloc ?_ _) | (with_reducible refine Kd.C_drewN ?_ _) | (with_reducible refine Kd.C_drew ?_) | exact HR355_0.out)) x13_4 p356 q356
                                    cases e356
                                    replace p356 := eq_true p356
                                    replace q356 := eq_true q356
                                    go_wp2
                                    go_roundg k4
                                    case measure => have := HJ2.out; have := HJ8.out; have := HK3.out; have := HK4.out; omega
                                    case rel => exact ⟨(x10_4), (x11_4), (wrap64 (x13_4 + 1)), (by first | rfl | (simp; done) | (simp [*]; done)), (by first | rfl | (simp; done) | (simp [*]; done)), (by first | rfl | (simp; done) | (simp [*]; done)), H', ⟨by have := HJ2.out; have := HJ8.out; have := HK3.out; have := HK4.out; omega⟩, ⟨by (with_reducible repeat (first | apply Kd.S_alloc | apply Kd.S_drewN | apply Kd.S_drew)); exact HO_5.out⟩, ⟨by repeat (first | (with_reducible first | exact HB.out | apply below_alloc | apply pw_below_drewN | apply below_drew1) | exact HB.out)⟩⟩
                              · rw [if_neg c22] at H
                                exact absurd H (by simp)
                            · rw [if_neg c21] at H
                              have c21b0 : decide (x13_4 < ((rd_L1 t340 x12_3).length : Int)) = false := decide_eq_false c21
                              clear c21
                              have H' := Aside0.mk H
                              clear H
                              have p350 : 0 ≤ (x12_3 : Int) := of_decide_eq_true (by first | (with_reducible assumption) | assumption)
                              have q350 : x12_3 < (t340.length : Int) := of_decide_eq_true (by first | (with_reducible assumption) | assumption)
                              obtain ⟨ad350, A350_0, c350_0, e350, hx350_0, hl350_0, hi350_0⟩ := at_L1 (Kd.S_reads' HO_5.out).2.2 x12_3 p350 q350
                              cases e350
                              obtain ⟨ce350, hce350, hMe350, hcc350⟩ := Kd.S_get HO_5.out [] x12_3 p350 (by first | exact q350 | exact of_decide_eq_true (by first | (with_reducible assumption) | assumption) | (have e_ := (Kd.S_reads' HO_5.out).1; omega))
                              obtain ⟨ve350_0, rfl, ge350_0⟩ := hMe350
                              have hv350_0 := hcc350 0 _ rfl
                              rw [Nat.add_zero, show ((Kd.slice 3 (Kd.int .i64))).sz = 1 from rfl, Nat.mul_one] at hv350_0
                              replace hv350_0 := Option.some.inj (hv350_0.symm.trans hx350_0)
                              rw [hv350_0] at ge350_0
                              have HL350_0 := Aside0.mk (show Kd.R (Kd.int .i64) 3 _ _ _ _ (rd_L1 t340 x12_3) from ge350_0)
                              clear hv350_0 ge350_0
                              clear hcc350 hce350
                              have HR350_0 := Aside0.mk hi350_0
                              have HC350_0 := Aside0.mk hl350_0
                              clear hi350_0 hl350_0
                              replace p350 := eq_true p350
                              replace q350 := eq_true q350
                              go_wp2
                              go_roundg k4
                              case measure => have := HJ2.out; have := HJ8.out; have := HK3.out; have := HK4.out; omega
                              case rel => exact ⟨(x10_4), (x11_4), (wrap64 (x12_3 + 1)), (by first | rfl | (simp; done) | (simp [*]; done)), (by first | rfl | (simp; done) | (simp [*]; done)), (by first | rfl | (simp; done) | (simp [*]; done)), H', ⟨by have := HJ2.out; have := HJ8.out; have := HK3.out; have := HK4.out; omega⟩, ⟨by (with_reducible repeat (first | apply Kd.S_alloc | apply Kd.S_drewN | apply Kd.S_drew)); exact HO_5.out⟩, ⟨by repeat (first | (with_reducible first | exact HB.out | apply below_alloc | apply pw_below_drewN | apply below_drew1) | exact HB.out)⟩⟩
                          · rw [if_neg c20] at H
                            exact absurd H (by simp)
                        · rw [if_neg c19] at H
                          exact absurd H (by simp)
                  · rw [if_neg c18] at H
                    have c18b0 : decide (x12_3 < (t340.length : Int)) = false := decide_eq_false c18
                    clear c18
                    by_cases c26 : 0 < (t340.length : Int)
                    · rw [if_pos c26] at H
                      have c26b0 : decide (0 < (t340.length : Int)) = true := decide_eq_true c26
                      have c26b1 : decide (0 < t340.length) = true := decide_eq_true (by omega)
                      clear c26
                      replace H := Option.bind_eq_some_iff.mp H
                      obtain ⟨t348, A270, H⟩ := H
                      replace H : ((impl_EarthMove.f k3 t340 ((l1.length : Int) % 25)).bind fun t349 => (if t348 ≤ t349 then (if (wrap64 (2 * x10_3)) ≤ (wrap64 ((t340.length : Int) * ((rd_L1 t340 0).length : Int))) then (some (decide ((wrap64 (2 * x11_3)) ≤ (wrap64 ((t340.length : Int) * ((rd_L1 t340 0).length : Int)))))) else (some false)) else (some false))) = some r := H
                      have A27 := Aside0.mk A270
                      clear A270
                      replace H := Option.bind_eq_some_iff.mp H
                      obtain ⟨t349, A280, H⟩ := H
                      replace H : (if t348 ≤ t349 then (if (wrap64 (2 * x10_3)) ≤ (wrap64 ((t340.length : Int) * ((rd_L1 t340 0).length : Int))) then (some (decide ((wrap64 (2 * x11_3)) ≤ (wrap64 ((t340.length : Int) * ((rd_L1 t340 0).length : Int)))))) else (some false)) else (some false)) = some r := H
                      have A28 := Aside0.mk A280
                      clear A280
                      by_cases c29 : t348 ≤ t349
                      · rw [if_pos c29] at H
                        have c29b0 : decide (t348 ≤ t349) = true := decide_eq_true c29
                        clear c29
                        by_cases c30 : (wrap64 (2 * x10_3)) ≤ (wrap64 ((t340.length : Int) * ((rd_L1 t340 0).length : Int)))
                        · rw [if_pos c30] at H
                          have c30b0 : decide ((wrap64 (2 * x10_3)) ≤ (wrap64 ((t340.length : Int) * ((rd_L1 t340 0).length : Int)))) = true := decide_eq_true c30
                          clear c30
                          obtain rfl := Option.some.inj H
                          have p347 : 0 ≤ (0 : Int) := (by omega)
                          have q347 : 0 < (t340.length : Int) := of_decide_eq_true (by first | (with_reducible assumption) | assumption)
                          obtain ⟨ad347, A347_0, c347_0, e347, hx347_0, hl347_0, hi347_0⟩ := at_L1 (Kd.S_reads' HO_5.out).2.2 0 p347 q347
                          cases e347
                          obtain ⟨ce347, hce347, hMe347, hcc347⟩ := Kd.S_get HO_5.out [] 0 p347 (by first | exact q347 | exact of_decide_eq_true (by first | (with_reducible assumption) | assumption) | (have e_ := (Kd.S_reads' HO_5.out).1; omega))
                          obtain ⟨ve347_0, rfl, ge347_0⟩ := hMe347
                          have hv347_0 := hcc347 0 _ rfl
                          rw [Nat.add_zero, show ((Kd.slice 3 (Kd.int .i64))).sz = 1 from rfl, Nat.mul_one] at hv347_0
                          replace hv347_0 := Option.some.inj (hv347_0.symm.trans hx347_0)
                          rw [hv347_0] at ge347_0
                          have HL347_0 := Aside0.mk (show Kd.R (Kd.int .i64) 3 _ _ _ _ (rd_L1 t340 0) from ge347_0)
                          clear hv347_0 ge347_0
                          clear hcc347 hce347
                          have qi347 : (0 < t340.length) = True := eq_true (by omega)
                          (try rw [show ((0 : Int)).toNat = 0 from rfl] at hx347_0)
                          (try rw [Addr.add_zero'] at hx347_0)
                          have HR347_0 := Aside0.mk hi347_0
                          have HC347_0 := Aside0.mk hl347_0
                          clear hi347_0 hl347_0
                          replace p347 := eq_true p347
                          replace q347 := eq_true q347
                          go_wp2_with (first | ((with_reducible refine gate_callee (f := 22) rfl ?_); refine goesL_ (some 105) rfl rfl Try.func22 (by kernel_rfl) rfl #[.slice (some ad347) t340.length co11, .int .i64 t343] rfl (by (try simp only [List.map_toArray, List.map_cons, List.map_nil]); first | done | rfl | (simp only [List.length_drop, List.length_take]; rfl)) ?_; (with_reducible refine (impl_EarthMove.calls k3 _ _ t340 t343 t348 _ ?side1 ?side2 A27.out).mono ?_); (case side1 => repeat (first | exact (Kd.S_reads' HO_5.out).2.2 | (with_reducible refine Kd.C_alloc ?_ _) | (with_reducible refine Kd.C_drewN ?_ _) | (with_reducible refine Kd.C_drew ?_))); (case side2 => exact (Kd.S_reads' HO_5.out).2.1); rintro e w31 ⟨rfl, hb⟩; refine ⟨_, rfl, ?_⟩; have n0_ := Aside0.mk (Kd.S_below (by (with_reducible repeat (first | apply Kd.S_alloc | apply Kd.S_drewN | apply Kd.S_drew)); exact HO_5.out) hb); have n1_ := Aside0.mk (Kd.R_below (by (with_reducible repeat (first | apply Kd.R_alloc | apply Kd.R_drewN | apply Kd.R_drew)); exact HL347_0.out) hb); have n2_ := Aside0.mk (Kd.C_below (by repeat (first | (with_reducible exact HR347_0.out) | (with_reducible refine Kd.C_alloc ?_ _) | (with_reducible refine Kd.C_drewN ?_ _) | (with_reducible refine Kd.C_drew ?_) | exact HR347_0.out)) hb); have n3_ := Aside0.mk (below_step (by repeat (first | (with_reducible first | exact HB.out | apply below_alloc | apply pw_below_drewN | apply below_drew1) | exact HB.out)) hb); clear HO_5; clear HL347_0; clear HR347_0; clear HB; have HO_5 := n0_; have HL347_0 := n1_; have HR347_0 := n2_; have HB := n3_; clear n0_ n1_ n2_ n3_; (try clear hb); (try clear hb2); (try clear hk); (try clear hi)) | ((with_reducible refine gate_callee (f := 22) rfl ?_); refine goesL_ (some 108) rfl rfl Try.func22 (by kernel_rfl) rfl #[.slice (some ad347) t340.length co11, .int .i64 ((l1.length : Int) % 25)] rfl (by (try simp only [List.map_toArray, List.map_cons, List.map_nil]); first | done | rfl | (simp only [List.length_drop, List.length_take]; rfl)) ?_; (with_reducible refine (impl_EarthMove.calls k3 _ _ t340 ((l1.length : Int) % 25) t349 _ ?side1 ?side2 A28.out).mono ?_); (case side1 => repeat (first | exact (Kd.S_reads' HO_5.out).2.2 | (with_reducible refine Kd.C_alloc ?_ _) | (with_reducible refine Kd.C_drewN ?_ _) | (with_reducible refine Kd.C_drew ?_))); (case side2 => exact (Kd.S_reads' HO_5.out).2.1); rintro e w32 ⟨rfl, hb⟩; refine ⟨_, rfl, ?_⟩; have n0_ := Aside0.mk (Kd.S_below (by (with_reducible repeat (first | apply Kd.S_alloc | apply Kd.S_drewN | apply Kd.S_drew)); exact HO_5.out) hb); have n1_ := Aside0.mk (Kd.R_below (by (with_reducible repeat (first | apply Kd.R_alloc | apply Kd.R_drewN | apply Kd.R_drew)); exact HL347_0.out) hb); have n2_ := Aside0.mk (Kd.C_below (by repeat (first | (with_reducible exact HR347_0.out) | (with_reducible refine Kd.C_alloc ?_ _) | (with_reducible refine Kd.C_drewN ?_ _) | (with_reducible refine Kd.C_drew ?_) | exact HR347_0.out)) hb); have n3_ := Aside0.mk (below_step (by repeat (first | (with_reducible first | exact HB.out | apply below_alloc | apply pw_below_drewN | apply below_drew1) | exact HB.out)) hb); clear HO_5; clear HL347_0; clear HR347_0; clear HB; have HO_5 := n0_; have HL347_0 := n1_; have HR347_0 := n2_; have HB := n3_; clear n0_ n1_ n2_ n3_; (try clear hb); (try clear hb2); (try clear hk); (try clear hi)))
                          go_ret
                          exact ⟨by first | rfl | (simp [errW_none, errW_some] <;> rfl) | (simp [*, errW_none, errW_some] <;> rfl), by repeat (first | (with_reducible first | exact HB.out | apply below_alloc | apply pw_below_drewN | apply below_drew1) | exact HB.out)⟩
                        · rw [if_neg c30] at H
                          have c30b0 : decide ((wrap64 (2 * x10_3)) ≤ (wrap64 ((t340.length : Int) * ((rd_L1 t340 0).length : Int)))) = false := decide_eq_false c30
                          clear c30
                          obtain rfl := Option.some.inj H
                          have p347 : 0 ≤ (0 : Int) := (by omega)
                          have q347 : 0 < (t340.length : Int) := of_decide_eq_true (by first | (with_reducible assumption) | assumption)
                          obtain ⟨ad347, A347_0, c347_0, e347, hx347_0, hl347_0, hi347_0⟩ := at_L1 (Kd.S_reads' HO_5.out).2.2 0 p347 q347
                          cases e347
                          obtain ⟨ce347, hce347, hMe347, hcc347⟩ := Kd.S_get HO_5.out [] 0 p347 (by first | exact q347 | exact of_decide_eq_true (by first | (with_reducible assumption) | assumption) | (have e_ := (Kd.S_reads' HO_5.out).1; omega))
                          obtain ⟨ve347_0, rfl, ge347_0⟩ := hMe347
                          have hv347_0 := hcc347 0 _ rfl
                          rw [Nat.add_zero, show ((Kd.slice 3 (Kd.int .i64))).sz = 1 from rfl, Nat.mul_one] at hv347_0
                          replace hv347_0 := Option.some.inj (hv347_0.symm.trans hx347_0)
                          rw [hv347_0] at ge347_0
                          have HL347_0 := Aside0.mk (show Kd.R (Kd.int .i64) 3 _ _ _ _ (rd_L1 t340 0) from ge347_0)
                          clear hv347_0 ge347_0
                          clear hcc347 hce347
                          have qi347 : (0 < t340.length) = True := eq_true (by omega)
                          (try rw [show ((0 : Int)).toNat = 0 from rfl] at hx347_0)
                          (try rw [Addr.add_zero'] at hx347_0)
                          have HR347_0 := Aside0.mk hi347_0
                          have HC347_0 := Aside0.mk hl347_0
                          clear hi347_0 hl347_0
                          replace p347 := eq_true p347
                          replace q347 := eq_true q347
                          go_wp2_with (first | ((with_reducible refine gate_callee (f := 22) rfl ?_); refine goesL_ (some 105) rfl rfl Try.func22 (by kernel_rfl) rfl #[.slice (some ad347) t340.length co11, .int .i64 t343] rfl (by (try simp only [List.map_toArray, List.map_cons, List.map_nil]); first | done | rfl | (simp only [List.length_drop, List.length_take]; rfl)) ?_; (with_reducible refine (impl_EarthMove.calls k3 _ _ t340 t343 t348 _ ?side1 ?side2 A27.out).mono ?_); (case side1 => repeat (first | exact (Kd.S_reads' HO_5.out).2.2 | (with_reducible refine Kd.C_alloc ?_ _) | (with_reducible refine Kd.C_drewN ?_ _) | (with_reducible refine Kd.C_drew ?_))); (case side2 => exact (Kd.S_reads' HO_5.out).2.1); rintro e w33 ⟨rfl, hb⟩; refine ⟨_, rfl, ?_⟩; have n0_ := Aside0.mk (Kd.S_below (by (with_reducible repeat (first | apply Kd.S_alloc | apply Kd.S_drewN | apply Kd.S_drew)); exact HO_5.out) hb); have n1_ := Aside0.mk (Kd.R_below (by (with_reducible repeat (first | apply Kd.R_alloc | apply Kd.R_drewN | apply Kd.R_drew)); exact HL347_0.out) hb); have n2_ := Aside0.mk (Kd.C_below (by repeat (first | (with_reducible exact HR347_0.out) | (with_reducible refine Kd.C_alloc ?_ _) | (with_reducible refine Kd.C_drewN ?_ _) | (with_reducible refine Kd.C_drew ?_) | exact HR347_0.out)) hb); have n3_ := Aside0.mk (below_step (by repeat (first | (with_reducible first | exact HB.out | apply below_alloc | apply pw_below_drewN | apply below_drew1) | exact HB.out)) hb); clear HO_5; clear HL347_0; clear HR347_0; clear HB; have HO_5 := n0_; have HL347_0 := n1_; have HR347_0 := n2_; have HB := n3_; clear n0_ n1_ n2_ n3_; (try clear hb); (try clear hb2); (try clear hk); (try clear hi)) | ((with_reducible refine gate_callee (f := 22) rfl ?_); refine goesL_ (some 108) rfl rfl Try.func22 (by kernel_rfl) rfl #[.slice (some ad347) t340.length co11, .int .i64 ((l1.length : Int) % 25)] rfl (by (try simp only [List.map_toArray, List.map_cons, List.map_nil]); first | done | rfl | (simp only [List.length_drop, List.length_take]; rfl)) ?_; (with_reducible refine (impl_EarthMove.calls k3 _ _ t340 ((l1.length : Int) % 25) t349 _ ?side1 ?side2 A28.out).mono ?_); (case side1 => repeat (first | exact (Kd.S_reads' HO_5.out).2.2 | (with_reducible refine Kd.C_alloc ?_ _) | (with_reducible refine Kd.C_drewN ?_ _) | (with_reducible refine Kd.C_drew ?_))); (case side2 => exact (Kd.S_reads' HO_5.out).2.1); rintro e w34 ⟨rfl, hb⟩; refine ⟨_, rfl, ?_⟩; have n0_ := Aside0.mk (Kd.S_below (by (with_reducible repeat (first | apply Kd.S_alloc | apply Kd.S_drewN | apply Kd.S_drew)); exact HO_5.out) hb); have n1_ := Aside0.mk (Kd.R_below (by (with_reducible repeat (first | apply Kd.R_alloc | apply Kd.R_drewN | apply Kd.R_drew)); exact HL347_0.out) hb); have n2_ := Aside0.mk (Kd.C_below (by repeat (first | (with_reducible exact HR347_0.out) | (with_reducible refine Kd.C_alloc ?_ _) | (with_reducible refine Kd.C_drewN ?_ _) | (with_reducible refine Kd.C_drew ?_) | exact HR347_0.out)) hb); have n3_ := Aside0.mk (below_step (by repeat (first | (with_reducible first | exact HB.out | apply below_alloc | apply pw_below_drewN | apply below_drew1) | exact HB.out)) hb); clear HO_5; clear HL347_0; clear HR347_0; clear HB; have HO_5 := n0_; have HL347_0 := n1_; have HR347_0 := n2_; have HB := n3_; clear n0_ n1_ n2_ n3_; (try clear hb); (try clear hb2); (try clear hk); (try clear hi)))
                          go_ret
                          exact ⟨by first | rfl | (simp [errW_none, errW_some] <;> rfl) | (simp [*, errW_none, errW_some] <;> rfl), by repeat (first | (with_reducible first | exact HB.out | apply below_alloc | apply pw_below_drewN | apply below_drew1) | exact HB.out)⟩
                      · rw [if_neg c29] at H
                        have c29b0 : decide (t348 ≤ t349) = false := decide_eq_false c29
                        clear c29
                        obtain rfl := Option.some.inj H
                        have p347 : 0 ≤ (0 : Int) := (by omega)
                        have q347 : 0 < (t340.length : Int) := of_decide_eq_true (by first | (with_reducible assumption) | assumption)
                        obtain ⟨ad347, A347_0, c347_0, e347, hx347_0, hl347_0, hi347_0⟩ := at_L1 (Kd.S_reads' HO_5.out).2.2 0 p347 q347
                        cases e347
                        obtain ⟨ce347, hce347, hMe347, hcc347⟩ := Kd.S_get HO_5.out [] 0 p347 (by first | exact q347 | exact of_decide_eq_true (by first | (with_reducible assumption) | assumption) | (have e_ := (Kd.S_reads' HO_5.out).1; omega))
                        obtain ⟨ve347_0, rfl, ge347_0⟩ := hMe347
                        have hv347_0 := hcc347 0 _ rfl
                        rw [Nat.add_zero, show ((Kd.slice 3 (Kd.int .i64))).sz = 1 from rfl, Nat.mul_one] at hv347_0
                        replace hv347_0 := Option.some.inj (hv347_0.symm.trans hx347_0)
                        rw [hv347_0] at ge347_0
                        have HL347_0 := Aside0.mk (show Kd.R (Kd.int .i64) 3 _ _ _ _ (rd_L1 t340 0) from ge347_0)
                        clear hv347_0 ge347_0
                        clear hcc347 hce347
                        have qi347 : (0 < t340.length) = True := eq_true (by omega)
                        (try rw [show ((0 : Int)).toNat = 0 from rfl] at hx347_0)
                        (try rw [Addr.add_zero'] at hx347_0)
                        have HR347_0 := Aside0.mk hi347_0
                        have HC347_0 := Aside0.mk hl347_0
                        clear hi347_0 hl347_0
                        replace p347 := eq_true p347
                        replace q347 := eq_true q347
                        go_wp2_with (first | ((with_reducible refine gate_callee (f := 22) rfl ?_); refine goesL_ (some 105) rfl rfl Try.func22 (by kernel_rfl) rfl #[.slice (some ad347) t340.length co11, .int .i64 t343] rfl (by (try simp only [List.map_toArray, List.map_cons, List.map_nil]); first | done | rfl | (simp only [List.length_drop, List.length_take]; rfl)) ?_; (with_reducible refine (impl_EarthMove.calls k3 _ _ t340 t343 t348 _ ?side1 ?side2 A27.out).mono ?_); (case side1 => repeat (first | exact (Kd.S_reads' HO_5.out).2.2 | (with_reducible refine Kd.C_alloc ?_ _) | (with_reducible refine Kd.C_drewN ?_ _) | (with_reducible refine Kd.C_drew ?_))); (case side2 => exact (Kd.S_reads' HO_5.out).2.1); rintro e w35 ⟨rfl, hb⟩; refine ⟨_, rfl, ?_⟩; have n0_ := Aside0.mk (Kd.S_below (by (with_reducible repeat (first | apply Kd.S_alloc | apply Kd.S_drewN | apply Kd.S_drew)); exact HO_5.out) hb); have n1_ := Aside0.mk (Kd.R_below (by (with_reducible repeat (first | apply Kd.R_alloc | apply Kd.R_drewN | apply Kd.R_drew)); exact HL347_0.out) hb); have n2_ := Aside0.mk (Kd.C_below (by repeat (first | (with_reducible exact HR347_0.out) | (with_reducible refine Kd.C_alloc ?_ _) | (with_reducible refine Kd.C_drewN ?_ _) | (with_reducible refine Kd.C_drew ?_) | exact HR347_0.out)) hb); have n3_ := Aside0.mk (below_step (by repeat (first | (with_reducible first | exact HB.out | apply below_alloc | apply pw_below_drewN | apply below_drew1) | exact HB.out)) hb); clear HO_5; clear HL347_0; clear HR347_0; clear HB; have HO_5 := n0_; have HL347_0 := n1_; have HR347_0 := n2_; have HB := n3_; clear n0_ n1_ n2_ n3_; (try clear hb); (try clear hb2); (try clear hk); (try clear hi)) | ((with_reducible refine gate_callee (f := 22) rfl ?_); refine goesL_ (some 108) rfl rfl Try.func22 (by kernel_rfl) rfl #[.slice (some ad347) t340.length co11, .int .i64 ((l1.length : Int) % 25)] rfl (by (try simp only [List.map_toArray, List.map_cons, List.map_nil]); first | done | rfl | (simp only [List.length_drop, List.length_take]; rfl)) ?_; (with_reducible refine (impl_EarthMove.calls k3 _ _ t340 ((l1.length : Int) % 25) t349 _ ?side1 ?side2 A28.out).mono ?_); (case side1 => repeat (first | exact (Kd.S_reads' HO_5.out).2.2 | (with_reducible refine Kd.C_alloc ?_ _) | (with_reducible refine Kd.C_drewN ?_ _) | (with_reducible refine Kd.C_drew ?_))); (case side2 => exact (Kd.S_reads' HO_5.out).2.1); rintro e w36 ⟨rfl, hb⟩; refine ⟨_, rfl, ?_⟩; have n0_ := Aside0.mk (Kd.S_below (by (with_reducible repeat (first | apply Kd.S_alloc | apply Kd.S_drewN | apply Kd.S_drew)); exact HO_5.out) hb); have n1_ := Aside0.mk (Kd.R_below (by (with_reducible repeat (first | apply Kd.R_alloc | apply Kd.R_drewN | apply Kd.R_drew)); exact HL347_0.out) hb); have n2_ := Aside0.mk (Kd.C_below (by repeat (first | (with_reducible exact HR347_0.out) | (with_reducible refine Kd.C_alloc ?_ _) | (with_reducible refine Kd.C_drewN ?_ _) | (with_reducible refine Kd.C_drew ?_) | exact HR347_0.out)) hb); have n3_ := Aside0.mk (below_step (by repeat (first | (with_reducible first | exact HB.out | apply below_alloc | apply pw_below_drewN | apply below_drew1) | exact HB.out)) hb); clear HO_5; clear HL347_0; clear HR347_0; clear HB; have HO_5 := n0_; have HL347_0 := n1_; have HR347_0 := n2_; have HB := n3_; clear n0_ n1_ n2_ n3_; (try clear hb); (try clear hb2); (try clear hk); (try clear hi)))
                        go_ret
                        exact ⟨by first | rfl | (simp [errW_none, errW_some] <;> rfl) | (simp [*, errW_none, errW_some] <;> rfl), by repeat (first | (with_reducible first | exact HB.out | apply below_alloc | apply pw_below_drewN | apply below_drew1) | exact HB.out)⟩
                    · rw [if_neg c26] at H
                      exact absurd H (by simp)

/-- THE ONE PURE STATEMENT of laws_FnEarthFlat: yours. -/
def laws_FnEarthFlat.Pure : Prop := ∀ (l0 : List Int) (l1 : List Int), l0.length ≤ maxLen → l0.length * 1 ≤ 140737488351232 → (∀ x ∈ l0, (Lit.int .u8 x).wf = true) → l1.length ≤ maxLen → l1.length * 1 ≤ 140737488351232 → (∀ x ∈ l1, (Lit.int .u8 x).wf = true) → ∃ k, laws_FnEarthFlat.f k l0 l1 = some true
theorem laws_FnEarthFlat.walk (P : laws_FnEarthFlat.Pure) (a0 : Option Addr) (len0 cap0 : Nat) (z0 : List Int) (a1 : Option Addr) (len1 cap1 : Nat) (z1 : List Int) (w : World) (w0 : (a0 = none ∧ len0 = 0 ∧ cap0 = 0 ∧ z0 = []) ∨ ∃ x, a0 = some x ∧ len0 ≤ cap0 ∧ cap0 ≤ maxLen ∧ z0.length = cap0 ∧ (∀ i, i < z0.length → w.cell? (x.add i) = some (.int .u8 (z0.getD i 0))) ∧ ∀ n ∈ z0, (Lit.int .u8 n).wf = true) (y0 : len0 * 1 ≤ 140737488351232) (w1 : (a1 = none ∧ len1 = 0 ∧ cap1 = 0 ∧ z1 = []) ∨ ∃ x, a1 = some x ∧ len1 ≤ cap1 ∧ cap1 ≤ maxLen ∧ z1.length = cap1 ∧ (∀ i, i < z1.length → w.cell? (x.add i) = some (.int .u8 (z1.getD i 0))) ∧ ∀ n ∈ z1, (Lit.int .u8 n).wf = true) (y1 : len1 * 1 ≤ 140737488351232) :
    Calls Try.prog 10 #[.slice a0 len0 cap0, .slice a1 len1 cap1] w fun e w' => e = .returned (.bool true) ∧ Below w.heap.size w w' := by
  obtain ⟨l0, rfl, hr0, hm0, hw0, hc0⟩ := ReadsInt.ofRowC w0
  obtain ⟨l1, rfl, hr1, hm1, hw1, hc1⟩ := ReadsInt.ofRowC w1
  obtain ⟨k, h⟩ := P l0 l1 hm0 y0 hw0 hm1 y1 hw1
  refine (laws_FnEarthFlat.calls k _ _ l0 _ _ l1 true w (Kd.C_of_reads (d := (0 : Int)) (h1 := fun _ => rfl) hr0) hc0 (Kd.C_of_reads (d := (0 : Int)) (h1 := fun _ => rfl) hr1) hc1 h).mono ?_
  rintro e w' ⟨rfl, hd⟩
  exact ⟨rfl, hd⟩

end Go.Proofs.Ytgngmbjcllfneaa.P

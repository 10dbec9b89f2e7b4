-- Written by a program of this session (wip/xprint.py over the print's own program), not by print.sh. Lean checks it.
import Derived.Test.YtkhemhmdapggmaaPx0
import Derived.Test.YtkhemhmdapggmaaPx14
import Derived.Test.YtkhemhmdapggmaaPx17
import Derived.Test.YtkhemhmdapggmaaPx18
import Derived.Test.YtkhemhmdapggmaaPx21
import Derived.Test.YtkhemhmdapggmaaPx35
namespace Go.Proofs.Ytkhemhmdapggmaa.P
open Go.RowKit Go.Proofs.YtkhemhmdapggmaaW.PrintWords Go.Proofs.YtkhemhmdapggmaaW.PrintLast Go.Proofs.YtkhemhmdapggmaaW.PrintMore
attribute [local go_sem] max2_int min2_int max_two min_two max_three min_three max_four min_four   -- for this text's walks alone
set_option linter.unusedVariables false
set_option linter.unusedSimpArgs false

/-! ### laws_FnCuts: function 12 -/
mutual
def laws_FnCuts.j0 : Nat → List (List Int) → Int → Int → Int → Bool → Option (Bool)
  | 0, _, _, _, _, _ => none
  | k + 1, x3, x4, x5, x6, x31 => if x31 = true then (some (x5 == x6)) else (laws_FnCuts.l0 k x3 x4 x5 0 0)
def laws_FnCuts.l0 : Nat → List (List Int) → Int → Int → Int → Int → Option (Bool)
  | 0, _, _, _, _, _ => none
  | k + 1, x3, x4, x5, x7, x8 => if x8 < (x3.length : Int) then (laws_FnCuts.l1 k x3 x4 x5 x7 x8 0) else ((impl_GridHigh.f k x3 x4).bind fun t450 => ((impl_GridRidge.f k x3 x4).bind fun t451 => (if (wrap64 (x5 + (wrap64 (2 * t451)))) = x7 then (if t450 > 0 then (if 0 < (x3.length : Int) then (if t450 < (wrap64 ((x3.length : Int) * ((rd_L1 x3 0).length : Int))) then (some true) else (some (x5 == 0))) else (none)) else (some (x5 == 0))) else (some false))))
def laws_FnCuts.l1 : Nat → List (List Int) → Int → Int → Int → Int → Int → Option (Bool)
  | 0, _, _, _, _, _, _ => none
  | k + 1, x3, x4, x5, x7, x8, x9 => if 0 ≤ x8 then (if x8 < (x3.length : Int) then (if x9 < ((rd_L1 x3 x8).length : Int) then (if 0 ≤ x9 then (if (rd (rd_L1 x3 x8) x9) < x4 then (laws_FnCuts.l1 k x3 x4 x5 x7 x8 (wrap64 (x9 + 1))) else (laws_FnCuts.l1 k x3 x4 x5 (wrap64 ((wrap64 ((wrap64 ((wrap64 (x7 + (mn 1 x8))) + (mn 1 x9))) + (mn 1 (wrap64 ((wrap64 ((x3.length : Int) - 1)) - x8))))) + (mn 1 (wrap64 ((wrap64 (((rd_L1 x3 x8).length : Int) - 1)) - x9))))) x8 (wrap64 (x9 + 1)))) else (none)) else (laws_FnCuts.l0 k x3 x4 x5 x7 (wrap64 (x8 + 1)))) else (none)) else (none)
end
def laws_FnCuts.f (k : Nat) (l0 : List Int) : Option (Bool) := if (l0.length : Int) > 1048576 then (some true) else ((spec_DrawGridCuts.f k l0).bind fun bt444 => ((impl_GridCuts.f k bt444.1 bt444.2).bind fun t448 => ((spec_GridCuts.f k bt444.1 bt444.2).bind fun t449 => (if t448 = t449 then (laws_FnCuts.j0 k bt444.1 bt444.2 t448 t449 (decide (t448 < 0))) else (laws_FnCuts.j0 k bt444.1 bt444.2 t448 t449 true)))))
theorem laws_FnCuts.mono_l : ∀ k, (∀ y0 y1 y2 y3 y4, LeO (laws_FnCuts.j0 k y0 y1 y2 y3 y4) (laws_FnCuts.j0 (k + 1) y0 y1 y2 y3 y4)) ∧ (∀ y0 y1 y2 y3 y4, LeO (laws_FnCuts.l0 k y0 y1 y2 y3 y4) (laws_FnCuts.l0 (k + 1) y0 y1 y2 y3 y4)) ∧ (∀ y0 y1 y2 y3 y4 y5, LeO (laws_FnCuts.l1 k y0 y1 y2 y3 y4 y5) (laws_FnCuts.l1 (k + 1) y0 y1 y2 y3 y4 y5))
  | 0 => ⟨fun _ _ _ _ _ r h => by simp [laws_FnCuts.j0] at h, fun _ _ _ _ _ r h => by simp [laws_FnCuts.l0] at h, fun _ _ _ _ _ _ r h => by simp [laws_FnCuts.l1] at h⟩
  | k + 1 => by
    obtain ⟨ih0, ih1, ih2⟩ := laws_FnCuts.mono_l k
    refine ⟨?_, ?_, ?_⟩
    · intro y0 y1 y2 y3 y4
      unfold laws_FnCuts.j0
      repeat' first
      | (with_reducible exact ih0 _ _ _ _ _)
      | (with_reducible exact ih1 _ _ _ _ _)
      | (with_reducible exact ih2 _ _ _ _ _ _)
      | (with_reducible exact impl_GridCuts.mono _ _ _)
      | (with_reducible exact impl_GridHigh.mono _ _ _)
      | (with_reducible exact impl_GridRidge.mono _ _ _)
      | (with_reducible exact spec_DrawGridCuts.mono _ _)
      | (with_reducible exact spec_GridCuts.mono _ _ _)
      | (with_reducible exact LeO.refl _)
      | (with_reducible exact LeO.none _)
      | (with_reducible refine LeO.ite ?_ ?_)
      | (with_reducible refine LeO.bind ?_ (fun _ => ?_))
      | exact ih0 _ _ _ _ _
      | exact ih1 _ _ _ _ _
      | exact ih2 _ _ _ _ _ _
      | exact impl_GridCuts.mono _ _ _
      | exact impl_GridHigh.mono _ _ _
      | exact impl_GridRidge.mono _ _ _
      | exact spec_DrawGridCuts.mono _ _
      | exact spec_GridCuts.mono _ _ _
      | exact LeO.none _
      | refine LeO.ite ?_ ?_
      | refine LeO.bind ?_ (fun _ => ?_)
    · intro y0 y1 y2 y3 y4
      unfold laws_FnCuts.l0
      repeat' first
      | (with_reducible exact ih0 _ _ _ _ _)
      | (with_reducible exact ih1 _ _ _ _ _)
      | (with_reducible exact ih2 _ _ _ _ _ _)
      | (with_reducible exact impl_GridCuts.mono _ _ _)
      | (with_reducible exact impl_GridHigh.mono _ _ _)
      | (with_reducible exact impl_GridRidge.mono _ _ _)
      | (with_reducible exact spec_DrawGridCuts.mono _ _)
      | (with_reducible exact spec_GridCuts.mono _ _ _)
      | (with_reducible exact LeO.refl _)
      | (with_reducible exact LeO.none _)
      | (with_reducible refine LeO.ite ?_ ?_)
      | (with_reducible refine LeO.bind ?_ (fun _ => ?_))
      | exact ih0 _ _ _ _ _
      | exact ih1 _ _ _ _ _
      | exact ih2 _ _ _ _ _ _
      | exact impl_GridCuts.mono _ _ _
      | exact impl_GridHigh.mono _ _ _
      | exact impl_GridRidge.mono _ _ _
      | exact spec_DrawGridCuts.mono _ _
      | exact spec_GridCuts.mono _ _ _
      | exact LeO.none _
      | refine LeO.ite ?_ ?_
      | refine LeO.bind ?_ (fun _ => ?_)
    · intro y0 y1 y2 y3 y4 y5
      unfold laws_FnCuts.l1
      repeat' first
      | (with_reducible exact ih0 _ _ _ _ _)
      | (with_reducible exact ih1 _ _ _ _ _)
      | (with_reducible exact ih2 _ _ _ _ _ _)
      | (with_reducible exact impl_GridCuts.mono _ _ _)
      | (with_reducible exact impl_GridHigh.mono _ _ _)
      | (with_reducible exact impl_GridRidge.mono _ _ _)
      | (with_reducible exact spec_DrawGridCuts.mono _ _)
      | (with_reducible exact spec_GridCuts.mono _ _ _)
      | (with_reducible exact LeO.refl _)
      | (with_reducible exact LeO.none _)
      | (with_reducible refine LeO.ite ?_ ?_)
      | (with_reducible refine LeO.bind ?_ (fun _ => ?_))
      | exact ih0 _ _ _ _ _
      | exact ih1 _ _ _ _ _
      | exact ih2 _ _ _ _ _ _
      | exact impl_GridCuts.mono _ _ _
      | exact impl_GridHigh.mono _ _ _
      | exact impl_GridRidge.mono _ _ _
      | exact spec_DrawGridCuts.mono _ _
      | exact spec_GridCuts.mono _ _ _
      | exact LeO.none _
      | refine LeO.ite ?_ ?_
      | refine LeO.bind ?_ (fun _ => ?_)
theorem laws_FnCuts.mono : ∀ a0 k, LeO (laws_FnCuts.f k a0) (laws_FnCuts.f (k + 1) a0) := by
  intro a0 k
  obtain ⟨ih0, ih1, ih2⟩ := laws_FnCuts.mono_l k
  unfold laws_FnCuts.f
  repeat' first
      | (with_reducible exact ih0 _ _ _ _ _)
      | (with_reducible exact ih1 _ _ _ _ _)
      | (with_reducible exact ih2 _ _ _ _ _ _)
      | (with_reducible exact impl_GridCuts.mono _ _ _)
      | (with_reducible exact impl_GridHigh.mono _ _ _)
      | (with_reducible exact impl_GridRidge.mono _ _ _)
      | (with_reducible exact spec_DrawGridCuts.mono _ _)
      | (with_reducible exact spec_GridCuts.mono _ _ _)
      | (with_reducible exact LeO.refl _)
      | (with_reducible exact LeO.none _)
      | (with_reducible refine LeO.ite ?_ ?_)
      | (with_reducible refine LeO.bind ?_ (fun _ => ?_))
      | exact ih0 _ _ _ _ _
      | exact ih1 _ _ _ _ _
      | exact ih2 _ _ _ _ _ _
      | exact impl_GridCuts.mono _ _ _
      | exact impl_GridHigh.mono _ _ _
      | exact impl_GridRidge.mono _ _ _
      | exact spec_DrawGridCuts.mono _ _
      | exact spec_GridCuts.mono _ _ _
      | exact LeO.none _
      | refine LeO.ite ?_ ?_
      | refine LeO.bind ?_ (fun _ => ?_)
set_option maxHeartbeats 8000000 in
set_option maxRecDepth 100000 in
theorem laws_FnCuts.calls (k : Nat) (A0 : Option Addr) (c0 : Nat) (l0 : List Int) (r : Bool) (w : World) (hr0 : Kd.C (Kd.int .u8) w A0 l0.length l0) (hc0 : l0.length ≤ c0) (h : laws_FnCuts.f k l0 = some r) :
    Calls Try.prog 12 #[.slice A0 l0.length c0] w fun e w' => e = .returned (.bool r) ∧ Below w.heap.size w w' := by
  have HR0 := Aside0.mk hr0
  have HC0 := Aside0.mk hc0
  clear hr0 hc0
  have HB := Aside0.mk (Below.refl w.heap.size w)
  have H : (if (l0.length : Int) > 1048576 then (some true) else ((spec_DrawGridCuts.f k l0).bind fun bt444 => ((impl_GridCuts.f k bt444.1 bt444.2).bind fun t448 => ((spec_GridCuts.f k bt444.1 bt444.2).bind fun t449 => (if t448 = t449 then (laws_FnCuts.j0 k bt444.1 bt444.2 t448 t449 (decide (t448 < 0))) else (laws_FnCuts.j0 k bt444.1 bt444.2 t448 t449 true)))))) = some r := h
  clear h
  by_cases c2 : (l0.length : Int) > 1048576
  · rw [if_pos c2] at H
    have c2b0 : decide (1048576 < (l0.length : Int)) = true := decide_eq_true c2
    have c2b1 : decide (1048576 < l0.length) = true := decide_eq_true (by omega)
    clear c2
    obtain rfl := Option.some.inj H
    go_enter Try.func12, Try.ntmps12
    go_wp2
    go_ret
    exact ⟨by first | rfl | (simp [errW_none, errW_some] <;> rfl) | (simp [*, errW_none, errW_some] <;> rfl), by repeat (first | (with_reducible first | exact HB.out | apply below_alloc | apply pw_below_drewN | apply below_drew1) | exact HB.out)⟩
  · rw [if_neg c2] at H
    have c2b0 : decide (1048576 < (l0.length : Int)) = false := decide_eq_false c2
    have c2b1 : decide (1048576 < l0.length) = false := decide_eq_false (by omega)
    clear c2
    replace H := Option.bind_eq_some_iff.mp H
    obtain ⟨⟨t444, t445⟩, A30, H⟩ := H
    replace H : ((impl_GridCuts.f k t444 t445).bind fun t448 => ((spec_GridCuts.f k t444 t445).bind fun t449 => (if t448 = t449 then (laws_FnCuts.j0 k t444 t445 t448 t449 (decide (t448 < 0))) else (laws_FnCuts.j0 k t444 t445 t448 t449 true)))) = some r := H
    have A3 := Aside0.mk A30
    clear A30
    replace H := Option.bind_eq_some_iff.mp H
    obtain ⟨t448, A40, H⟩ := H
    replace H : ((spec_GridCuts.f k t444 t445).bind fun t449 => (if t448 = t449 then (laws_FnCuts.j0 k t444 t445 t448 t449 (decide (t448 < 0))) else (laws_FnCuts.j0 k t444 t445 t448 t449 true))) = some r := H
    have A4 := Aside0.mk A40
    clear A40
    replace H := Option.bind_eq_some_iff.mp H
    obtain ⟨t449, A50, H⟩ := H
    replace H : (if t448 = t449 then (laws_FnCuts.j0 k t444 t445 t448 t449 (decide (t448 < 0))) else (laws_FnCuts.j0 k t444 t445 t448 t449 true)) = some r := H
    have A5 := Aside0.mk A50
    clear A50
    have HC6 := Aside0.mk H
    clear H
    go_enter Try.func12, Try.ntmps12
    go_upto_region 6 with (first | ((with_reducible refine gate_callee (f := 36) rfl ?_); refine goesL_ (some 16) rfl rfl Try.func36 (by kernel_rfl) rfl #[.slice A0 l0.length c0] rfl (by (try simp only [List.map_toArray, List.map_cons, List.map_nil]); first | done | rfl | (simp only [List.length_drop, List.length_take]; rfl)) ?_; (with_reducible refine (spec_DrawGridCuts.calls k _ _ l0 t444 t445 _ ?side1 ?side2 A3.out).mono ?_); (case side1 => repeat (first | exact HR0.out | (with_reducible refine Kd.C_alloc ?_ _) | (with_reducible refine Kd.C_drewN ?_ _) | (with_reducible refine Kd.C_drew ?_))); (case side2 => exact HC0.out); rintro e w7 ⟨v446, rfl, ho0, hb⟩; refine ⟨_, rfl, ?_⟩; have n0_ := Aside0.mk (Kd.S_lower ho0 (below_size (by repeat (first | (with_reducible first | exact HB.out | apply below_alloc | apply pw_below_drewN | apply below_drew1) | exact HB.out)))); have n1_ := Aside0.mk (below_step (by repeat (first | (with_reducible first | exact HB.out | apply below_alloc | apply pw_below_drewN | apply below_drew1) | exact HB.out)) hb); clear HB; have HO447 := n0_; have HB := n1_; clear n0_ n1_; (try clear hb); (try clear hb2); (try clear hk); (try clear hi); (try clear ho0); obtain ⟨Ao8, co8, eo8⟩ := Kd.S_slice HO447.out; subst eo8) | ((with_reducible refine gate_callee (f := 25) rfl ?_); refine goesL_ (some 21) rfl rfl Try.func25 (by kernel_rfl) rfl #[.slice Ao8 t444.length co8, .int .i64 t445] rfl (by (try simp only [List.map_toArray, List.map_cons, List.map_nil]); first | done | rfl | (simp only [List.length_drop, List.length_take]; rfl)) ?_; (with_reducible refine (impl_GridCuts.calls k _ _ t444 t445 t448 _ ?side1 ?side2 A4.out).mono ?_); (case side1 => repeat (first | exact (Kd.S_reads' HO447.out).2.2 | (with_reducible refine Kd.C_alloc ?_ _) | (with_reducible refine Kd.C_drewN ?_ _) | (with_reducible refine Kd.C_drew ?_))); (case side2 => exact (Kd.S_reads' HO447.out).2.1); rintro e w9 ⟨rfl, hb⟩; refine ⟨_, rfl, ?_⟩; have n0_ := Aside0.mk (Kd.S_below (by (with_reducible repeat (first | apply Kd.S_alloc | apply Kd.S_drewN | apply Kd.S_drew)); exact HO447.out) hb); have n1_ := Aside0.mk (below_step (by repeat (first | (with_reducible first | exact HB.out | apply below_alloc | apply pw_below_drewN | apply below_drew1) | exact HB.out)) hb); clear HO447; clear HB; have HO447 := n0_; have HB := n1_; clear n0_ n1_; (try clear hb); (try clear hb2); (try clear hk); (try clear hi)) | ((with_reducible refine gate_callee (f := 24) rfl ?_); refine goesL_ (some 24) rfl rfl Try.func24 (by kernel_rfl) rfl #[.slice Ao8 t444.length co8, .int .i64 t445] rfl (by (try simp only [List.map_toArray, List.map_cons, List.map_nil]); first | done | rfl | (simp only [List.length_drop, List.length_take]; rfl)) ?_; (with_reducible refine (spec_GridCuts.calls k _ _ t444 t445 t449 _ ?side1 ?side2 A5.out).mono ?_); (case side1 => repeat (first | exact (Kd.S_reads' HO447.out).2.2 | (with_reducible refine Kd.C_alloc ?_ _) | (with_reducible refine Kd.C_drewN ?_ _) | (with_reducible refine Kd.C_drew ?_))); (case side2 => exact (Kd.S_reads' HO447.out).2.1); rintro e w' ⟨rfl, ⟨nd, rfl⟩⟩; refine ⟨_, rfl, ?_⟩))
    (try simp only [Act.put, List.setIfInBounds_toArray, List.set_cons_zero, List.set_cons_succ])
    go_cut [31] (fun v31 wc => ∃ (kq : Nat) (x31_5 : Bool), v31 = .bool x31_5 ∧ Aside0 (laws_FnCuts.j0 kq t444 t445 t448 t449 x31_5 = some r) ∧ Aside0 (kq ≤ k) ∧ Aside0 (Kd.S (Kd.slice 3 (Kd.int .i64)) 35 wc w.heap.size (fun _ => True) (.slice Ao8 t444.length co8) t444) ∧ Aside0 (Below w.heap.size w wc))
    case first =>
      have H := HC6.out
      clear HC6
      by_cases c10 : t448 = t449
      · rw [if_pos c10] at H
        have c10b0 : (t448 == t449) = true := beq_iff_eq.mpr c10
        have c10b1 : (t448 != t449) = false := bne_eq_false_iff_eq.mpr c10
        clear c10
        (first | rw [c10b0] | (simp only [i64_w, i32_w]; rw [c10b0]) | skip)
        have H' := Aside0.mk H
        clear H
        go_wp2
        go_meet
        case rel => exact ⟨_, (decide (t448 < 0)), (by first | rfl | (simp; done) | (simp [*]; done)), H', ⟨by first | omega | exact Nat.le_refl _⟩, ⟨by (with_reducible repeat (first | apply Kd.S_alloc | apply Kd.S_drewN | apply Kd.S_drew)); exact HO447.out⟩, ⟨by repeat (first | (with_reducible first | exact HB.out | apply below_alloc | apply pw_below_drewN | apply below_drew1) | exact HB.out)⟩⟩
      · rw [if_neg c10] at H
        have c10b0 : (t448 == t449) = false := beq_eq_false_iff_ne.mpr c10
        have c10b1 : (t448 != t449) = true := bne_iff_ne.mpr c10
        (first | rw [c10b0] | (simp only [i64_w, i32_w]; rw [c10b0]) | skip)
        have H' := Aside0.mk H
        clear H
        go_wp2
        go_meet
        case rel => exact ⟨_, (true), (by first | rfl | (simp; done) | (simp [*]; done)), H', ⟨by first | omega | exact Nat.le_refl _⟩, ⟨by (with_reducible repeat (first | apply Kd.S_alloc | apply Kd.S_drewN | apply Kd.S_drew)); exact HO447.out⟩, ⟨by repeat (first | (with_reducible first | exact HB.out | apply below_alloc | apply pw_below_drewN | apply below_drew1) | exact HB.out)⟩⟩
    case rest =>
      clear HC6
      try clear c1
      try clear c2
      try clear c2b0
      try clear c2b1
      try clear p2
      try clear c3
      try clear c10
      try clear c10b0
      try clear c10b1
      obtain ⟨kq, x31_5, rfl, HA, HJ5, HO_3, HB⟩ := hcut
      cases kq with
      | zero => exact absurd HA.out (by simp [laws_FnCuts.j0])
      | succ kj5 =>
        have H := HA.out
        clear HA
        simp only [laws_FnCuts.j0] at H
        by_cases c11 : x31_5 = true
        · subst c11
          have H1 : (some (t448 == t449)) = some r := by rw [if_pos rfl] at H; exact H
          clear H
          have H := H1
          clear H1
          obtain rfl := Option.some.inj H
          go_wp2
          go_ret
          exact ⟨by first | rfl | (simp [errW_none, errW_some] <;> rfl) | (simp [*, errW_none, errW_some] <;> rfl), by repeat (first | (with_reducible first | exact HB.out | apply below_alloc | apply pw_below_drewN | apply below_drew1) | exact HB.out)⟩
        · replace c11 := Bool.eq_false_iff.mpr c11
          subst c11
          have H1 : (laws_FnCuts.l0 kj5 t444 t445 t448 0 0) = some r := by rw [if_neg (show ¬ (false = true) by decide)] at H; exact H
          clear H
          have H := H1
          clear H1
          have H' := Aside0.mk H
          clear H
          go_wp2
          go_loopg [7, 8] kj5 (fun kq v7 v8 w' => ∃ (x7_2 : Int) (x8_2 : Int), v7 = .int .i64 x7_2 ∧ v8 = .int .i64 x8_2 ∧ Aside0 (laws_FnCuts.l0 kq t444 t445 t448 x7_2 x8_2 = some r) ∧ Aside0 (kq ≤ kj5) ∧ Aside0 (Kd.S (Kd.slice 3 (Kd.int .i64)) 35 w' w.heap.size (fun _ => True) (.slice Ao8 t444.length co8) t444) ∧ Aside0 (Below w.heap.size w w'))
          case atStart => exact ⟨(0), (0), (by first | rfl | (simp; done) | (simp [*]; done)), (by first | rfl | (simp; done) | (simp [*]; done)), H', ⟨Nat.le_refl _⟩, ⟨by (with_reducible repeat (first | apply Kd.S_alloc | apply Kd.S_drewN | apply Kd.S_drew)); exact HO_3.out⟩, ⟨by repeat (first | (with_reducible first | exact HB.out | apply below_alloc | apply pw_below_drewN | apply below_drew1) | exact HB.out)⟩⟩
          case round =>
            clear H'
            try clear c1
            try clear c2
            try clear c2b0
            try clear c2b1
            try clear p2
            try clear c3
            try clear c10
            try clear c10b0
            try clear c10b1
            try clear c11
            try clear p2
            obtain ⟨x7_2, x8_2, rfl, rfl, HA, HK2, HO_3, HB⟩ := hrel
            cases gk with
            | zero => exact absurd HA.out (by simp [laws_FnCuts.l0])
            | succ k2 =>
              have H := HA.out
              clear HA
              simp only [laws_FnCuts.l0] at H
              by_cases c12 : x8_2 < (t444.length : Int)
              · rw [if_pos c12] at H
                have c12b0 : decide (x8_2 < (t444.length : Int)) = true := decide_eq_true c12
                clear c12
                have H' := Aside0.mk H
                clear H
                go_wp2
                go_loopg [7, 9] k2 (fun kq v7 v9 w' => ∃ (x7_3 : Int) (x9_3 : Int), v7 = .int .i64 x7_3 ∧ v9 = .int .i64 x9_3 ∧ Aside0 (laws_FnCuts.l1 kq t444 t445 t448 x7_3 x8_2 x9_3 = some r) ∧ Aside0 (kq ≤ k2) ∧ Aside0 (Kd.S (Kd.slice 3 (Kd.int .i64)) 35 w' w.heap.size (fun _ => True) (.slice Ao8 t444.length co8) t444) ∧ Aside0 (Below w.heap.size w w'))
                case atStart => exact ⟨(x7_2), (0), (by first | rfl | (simp; done) | (simp [*]; done)), (by first | rfl | (simp; done) | (simp [*]; done)), H', ⟨Nat.le_refl _⟩, ⟨by (with_reducible repeat (first | apply Kd.S_alloc | apply Kd.S_drewN | apply Kd.S_drew)); exact HO_3.out⟩, ⟨by repeat (first | (with_reducible first | exact HB.out | apply below_alloc | apply pw_below_drewN | apply below_drew1) | exact HB.out)⟩⟩
                case round =>
                  clear H'
                  try clear c1
                  try clear c2
                  try clear c2b0
                  try clear c2b1
                  try clear p2
                  try clear c3
                  try clear c10
                  try clear c10b0
                  try clear c10b1
                  try clear c11
                  try clear c12
                  try clear c12b0
                  try clear p2
                  obtain ⟨x7_3, x9_3, rfl, rfl, HA, HK3, HO_3, HB⟩ := hrel
                  cases gk with
                  | zero => exact absurd HA.out (by simp [laws_FnCuts.l1])
                  | succ k3 =>
                    have H := HA.out
                    clear HA
                    simp only [laws_FnCuts.l1] at H
                    by_cases c13 : 0 ≤ x8_2
                    · rw [if_pos c13] at H
                      have c13b0 : decide (0 ≤ x8_2) = true := decide_eq_true c13
                      clear c13
                      by_cases c14 : x8_2 < (t444.length : Int)
                      · rw [if_pos c14] at H
                        have c14b0 : decide (x8_2 < (t444.length : Int)) = true := decide_eq_true c14
                        clear c14
                        by_cases c15 : x9_3 < ((rd_L1 t444 x8_2).length : Int)
                        · rw [if_pos c15] at H
                          have c15b0 : decide (x9_3 < ((rd_L1 t444 x8_2).length : Int)) = true := decide_eq_true c15
                          clear c15
                          by_cases c16 : 0 ≤ x9_3
                          · rw [if_pos c16] at H
                            have c16b0 : decide (0 ≤ x9_3) = true := decide_eq_true c16
                            clear c16
                            by_cases c17 : (rd (rd_L1 t444 x8_2) x9_3) < t445
                            · rw [if_pos c17] at H
                              have c17b0 : decide ((rd (rd_L1 t444 x8_2) x9_3) < t445) = true := decide_eq_true c17
                              clear c17
                              have H' := Aside0.mk H
                              clear H
                              have p453 : 0 ≤ (x8_2 : Int) := of_decide_eq_true (by first | (with_reducible assumption) | assumption)
                              have q453 : x8_2 < (t444.length : Int) := of_decide_eq_true (by first | (with_reducible assumption) | assumption)
                              obtain ⟨ad453, A453_0, c453_0, e453, hx453_0, hl453_0, hi453_0⟩ := at_L1 (Kd.S_reads' HO_3.out).2.2 x8_2 p453 q453
                              cases e453
                              obtain ⟨ce453, hce453, hMe453, hcc453⟩ := Kd.S_get HO_3.out [] x8_2 p453 (by first | exact q453 | exact of_decide_eq_true (by first | (with_reducible assumption) | assumption) | (have e_ := (Kd.S_reads' HO_3.out).1; omega))
                              obtain ⟨ve453_0, rfl, ge453_0⟩ := hMe453
                              have hv453_0 := hcc453 0 _ rfl
                              rw [Nat.add_zero, show ((Kd.slice 3 (Kd.int .i64))).sz = 1 from rfl, Nat.mul_one] at hv453_0
                              replace hv453_0 := Option.some.inj (hv453_0.symm.trans hx453_0)
                              rw [hv453_0] at ge453_0
                              have HL453_0 := Aside0.mk (show Kd.R (Kd.int .i64) 3 _ _ _ _ (rd_L1 t444 x8_2) from ge453_0)
                              clear hv453_0 ge453_0
                              clear hcc453 hce453
                              have HR453_0 := Aside0.mk hi453_0
                              have HC453_0 := Aside0.mk hl453_0
                              clear hi453_0 hl453_0
                              replace p453 := eq_true p453
                              replace q453 := eq_true q453
                              have p454 : 0 ≤ (x8_2 : Int) := of_decide_eq_true (by first | (with_reducible assumption) | assumption)
                              have q454 : x8_2 < (t444.length : Int) := of_decide_eq_true (by first | (with_reducible assumption) | assumption)
                              obtain ⟨ad454, A454_0, c454_0, e454, hx454_0, hl454_0, hi454_0⟩ := at_L1 (Kd.S_reads' HO_3.out).2.2 x8_2 p454 q454
                              obtain rfl : ad453 = ad454 := (by injection e454)
                              obtain ⟨ce454, hce454, hMe454, hcc454⟩ := Kd.S_get HO_3.out [] x8_2 p454 (by first | exact q454 | exact of_decide_eq_true (by first | (with_reducible assumption) | assumption) | (have e_ := (Kd.S_reads' HO_3.out).1; omega))
                              obtain ⟨ve454_0, rfl, ge454_0⟩ := hMe454
                              have hv454_0 := hcc454 0 _ rfl
                              rw [Nat.add_zero, show ((Kd.slice 3 (Kd.int .i64))).sz = 1 from rfl, Nat.mul_one] at hv454_0
                              replace hv454_0 := Option.some.inj (hv454_0.symm.trans hx454_0)
                              rw [hv454_0] at ge454_0
                              have HL454_0 := Aside0.mk (show Kd.R (Kd.int .i64) 3 _ _ _ _ (rd_L1 t444 x8_2) from ge454_0)
                              clear hv454_0 ge454_0
                              clear hcc454 hce454
                              have HR454_0 := Aside0.mk hi454_0
                              have HC454_0 := Aside0.mk hl454_0
                              clear hi454_0 hl454_0
                              replace p454 := eq_true p454
                              replace q454 := eq_true q454
                              have ea_ := Option.some.inj (hx453_0.symm.trans hx454_0)
                              injection ea_ with ea_ en_ ec_
                              subst ea_
                              subst ec_
                              clear en_
                              have p455 : 0 ≤ (x9_3 : Int) := of_decide_eq_true (by first | (with_reducible assumption) | assumption)
                              have q455 : x9_3 < ((rd_L1 t444 x8_2).length : Int) := of_decide_eq_true (by first | (with_reducible assumption) | assumption)
                              obtain ⟨ad455, e455, hx455_0⟩ := Kd.at_int (by repeat (first | (with_reducible exact HR454_0.out) | (with_reducible refine Kd.C_alloc ?_ _) | (with_reducible refine Kd.C_drewN ?_ _) | (with_reducible refine Kd.C_drew ?_) | exact HR454_0.out)) x9_3 p455 q455
                              cases e455
                              replace p455 := eq_true p455
                              replace q455 := eq_true q455
                              go_wp2
                              go_roundg k3
                              case measure => have := HJ5.out; have := HK2.out; have := HK3.out; omega
                              case rel => exact ⟨(x7_3), (wrap64 (x9_3 + 1)), (by first | rfl | (simp; done) | (simp [*]; done)), (by first | rfl | (simp; done) | (simp [*]; done)), H', ⟨by have := HJ5.out; have := HK2.out; have := HK3.out; omega⟩, ⟨by (with_reducible repeat (first | apply Kd.S_alloc | apply Kd.S_drewN | apply Kd.S_drew)); exact HO_3.out⟩, ⟨by repeat (first | (with_reducible first | exact HB.out | apply below_alloc | apply pw_below_drewN | apply below_drew1) | exact HB.out)⟩⟩
                            · rw [if_neg c17] at H
                              have c17b0 : decide ((rd (rd_L1 t444 x8_2) x9_3) < t445) = false := decide_eq_false c17
                              clear c17
                              obtain ⟨ji18, hji18⟩ : ∃ j_ : Int, (mn 1 x8_2) = j_ := ⟨_, rfl⟩
                              replace H : (laws_FnCuts.l1 k3 t444 t445 t448 (wrap64 ((wrap64 ((wrap64 ((wrap64 (x7_3 + (ji18))) + (mn 1 x9_3))) + (mn 1 (wrap64 ((wrap64 ((t444.length : Int) - 1)) - x8_2))))) + (mn 1 (wrap64 ((wrap64 (((rd_L1 t444 x8_2).length : Int) - 1)) - x9_3))))) x8_2 (wrap64 (x9_3 + 1))) = some r := by first | (rw [hji18] at H; exact H) | (simp only [hji18] at H ⊢; exact H)
                              have hji18_ : (if x8_2 < 1 then x8_2 else 1) = ji18 := hji18
                              obtain ⟨ji19, hji19⟩ : ∃ j_ : Int, (mn 1 x9_3) = j_ := ⟨_, rfl⟩
                              replace H : (laws_FnCuts.l1 k3 t444 t445 t448 (wrap64 ((wrap64 ((wrap64 ((wrap64 (x7_3 + (ji18))) + (ji19))) + (mn 1 (wrap64 ((wrap64 ((t444.length : Int) - 1)) - x8_2))))) + (mn 1 (wrap64 ((wrap64 (((rd_L1 t444 x8_2).length : Int) - 1)) - x9_3))))) x8_2 (wrap64 (x9_3 + 1))) = some r := by first | (rw [hji19] at H; exact H) | (simp only [hji19] at H ⊢; exact H)
                              have hji19_ : (if x9_3 < 1 then x9_3 else 1) = ji19 := hji19
                              obtain ⟨ji20, hji20⟩ : ∃ j_ : Int, (mn 1 (wrap64 ((wrap64 ((t444.length : Int) - 1)) - x8_2))) = j_ := ⟨_, rfl⟩
                              replace H : (laws_FnCuts.l1 k3 t444 t445 t448 (wrap64 ((wrap64 ((wrap64 ((wrap64 (x7_3 + (ji18))) + (ji19))) + (ji20))) + (mn 1 (wrap64 ((wrap64 (((rd_L1 t444 x8_2).length : Int) - 1)) - x9_3))))) x8_2 (wrap64 (x9_3 + 1))) = some r := by first | (rw [hji20] at H; exact H) | (simp only [hji20] at H ⊢; exact H)
                              have hji20_ : (if (wrap64 ((wrap64 ((t444.length : Int) - 1)) - x8_2)) < 1 then (wrap64 ((wrap64 ((t444.length : Int) - 1)) - x8_2)) else 1) = ji20 := hji20
                              obtain ⟨ji21, hji21⟩ : ∃ j_ : Int, (mn 1 (wrap64 ((wrap64 (((rd_L1 t444 x8_2).length : Int) - 1)) - x9_3))) = j_ := ⟨_, rfl⟩
                              replace H : (laws_FnCuts.l1 k3 t444 t445 t448 (wrap64 ((wrap64 ((wrap64 ((wrap64 (x7_3 + (ji18))) + (ji19))) + (ji20))) + (ji21))) x8_2 (wrap64 (x9_3 + 1))) = some r := by first | (rw [hji21] at H; exact H) | (simp only [hji21] at H ⊢; exact H)
                              have hji21_ : (if (wrap64 ((wrap64 (((rd_L1 t444 x8_2).length : Int) - 1)) - x9_3)) < 1 then (wrap64 ((wrap64 (((rd_L1 t444 x8_2).length : Int) - 1)) - x9_3)) else 1) = ji21 := hji21
                              have H' := Aside0.mk H
                              clear H
                              have p453 : 0 ≤ (x8_2 : Int) := of_decide_eq_true (by first | (with_reducible assumption) | assumption)
                              have q453 : x8_2 < (t444.length : Int) := of_decide_eq_true (by first | (with_reducible assumption) | assumption)
                              obtain ⟨ad453, A453_0, c453_0, e453, hx453_0, hl453_0, hi453_0⟩ := at_L1 (Kd.S_reads' HO_3.out).2.2 x8_2 p453 q453
                              cases e453
                              obtain ⟨ce453, hce453, hMe453, hcc453⟩ := Kd.S_get HO_3.out [] x8_2 p453 (by first | exact q453 | exact of_decide_eq_true (by first | (with_reducible assumption) | assumption) | (have e_ := (Kd.S_reads' HO_3.out).1; omega))
                              obtain ⟨ve453_0, rfl, ge453_0⟩ := hMe453
                              have hv453_0 := hcc453 0 _ rfl
                              rw [Nat.add_zero, show ((Kd.slice 3 (Kd.int .i64))).sz = 1 from rfl, Nat.mul_one] at hv453_0
                              replace hv453_0 := Option.some.inj (hv453_0.symm.trans hx453_0)
                              rw [hv453_0] at ge453_0
                              have HL453_0 := Aside0.mk (show Kd.R (Kd.int .i64) 3 _ _ _ _ (rd_L1 t444 x8_2) from ge453_0)
                              clear hv453_0 ge453_0
                              clear hcc453 hce453
                              have HR453_0 := Aside0.mk hi453_0
                              have HC453_0 := Aside0.mk hl453_0
                              clear hi453_0 hl453_0
                              replace p453 := eq_true p453
                              replace q453 := eq_true q453
                              have p454 : 0 ≤ (x8_2 : Int) := of_decide_eq_true (by first | (with_reducible assumption) | assumption)
                              have q454 : x8_2 < (t444.length : Int) := of_decide_eq_true (by first | (with_reducible assumption) | assumption)
                              obtain ⟨ad454, A454_0, c454_0, e454, hx454_0, hl454_0, hi454_0⟩ := at_L1 (Kd.S_reads' HO_3.out).2.2 x8_2 p454 q454
                              obtain rfl : ad453 = ad454 := (by injection e454)
                              obtain ⟨ce454, hce454, hMe454, hcc454⟩ := Kd.S_get HO_3.out [] x8_2 p454 (by first | exact q454 | exact of_decide_eq_true (by first | (with_reducible assumption) | assumption) | (have e_ := (Kd.S_reads' HO_3.out).1; omega))
                              obtain ⟨ve454_0, rfl, ge454_0⟩ := hMe454
                              have hv454_0 := hcc454 0 _ rfl
                              rw [Nat.add_zero, show ((Kd.slice 3 (Kd.int .i64))).sz = 1 from rfl, Nat.mul_one] at hv454_0
                              replace hv454_0 := Option.some.inj (hv454_0.symm.trans hx454_0)
                              rw [hv454_0] at ge454_0
                              have HL454_0 := Aside0.mk (show Kd.R (Kd.int .i64) 3 _ _ _ _ (rd_L1 t444 x8_2) from ge454_0)
                              clear hv454_0 ge454_0
                              clear hcc454 hce454
                              have HR454_0 := Aside0.mk hi454_0
                              have HC454_0 := Aside0.mk hl454_0
                              clear hi454_0 hl454_0
                              replace p454 := eq_true p454
                              replace q454 := eq_true q454
                              have ea_ := Option.some.inj (hx453_0.symm.trans hx454_0)
                              injection ea_ with ea_ en_ ec_
                              subst ea_
                              subst ec_
                              clear en_
                              have p455 : 0 ≤ (x9_3 : Int) := of_decide_eq_true (by first | (with_reducible assumption) | assumption)
                              have q455 : x9_3 < ((rd_L1 t444 x8_2).length : Int) := of_decide_eq_true (by first | (with_reducible assumption) | assumption)
                              obtain ⟨ad455, e455, hx455_0⟩ := Kd.at_int (by repeat (first | (with_reducible exact HR454_0.out) | (with_reducible refine Kd.C_alloc ?_ _) | (with_reducible refine Kd.C_drewN ?_ _) | (with_reducible refine Kd.C_drew ?_) | exact HR454_0.out)) x9_3 p455 q455
                              cases e455
                              replace p455 := eq_true p455
                              replace q455 := eq_true q455
                              have p456 : 0 ≤ (x8_2 : Int) := of_decide_eq_true (by first | (with_reducible assumption) | assumption)
                              have q456 : x8_2 < (t444.length : Int) := of_decide_eq_true (by first | (with_reducible assumption) | assumption)
                              obtain ⟨ad456, A456_0, c456_0, e456, hx456_0, hl456_0, hi456_0⟩ := at_L1 (Kd.S_reads' HO_3.out).2.2 x8_2 p456 q456
                              obtain rfl : ad453 = ad456 := (by injection e456)
                              obtain ⟨ce456, hce456, hMe456, hcc456⟩ := Kd.S_get HO_3.out [] x8_2 p456 (by first | exact q456 | exact of_decide_eq_true (by first | (with_reducible assumption) | assumption) | (have e_ := (Kd.S_reads' HO_3.out).1; omega))
                              obtain ⟨ve456_0, rfl, ge456_0⟩ := hMe456
                              have hv456_0 := hcc456 0 _ rfl
                              rw [Nat.add_zero, show ((Kd.slice 3 (Kd.int .i64))).sz = 1 from rfl, Nat.mul_one] at hv456_0
                              replace hv456_0 := Option.some.inj (hv456_0.symm.trans hx456_0)
                              rw [hv456_0] at ge456_0
                              have HL456_0 := Aside0.mk (show Kd.R (Kd.int .i64) 3 _ _ _ _ (rd_L1 t444 x8_2) from ge456_0)
                              clear hv456_0 ge456_0
                              clear hcc456 hce456
                              have HR456_0 := Aside0.mk hi456_0
                              have HC456_0 := Aside0.mk hl456_0
                              clear hi456_0 hl456_0
                              replace p456 := eq_true p456
                              replace q456 := eq_true q456
                              have ea_ := Option.some.inj (hx453_0.symm.trans hx456_0)
                              injection ea_ with ea_ en_ ec_
                              subst ea_
                              subst ec_
                              clear en_
                              go_wp2
                              go_roundg k3
                              case measure => have := HJ5.out; have := HK2.out; have := HK3.out; omega
                              case rel => exact ⟨(wrap64 ((wrap64 ((wrap64 ((wrap64 (x7_3 + (ji18))) + (ji19))) + (ji20))) + (ji21))), (wrap64 (x9_3 + 1)), (by first | rfl | (simp; done) | (simp only [← hji18, ← hji19, ← hji20, ← hji21] <;> (first | rfl | simp)) | (simp [*]; done)), (by first | rfl | (simp; done) | (simp [*]; done)), H', ⟨by have := HJ5.out; have := HK2.out; have := HK3.out; omega⟩, ⟨by (with_reducible repeat (first | apply Kd.S_alloc | apply Kd.S_drewN | apply Kd.S_drew)); exact HO_3.out⟩, ⟨by repeat (first | (with_reducible first | exact HB.out | apply below_alloc | apply pw_below_drewN | apply below_drew1) | exact HB.out)⟩⟩
                          · rw [if_neg c16] at H
                            exact absurd H (by simp)
                        · rw [if_neg c15] at H
                          have c15b0 : decide (x9_3 < ((rd_L1 t444 x8_2).length : Int)) = false := decide_eq_false c15
                          clear c15
                          have H' := Aside0.mk H
                          clear H
                          have p453 : 0 ≤ (x8_2 : Int) := of_decide_eq_true (by first | (with_reducible assumption) | assumption)
                          have q453 : x8_2 < (t444.length : Int) := of_decide_eq_true (by first | (with_reducible assumption) | assumption)
                          obtain ⟨ad453, A453_0, c453_0, e453, hx453_0, hl453_0, hi453_0⟩ := at_L1 (Kd.S_reads' HO_3.out).2.2 x8_2 p453 q453
                          cases e453
                          obtain ⟨ce453, hce453, hMe453, hcc453⟩ := Kd.S_get HO_3.out [] x8_2 p453 (by first | exact q453 | exact of_decide_eq_true (by first | (with_reducible assumption) | assumption) | (have e_ := (Kd.S_reads' HO_3.out).1; omega))
                          obtain ⟨ve453_0, rfl, ge453_0⟩ := hMe453
                          have hv453_0 := hcc453 0 _ rfl
                          rw [Nat.add_zero, show ((Kd.slice 3 (Kd.int .i64))).sz = 1 from rfl, Nat.mul_one] at hv453_0
                          replace hv453_0 := Option.some.inj (hv453_0.symm.trans hx453_0)
                          rw [hv453_0] at ge453_0
                          have HL453_0 := Aside0.mk (show Kd.R (Kd.int .i64) 3 _ _ _ _ (rd_L1 t444 x8_2) from ge453_0)
                          clear hv453_0 ge453_0
                          clear hcc453 hce453
                          have HR453_0 := Aside0.mk hi453_0
                          have HC453_0 := Aside0.mk hl453_0
                          clear hi453_0 hl453_0
                          replace p453 := eq_true p453
                          replace q453 := eq_true q453
                          go_wp2
                          go_roundg k3
                          case measure => have := HJ5.out; have := HK2.out; have := HK3.out; omega
                          case rel => exact ⟨(x7_3), (wrap64 (x8_2 + 1)), (by first | rfl | (simp; done) | (simp [*]; done)), (by first | rfl | (simp; done) | (simp [*]; done)), H', ⟨by have := HJ5.out; have := HK2.out; have := HK3.out; omega⟩, ⟨by (with_reducible repeat (first | apply Kd.S_alloc | apply Kd.S_drewN | apply Kd.S_drew)); exact HO_3.out⟩, ⟨by repeat (first | (with_reducible first | exact HB.out | apply below_alloc | apply pw_below_drewN | apply below_drew1) | exact HB.out)⟩⟩
                      · rw [if_neg c14] at H
                        exact absurd H (by simp)
                    · rw [if_neg c13] at H
                      exact absurd H (by simp)
              · rw [if_neg c12] at H
                have c12b0 : decide (x8_2 < (t444.length : Int)) = false := decide_eq_false c12
                clear c12
                replace H := Option.bind_eq_some_iff.mp H
                obtain ⟨t450, A220, H⟩ := H
                replace H : ((impl_GridRidge.f k2 t444 t445).bind fun t451 => (if (wrap64 (t448 + (wrap64 (2 * t451)))) = x7_2 then (if t450 > 0 then (if 0 < (t444.length : Int) then (if t450 < (wrap64 ((t444.length : Int) * ((rd_L1 t444 0).length : Int))) then (some true) else (some (t448 == 0))) else (none)) else (some (t448 == 0))) else (some false))) = some r := H
                have A22 := Aside0.mk A220
                clear A220
                replace H := Option.bind_eq_some_iff.mp H
                obtain ⟨t451, A230, H⟩ := H
                replace H : (if (wrap64 (t448 + (wrap64 (2 * t451)))) = x7_2 then (if t450 > 0 then (if 0 < (t444.length : Int) then (if t450 < (wrap64 ((t444.length : Int) * ((rd_L1 t444 0).length : Int))) then (some true) else (some (t448 == 0))) else (none)) else (some (t448 == 0))) else (some false)) = some r := H
                have A23 := Aside0.mk A230
                clear A230
                by_cases c24 : (wrap64 (t448 + (wrap64 (2 * t451)))) = x7_2
                · rw [if_pos c24] at H
                  have c24b0 : ((wrap64 (t448 + (wrap64 (2 * t451)))) == x7_2) = true := beq_iff_eq.mpr c24
                  have c24b1 : ((wrap64 (t448 + (wrap64 (2 * t451)))) != x7_2) = false := bne_eq_false_iff_eq.mpr c24
                  clear c24
                  by_cases c25 : t450 > 0
                  · rw [if_pos c25] at H
                    have c25b0 : decide (0 < t450) = true := decide_eq_true c25
                    clear c25
                    by_cases c26 : 0 < (t444.length : Int)
                    · rw [if_pos c26] at H
                      have c26b0 : decide (0 < (t444.length : Int)) = true := decide_eq_true c26
                      have c26b1 : decide (0 < t444.length) = true := decide_eq_true (by omega)
                      clear c26
                      by_cases c27 : t450 < (wrap64 ((t444.length : Int) * ((rd_L1 t444 0).length : Int)))
                      · rw [if_pos c27] at H
                        have c27b0 : decide (t450 < (wrap64 ((t444.length : Int) * ((rd_L1 t444 0).length : Int)))) = true := decide_eq_true c27
                        clear c27
                        obtain rfl := Option.some.inj H
                        go_wp2_with (first | ((with_reducible refine gate_callee (f := 23) rfl ?_); refine goesL_ (some 85) rfl rfl Try.func23 (by kernel_rfl) rfl #[.slice Ao8 t444.length co8, .int .i64 t445] rfl (by (try simp only [List.map_toArray, List.map_cons, List.map_nil]); first | done | rfl | (simp only [List.length_drop, List.length_take]; rfl)) ?_; (with_reducible refine (impl_GridHigh.calls k2 _ _ t444 t445 t450 _ ?side1 ?side2 A22.out).mono ?_); (case side1 => repeat (first | exact (Kd.S_reads' HO_3.out).2.2 | (with_reducible refine Kd.C_alloc ?_ _) | (with_reducible refine Kd.C_drewN ?_ _) | (with_reducible refine Kd.C_drew ?_))); (case side2 => exact (Kd.S_reads' HO_3.out).2.1); rintro e w28 ⟨rfl, hb⟩; refine ⟨_, rfl, ?_⟩; have n0_ := Aside0.mk (Kd.S_below (by (with_reducible repeat (first | apply Kd.S_alloc | apply Kd.S_drewN | apply Kd.S_drew)); exact HO_3.out) hb); have n1_ := Aside0.mk (below_step (by repeat (first | (with_reducible first | exact HB.out | apply below_alloc | apply pw_below_drewN | apply below_drew1) | exact HB.out)) hb); clear HO_3; clear HB; have HO_3 := n0_; have HB := n1_; clear n0_ n1_; (try clear hb); (try clear hb2); (try clear hk); (try clear hi)) | ((with_reducible refine gate_callee (f := 27) rfl ?_); refine goesL_ (some 89) rfl rfl Try.func27 (by kernel_rfl) rfl #[.slice Ao8 t444.length co8, .int .i64 t445] rfl (by (try simp only [List.map_toArray, List.map_cons, List.map_nil]); first | done | rfl | (simp only [List.length_drop, List.length_take]; rfl)) ?_; (with_reducible refine (impl_GridRidge.calls k2 _ _ t444 t445 t451 _ ?side1 ?side2 A23.out).mono ?_); (case side1 => repeat (first | exact (Kd.S_reads' HO_3.out).2.2 | (with_reducible refine Kd.C_alloc ?_ _) | (with_reducible refine Kd.C_drewN ?_ _) | (with_reducible refine Kd.C_drew ?_))); (case side2 => exact (Kd.S_reads' HO_3.out).2.1); rintro e w29 ⟨rfl, hb⟩; refine ⟨_, rfl, ?_⟩; have n0_ := Aside0.mk (Kd.S_below (by (with_reducible repeat (first | apply Kd.S_alloc | apply Kd.S_drewN | apply Kd.S_drew)); exact HO_3.out) hb); have n1_ := Aside0.mk (below_step (by repeat (first | (with_reducible first | exact HB.out | apply below_alloc | apply pw_below_drewN | apply below_drew1) | exact HB.out)) hb); clear HO_3; clear HB; have HO_3 := n0_; have HB := n1_; clear n0_ n1_; (try clear hb); (try clear hb2); (try clear hk); (try clear hi); have p452 : 0 ≤ (0 : Int) := (by omega); have q452 : 0 < (t444.length : Int) := of_decide_eq_true (by first | (with_reducible assumption) | assumption); obtain ⟨ad452, A452_0, c452_0, e452, hx452_0, hl452_0, hi452_0⟩ := at_L1 (Kd.S_reads' HO_3.out).2.2 0 p452 q452; cases e452; obtain ⟨ce452, hce452, hMe452, hcc452⟩ := Kd.S_get HO_3.out [] 0 p452 (by first | exact q452 | exact of_decide_eq_true (by first | (with_reducible assumption) | assumption) | (have e_ := (Kd.S_reads' HO_3.out).1; omega)); obtain ⟨ve452_0, rfl, ge452_0⟩ := hMe452; have hv452_0 := hcc452 0 _ rfl; rw [Nat.add_zero, show ((Kd.slice 3 (Kd.int .i64))).sz = 1 from rfl, Nat.mul_one] at hv452_0; replace hv452_0 := Option.some.inj (hv452_0.symm.trans hx452_0); rw [hv452_0] at ge452_0; have HL452_0 := Aside0.mk (show Kd.R (Kd.int .i64) 3 _ _ _ _ (rd_L1 t444 0) from ge452_0); clear hv452_0 ge452_0; clear hcc452 hce452; have qi452 : (0 < t444.length) = True := eq_true (by omega); (try rw [show ((0 : Int)).toNat = 0 from rfl] at hx452_0); (try rw [Addr.add_zero'] at hx452_0); have HR452_0 := Aside0.mk hi452_0; have HC452_0 := Aside0.mk hl452_0; clear hi452_0 hl452_0; replace p452 := eq_true p452; replace q452 := eq_true q452))
                        go_ret
                        exact ⟨by first | rfl | (simp [errW_none, errW_some] <;> rfl) | (simp [*, errW_none, errW_some] <;> rfl), by repeat (first | (with_reducible first | exact HB.out | apply below_alloc | apply pw_below_drewN | apply below_drew1) | exact HB.out)⟩
                      · rw [if_neg c27] at H
                        have c27b0 : decide (t450 < (wrap64 ((t444.length : Int) * ((rd_L1 t444 0).length : Int)))) = false := decide_eq_false c27
                        clear c27
                        obtain rfl := Option.some.inj H
                        go_wp2_with (first | ((with_reducible refine gate_callee (f := 23) rfl ?_); refine goesL_ (some 85) rfl rfl Try.func23 (by kernel_rfl) rfl #[.slice Ao8 t444.length co8, .int .i64 t445] rfl (by (try simp only [List.map_toArray, List.map_cons, List.map_nil]); first | done | rfl | (simp only [List.length_drop, List.length_take]; rfl)) ?_; (with_reducible refine (impl_GridHigh.calls k2 _ _ t444 t445 t450 _ ?side1 ?side2 A22.out).mono ?_); (case side1 => repeat (first | exact (Kd.S_reads' HO_3.out).2.2 | (with_reducible refine Kd.C_alloc ?_ _) | (with_reducible refine Kd.C_drewN ?_ _) | (with_reducible refine Kd.C_drew ?_))); (case side2 => exact (Kd.S_reads' HO_3.out).2.1); rintro e w30 ⟨rfl, hb⟩; refine ⟨_, rfl, ?_⟩; have n0_ := Aside0.mk (Kd.S_below (by (with_reducible repeat (first | apply Kd.S_alloc | apply Kd.S_drewN | apply Kd.S_drew)); exact HO_3.out) hb); have n1_ := Aside0.mk (below_step (by repeat (first | (with_reducible first | exact HB.out | apply below_alloc | apply pw_below_drewN | apply below_drew1) | exact HB.out)) hb); clear HO_3; clear HB; have HO_3 := n0_; have HB := n1_; clear n0_ n1_; (try clear hb); (try clear hb2); (try clear hk); (try clear hi)) | ((with_reducible refine gate_callee (f := 27) rfl ?_); refine goesL_ (some 89) rfl rfl Try.func27 (by kernel_rfl) rfl #[.slice Ao8 t444.length co8, .int .i64 t445] rfl (by (try simp only [List.map_toArray, List.map_cons, List.map_nil]); first | done | rfl | (simp only [List.length_drop, List.length_take]; rfl)) ?_; (with_reducible refine (impl_GridRidge.calls k2 _ _ t444 t445 t451 _ ?side1 ?side2 A23.out).mono ?_); (case side1 => repeat (first | exact (Kd.S_reads' HO_3.out).2.2 | (with_reducible refine Kd.C_alloc ?_ _) | (with_reducible refine Kd.C_drewN ?_ _) | (with_reducible refine Kd.C_drew ?_))); (case side2 => exact (Kd.S_reads' HO_3.out).2.1); rintro e w31 ⟨rfl, hb⟩; refine ⟨_, rfl, ?_⟩; have n0_ := Aside0.mk (Kd.S_below (by (with_reducible repeat (first | apply Kd.S_alloc | apply Kd.S_drewN | apply Kd.S_drew)); exact HO_3.out) hb); have n1_ := Aside0.mk (below_step (by repeat (first | (with_reducible first | exact HB.out | apply below_alloc | apply pw_below_drewN | apply below_drew1) | exact HB.out)) hb); clear HO_3; clear HB; have HO_3 := n0_; have HB := n1_; clear n0_ n1_; (try clear hb); (try clear hb2); (try clear hk); (try clear hi); have p452 : 0 ≤ (0 : Int) := (by omega); have q452 : 0 < (t444.length : Int) := of_decide_eq_true (by first | (with_reducible assumption) | assumption); obtain ⟨ad452, A452_0, c452_0, e452, hx452_0, hl452_0, hi452_0⟩ := at_L1 (Kd.S_reads' HO_3.out).2.2 0 p452 q452; cases e452; obtain ⟨ce452, hce452, hMe452, hcc452⟩ := Kd.S_get HO_3.out [] 0 p452 (by first | exact q452 | exact of_decide_eq_true (by first | (with_reducible assumption) | assumption) | (have e_ := (Kd.S_reads' HO_3.out).1; omega)); obtain ⟨ve452_0, rfl, ge452_0⟩ := hMe452; have hv452_0 := hcc452 0 _ rfl; rw [Nat.add_zero, show ((Kd.slice 3 (Kd.int .i64))).sz = 1 from rfl, Nat.mul_one] at hv452_0; replace hv452_0 := Option.some.inj (hv452_0.symm.trans hx452_0); rw [hv452_0] at ge452_0; have HL452_0 := Aside0.mk (show Kd.R (Kd.int .i64) 3 _ _ _ _ (rd_L1 t444 0) from ge452_0); clear hv452_0 ge452_0; clear hcc452 hce452; have qi452 : (0 < t444.length) = True := eq_true (by omega); (try rw [show ((0 : Int)).toNat = 0 from rfl] at hx452_0); (try rw [Addr.add_zero'] at hx452_0); have HR452_0 := Aside0.mk hi452_0; have HC452_0 := Aside0.mk hl452_0; clear hi452_0 hl452_0; replace p452 := eq_true p452; replace q452 := eq_true q452))
                        go_ret
                        exact ⟨by first | rfl | (simp [errW_none, errW_some] <;> rfl) | (simp [*, errW_none, errW_some] <;> rfl), by repeat (first | (with_reducible first | exact HB.out | apply below_alloc | apply pw_below_drewN | apply below_drew1) | exact HB.out)⟩
                    · rw [if_neg c26] at H
                      exact absurd H (by simp)
                  · rw [if_neg c25] at H
                    have c25b0 : decide (0 < t450) = false := decide_eq_false c25
                    clear c25
                    obtain rfl := Option.some.inj H
                    go_wp2_with (first | ((with_reducible refine gate_callee (f := 23) rfl ?_); refine goesL_ (some 85) rfl rfl Try.func23 (by kernel_rfl) rfl #[.slice Ao8 t444.length co8, .int .i64 t445] rfl (by (try simp only [List.map_toArray, List.map_cons, List.map_nil]); first | done | rfl | (simp only [List.length_drop, List.length_take]; rfl)) ?_; (with_reducible refine (impl_GridHigh.calls k2 _ _ t444 t445 t450 _ ?side1 ?side2 A22.out).mono ?_); (case side1 => repeat (first | exact (Kd.S_reads' HO_3.out).2.2 | (with_reducible refine Kd.C_alloc ?_ _) | (with_reducible refine Kd.C_drewN ?_ _) | (with_reducible refine Kd.C_drew ?_))); (case side2 => exact (Kd.S_reads' HO_3.out).2.1); rintro e w32 ⟨rfl, hb⟩; refine ⟨_, rfl, ?_⟩; have n0_ := Aside0.mk (Kd.S_below (by (with_reducible repeat (first | apply Kd.S_alloc | apply Kd.S_drewN | apply Kd.S_drew)); exact HO_3.out) hb); have n1_ := Aside0.mk (below_step (by repeat (first | (with_reducible first | exact HB.out | apply below_alloc | apply pw_below_drewN | apply below_drew1) | exact HB.out)) hb); clear HO_3; clear HB; have HO_3 := n0_; have HB := n1_; clear n0_ n1_; (try clear hb); (try clear hb2); (try clear hk); (try clear hi)) | ((with_reducible refine gate_callee (f := 27) rfl ?_); refine goesL_ (some 89) rfl rfl Try.func27 (by kernel_rfl) rfl #[.slice Ao8 t444.length co8, .int .i64 t445] rfl (by (try simp only [List.map_toArray, List.map_cons, List.map_nil]); first | done | rfl | (simp only [List.length_drop, List.length_take]; rfl)) ?_; (with_reducible refine (impl_GridRidge.calls k2 _ _ t444 t445 t451 _ ?side1 ?side2 A23.out).mono ?_); (case side1 => repeat (first | exact (Kd.S_reads' HO_3.out).2.2 | (with_reducible refine Kd.C_alloc ?_ _) | (with_reducible refine Kd.C_drewN ?_ _) | (with_reducible refine Kd.C_drew ?_))); (case side2 => exact (Kd.S_reads' HO_3.out).2.1); rintro e w33 ⟨rfl, hb⟩; refine ⟨_, rfl, ?_⟩; have n0_ := Aside0.mk (Kd.S_below (by (with_reducible repeat (first | apply Kd.S_alloc | apply Kd.S_drewN | apply Kd.S_drew)); exact HO_3.out) hb); have n1_ := Aside0.mk (below_step (by repeat (first | (with_reducible first | exact HB.out | apply below_alloc | apply pw_below_drewN | apply below_drew1) | exact HB.out)) hb); clear HO_3; clear HB; have HO_3 := n0_; have HB := n1_; clear n0_ n1_; (try clear hb); (try clear hb2); (try clear hk); (try clear hi)))
                    go_ret
                    exact ⟨by first | rfl | (simp [errW_none, errW_some] <;> rfl) | (simp [*, errW_none, errW_some] <;> rfl), by repeat (first | (with_reducible first | exact HB.out | apply below_alloc | apply pw_below_drewN | apply below_drew1) | exact HB.out)⟩
                · rw [if_neg c24] at H
                  have c24b0 : ((wrap64 (t448 + (wrap64 (2 * t451)))) == x7_2) = false := beq_eq_false_iff_ne.mpr c24
                  have c24b1 : ((wrap64 (t448 + (wrap64 (2 * t451)))) != x7_2) = true := bne_iff_ne.mpr c24
                  obtain rfl := Option.some.inj H
                  go_wp2_with (first | ((with_reducible refine gate_callee (f := 23) rfl ?_); refine goesL_ (some 85) rfl rfl Try.func23 (by kernel_rfl) rfl #[.slice Ao8 t444.length co8, .int .i64 t445] rfl (by (try simp only [List.map_toArray, List.map_cons, List.map_nil]); first | done | rfl | (simp only [List.length_drop, List.length_take]; rfl)) ?_; (with_reducible refine (impl_GridHigh.calls k2 _ _ t444 t445 t450 _ ?side1 ?side2 A22.out).mono ?_); (case side1 => repeat (first | exact (Kd.S_reads' HO_3.out).2.2 | (with_reducible refine Kd.C_alloc ?_ _) | (with_reducible refine Kd.C_drewN ?_ _) | (with_reducible refine Kd.C_drew ?_))); (case side2 => exact (Kd.S_reads' HO_3.out).2.1); rintro e w34 ⟨rfl, hb⟩; refine ⟨_, rfl, ?_⟩; have n0_ := Aside0.mk (Kd.S_below (by (with_reducible repeat (first | apply Kd.S_alloc | apply Kd.S_drewN | apply Kd.S_drew)); exact HO_3.out) hb); have n1_ := Aside0.mk (below_step (by repeat (first | (with_reducible first | exact HB.out | apply below_alloc | apply pw_below_drewN | apply below_drew1) | exact HB.out)) hb); clear HO_3; clear HB; have HO_3 := n0_; have HB := n1_; clear n0_ n1_; (try clear hb); (try clear hb2); (try clear hk); (try clear hi)) | ((with_reducible refine gate_callee (f := 27) rfl ?_); refine goesL_ (some 89) rfl rfl Try.func27 (by kernel_rfl) rfl #[.slice Ao8 t444.length co8, .int .i64 t445] rfl (by (try simp only [List.map_toArray, List.map_cons, List.map_nil]); first | done | rfl | (simp only [List.length_drop, List.length_take]; rfl)) ?_; (with_reducible refine (impl_GridRidge.calls k2 _ _ t444 t445 t451 _ ?side1 ?side2 A23.out).mono ?_); (case side1 => repeat (first | exact (Kd.S_reads' HO_3.out).2.2 | (with_reducible refine Kd.C_alloc ?_ _) | (with_reducible refine Kd.C_drewN ?_ _) | (with_reducible refine Kd.C_drew ?_))); (case side2 => exact (Kd.S_reads' HO_3.out).2.1); rintro e w35 ⟨rfl, hb⟩; refine ⟨_, rfl, ?_⟩; have n0_ := Aside0.mk (Kd.S_below (by (with_reducible repeat (first | apply Kd.S_alloc | apply Kd.S_drewN | apply Kd.S_drew)); exact HO_3.out) hb); have n1_ := Aside0.mk (below_step (by repeat (first | (with_reducible first | exact HB.out | apply below_alloc | apply pw_below_drewN | apply below_drew1) | exact HB.out)) hb); clear HO_3; clear HB; have HO_3 := n0_; have HB := n1_; clear n0_ n1_; (try clear hb); (try clear hb2); (try clear hk); (try clear hi)))
                  go_ret
                  exact ⟨by first | rfl | (simp [errW_none, errW_some] <;> rfl) | (simp [*, errW_none, errW_some] <;> rfl), by repeat (first | (with_reducible first | exact HB.out | apply below_alloc | apply pw_below_drewN | apply below_drew1) | exact HB.out)⟩

/-- THE ONE PURE STATEMENT of laws_FnCuts: yours. -/
def laws_FnCuts.Pure : Prop := ∀ (l0 : List Int), l0.length ≤ maxLen → l0.length * 1 ≤ 140737488351232 → (∀ x ∈ l0, (Lit.int .u8 x).wf = true) → ∃ k, laws_FnCuts.f k l0 = some true
theorem laws_FnCuts.walk (P : laws_FnCuts.Pure) (a0 : Option Addr) (len0 cap0 : Nat) (z0 : List Int) (w : World) (w0 : (a0 = none ∧ len0 = 0 ∧ cap0 = 0 ∧ z0 = []) ∨ ∃ x, a0 = some x ∧ len0 ≤ cap0 ∧ cap0 ≤ maxLen ∧ z0.length = cap0 ∧ (∀ i, i < z0.length → w.cell? (x.add i) = some (.int .u8 (z0.getD i 0))) ∧ ∀ n ∈ z0, (Lit.int .u8 n).wf = true) (y0 : len0 * 1 ≤ 140737488351232) :
    Calls Try.prog 12 #[.slice a0 len0 cap0] w fun e w' => e = .returned (.bool true) ∧ Below w.heap.size w w' := by
  obtain ⟨l0, rfl, hr0, hm0, hw0, hc0⟩ := ReadsInt.ofRowC w0
  obtain ⟨k, h⟩ := P l0 hm0 y0 hw0
  refine (laws_FnCuts.calls k _ _ l0 true w (Kd.C_of_reads (d := (0 : Int)) (h1 := fun _ => rfl) hr0) hc0 h).mono ?_
  rintro e w' ⟨rfl, hd⟩
  exact ⟨rfl, hd⟩

end Go.Proofs.Ytkhemhmdapggmaa.P

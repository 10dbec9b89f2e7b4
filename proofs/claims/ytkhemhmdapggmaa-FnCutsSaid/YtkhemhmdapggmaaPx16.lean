-- Written by a program of this session (wip/xprint.py over the print's own program), not by print.sh. Lean checks it.
import Derived.Test.YtkhemhmdapggmaaPx0
import Derived.Test.YtkhemhmdapggmaaPx7
namespace Go.Proofs.Ytkhemhmdapggmaa.P
open Go.RowKit Go.Proofs.YtkhemhmdapggmaaW.PrintWords Go.Proofs.YtkhemhmdapggmaaW.PrintLast Go.Proofs.YtkhemhmdapggmaaW.PrintMore
attribute [local go_sem] max2_int min2_int max_two min_two max_three min_three max_four min_four   -- for this text's walks alone
set_option linter.unusedVariables false
set_option linter.unusedSimpArgs false

/-! ### spec_l41Pairs: function 49 -/
mutual
def spec_l41Pairs.l0 : Nat → List (List Int) → Int → Int → Int → Int → Option (Int)
  | 0, _, _, _, _, _ => none
  | k + 1, x0, x1, x2, x7, x8 => if x8 < (x0.length : Int) then (spec_l41Pairs.l1 k x0 x1 x2 x7 x8 0) else (some x7)
def spec_l41Pairs.l1 : Nat → List (List Int) → Int → Int → Int → Int → Int → Option (Int)
  | 0, _, _, _, _, _, _ => none
  | k + 1, x0, x1, x2, x7, x8, x9 => if 0 ≤ x8 then (if x8 < (x0.length : Int) then (if x9 < ((rd_L1 x0 x8).length : Int) then (if 0 ≤ x9 then ((spec_l41Bit.f (rd (rd_L1 x0 x8) x9) x1).bind fun t200 => (if (wrap64 (x9 + 1)) < ((rd_L1 x0 x8).length : Int) then (if 0 ≤ (wrap64 (x9 + 1)) then ((spec_l41Bit.f (rd (rd_L1 x0 x8) (wrap64 (x9 + 1))) x1).bind fun t204 => (spec_l41Pairs.j2 k x0 x1 x2 x7 x8 x9 t200 ((wrap64 (t200 + t204)) == x2))) else (none)) else (spec_l41Pairs.j2 k x0 x1 x2 x7 x8 x9 t200 false))) else (none)) else (spec_l41Pairs.l0 k x0 x1 x2 x7 (wrap64 (x8 + 1)))) else (none)) else (none)
def spec_l41Pairs.j2 : Nat → List (List Int) → Int → Int → Int → Int → Int → Int → Bool → Option (Int)
  | 0, _, _, _, _, _, _, _, _ => none
  | k + 1, x0, x1, x2, x7, x8, x9, x10, x58 => if x58 = true then (if (wrap64 (x8 + 1)) < (x0.length : Int) then (if 0 ≤ (wrap64 (x8 + 1)) then (if 0 ≤ x9 then (if x9 < ((rd_L1 x0 (wrap64 (x8 + 1))).length : Int) then ((spec_l41Bit.f (rd (rd_L1 x0 (wrap64 (x8 + 1))) x9) x1).bind fun t207 => (if (wrap64 (x10 + t207)) = x2 then (spec_l41Pairs.l1 k x0 x1 x2 (wrap64 ((wrap64 (x7 + 1)) + 1)) x8 (wrap64 (x9 + 1))) else (spec_l41Pairs.l1 k x0 x1 x2 (wrap64 (x7 + 1)) x8 (wrap64 (x9 + 1))))) else (none)) else (none)) else (none)) else (spec_l41Pairs.l1 k x0 x1 x2 (wrap64 (x7 + 1)) x8 (wrap64 (x9 + 1)))) else (if (wrap64 (x8 + 1)) < (x0.length : Int) then (if 0 ≤ (wrap64 (x8 + 1)) then (if 0 ≤ x9 then (if x9 < ((rd_L1 x0 (wrap64 (x8 + 1))).length : Int) then ((spec_l41Bit.f (rd (rd_L1 x0 (wrap64 (x8 + 1))) x9) x1).bind fun t210 => (if (wrap64 (x10 + t210)) = x2 then (spec_l41Pairs.l1 k x0 x1 x2 (wrap64 (x7 + 1)) x8 (wrap64 (x9 + 1))) else (spec_l41Pairs.l1 k x0 x1 x2 x7 x8 (wrap64 (x9 + 1))))) else (none)) else (none)) else (none)) else (spec_l41Pairs.l1 k x0 x1 x2 x7 x8 (wrap64 (x9 + 1))))
end
def spec_l41Pairs.f (k : Nat) (l0 : List (List Int)) (a1 : Int) (a2 : Int) : Option (Int) := spec_l41Pairs.l0 k l0 a1 a2 0 0
theorem spec_l41Pairs.mono_l : ∀ k, (∀ y0 y1 y2 y3 y4, LeO (spec_l41Pairs.l0 k y0 y1 y2 y3 y4) (spec_l41Pairs.l0 (k + 1) y0 y1 y2 y3 y4)) ∧ (∀ y0 y1 y2 y3 y4 y5, LeO (spec_l41Pairs.l1 k y0 y1 y2 y3 y4 y5) (spec_l41Pairs.l1 (k + 1) y0 y1 y2 y3 y4 y5)) ∧ (∀ y0 y1 y2 y3 y4 y5 y6 y7, LeO (spec_l41Pairs.j2 k y0 y1 y2 y3 y4 y5 y6 y7) (spec_l41Pairs.j2 (k + 1) y0 y1 y2 y3 y4 y5 y6 y7))
  | 0 => ⟨fun _ _ _ _ _ r h => by simp [spec_l41Pairs.l0] at h, fun _ _ _ _ _ _ r h => by simp [spec_l41Pairs.l1] at h, fun _ _ _ _ _ _ _ _ r h => by simp [spec_l41Pairs.j2] at h⟩
  | k + 1 => by
    obtain ⟨ih0, ih1, ih2⟩ := spec_l41Pairs.mono_l k
    refine ⟨?_, ?_, ?_⟩
    · intro y0 y1 y2 y3 y4
      unfold spec_l41Pairs.l0
      repeat' first
      | (with_reducible exact ih0 _ _ _ _ _)
      | (with_reducible exact ih1 _ _ _ _ _ _)
      | (with_reducible exact ih2 _ _ _ _ _ _ _ _)
      | (with_reducible exact LeO.refl _)
      | (with_reducible exact LeO.none _)
      | (with_reducible refine LeO.ite ?_ ?_)
      | (with_reducible refine LeO.bind ?_ (fun _ => ?_))
      | exact ih0 _ _ _ _ _
      | exact ih1 _ _ _ _ _ _
      | exact ih2 _ _ _ _ _ _ _ _
      | exact LeO.none _
      | refine LeO.ite ?_ ?_
      | refine LeO.bind ?_ (fun _ => ?_)
    · intro y0 y1 y2 y3 y4 y5
      unfold spec_l41Pairs.l1
      repeat' first
      | (with_reducible exact ih0 _ _ _ _ _)
      | (with_reducible exact ih1 _ _ _ _ _ _)
      | (with_reducible exact ih2 _ _ _ _ _ _ _ _)
      | (with_reducible exact LeO.refl _)
      | (with_reducible exact LeO.none _)
      | (with_reducible refine LeO.ite ?_ ?_)
      | (with_reducible refine LeO.bind ?_ (fun _ => ?_))
      | exact ih0 _ _ _ _ _
      | exact ih1 _ _ _ _ _ _
      | exact ih2 _ _ _ _ _ _ _ _
      | exact LeO.none _
      | refine LeO.ite ?_ ?_
      | refine LeO.bind ?_ (fun _ => ?_)
    · intro y0 y1 y2 y3 y4 y5 y6 y7
      unfold spec_l41Pairs.j2
      repeat' first
      | (with_reducible exact ih0 _ _ _ _ _)
      | (with_reducible exact ih1 _ _ _ _ _ _)
      | (with_reducible exact ih2 _ _ _ _ _ _ _ _)
      | (with_reducible exact LeO.refl _)
      | (with_reducible exact LeO.none _)
      | (with_reducible refine LeO.ite ?_ ?_)
      | (with_reducible refine LeO.bind ?_ (fun _ => ?_))
      | exact ih0 _ _ _ _ _
      | exact ih1 _ _ _ _ _ _
      | exact ih2 _ _ _ _ _ _ _ _
      | exact LeO.none _
      | refine LeO.ite ?_ ?_
      | refine LeO.bind ?_ (fun _ => ?_)
theorem spec_l41Pairs.mono : ∀ a0 a1 a2 k, LeO (spec_l41Pairs.f k a0 a1 a2) (spec_l41Pairs.f (k + 1) a0 a1 a2) := by
  intro a0 a1 a2 k
  obtain ⟨ih0, ih1, ih2⟩ := spec_l41Pairs.mono_l k
  unfold spec_l41Pairs.f
  repeat' first
      | (with_reducible exact ih0 _ _ _ _ _)
      | (with_reducible exact ih1 _ _ _ _ _ _)
      | (with_reducible exact ih2 _ _ _ _ _ _ _ _)
      | (with_reducible exact LeO.refl _)
      | (with_reducible exact LeO.none _)
      | (with_reducible refine LeO.ite ?_ ?_)
      | (with_reducible refine LeO.bind ?_ (fun _ => ?_))
      | exact ih0 _ _ _ _ _
      | exact ih1 _ _ _ _ _ _
      | exact ih2 _ _ _ _ _ _ _ _
      | exact LeO.none _
      | refine LeO.ite ?_ ?_
      | refine LeO.bind ?_ (fun _ => ?_)
set_option maxHeartbeats 8000000 in
set_option maxRecDepth 100000 in
theorem spec_l41Pairs.calls (k : Nat) (A0 : Option Addr) (c0 : Nat) (l0 : List (List Int)) (a1 : Int) (a2 : Int) (r : Int) (w : World) (hr0 : Kd.C (Kd.slice 3 (Kd.int .i64)) w A0 l0.length l0) (hc0 : l0.length ≤ c0) (h : spec_l41Pairs.f k l0 a1 a2 = some r) :
    Calls Try.prog 49 #[.slice A0 l0.length c0, .int .i64 a1, .int .i64 a2] w fun e w' => e = .returned (.int .i64 r) ∧ Drawn0 w w' := by
  have HR0 := Aside0.mk hr0
  have HC0 := Aside0.mk hc0
  clear hr0 hc0
  have H : (spec_l41Pairs.l0 k l0 a1 a2 0 0) = some r := h
  clear h
  have H' := Aside0.mk H
  clear H
  go_enter Try.func49, Try.ntmps49
  go_wp2
  go_loopg [7, 8] k (fun kq v7 v8 w' => ∃ (x7_1 : Int) (x8_1 : Int), v7 = .int .i64 x7_1 ∧ v8 = .int .i64 x8_1 ∧ Aside0 (spec_l41Pairs.l0 kq l0 a1 a2 x7_1 x8_1 = some r) ∧ Aside0 (kq ≤ k) ∧ Drawn0 w w')
  case atStart => exact ⟨(0), (0), (by first | rfl | (simp; done) | (simp [*]; done)), (by first | rfl | (simp; done) | (simp [*]; done)), H', ⟨Nat.le_refl _⟩, by repeat (first | exact Drawn0.refl _ | apply Drawn0.step)⟩
  case round =>
    clear H'
    try clear p2
    obtain ⟨x7_1, x8_1, rfl, rfl, HA, HK1, ⟨m1, rfl⟩⟩ := hrel
    cases gk with
    | zero => exact absurd HA.out (by simp [spec_l41Pairs.l0])
    | succ k1 =>
      have H := HA.out
      clear HA
      simp only [spec_l41Pairs.l0] at H
      by_cases c4 : x8_1 < (l0.length : Int)
      · rw [if_pos c4] at H
        have c4b0 : decide (x8_1 < (l0.length : Int)) = true := decide_eq_true c4
        clear c4
        have H' := Aside0.mk H
        clear H
        go_wp2
        go_loopg [7, 9] k1 (fun kq v7 v9 w' => ∃ (x7_2 : Int) (x9_2 : Int), v7 = .int .i64 x7_2 ∧ v9 = .int .i64 x9_2 ∧ Aside0 (spec_l41Pairs.l1 kq l0 a1 a2 x7_2 x8_1 x9_2 = some r) ∧ Aside0 (kq ≤ k1) ∧ Drawn0 w w')
        case atStart => exact ⟨(x7_1), (0), (by first | rfl | (simp; done) | (simp [*]; done)), (by first | rfl | (simp; done) | (simp [*]; done)), H', ⟨Nat.le_refl _⟩, by repeat (first | exact Drawn0.refl _ | apply Drawn0.step)⟩
        case round =>
          clear H'
          try clear p2
          try clear c4
          try clear c4b0
          try clear p2
          obtain ⟨x7_2, x9_2, rfl, rfl, HA, HK2, ⟨m2, rfl⟩⟩ := hrel
          cases gk with
          | zero => exact absurd HA.out (by simp [spec_l41Pairs.l1])
          | succ k2 =>
            have H := HA.out
            clear HA
            simp only [spec_l41Pairs.l1] at H
            by_cases c5 : 0 ≤ x8_1
            · rw [if_pos c5] at H
              have c5b0 : decide (0 ≤ x8_1) = true := decide_eq_true c5
              clear c5
              by_cases c6 : x8_1 < (l0.length : Int)
              · rw [if_pos c6] at H
                have c6b0 : decide (x8_1 < (l0.length : Int)) = true := decide_eq_true c6
                clear c6
                by_cases c7 : x9_2 < ((rd_L1 l0 x8_1).length : Int)
                · rw [if_pos c7] at H
                  have c7b0 : decide (x9_2 < ((rd_L1 l0 x8_1).length : Int)) = true := decide_eq_true c7
                  clear c7
                  by_cases c8 : 0 ≤ x9_2
                  · rw [if_pos c8] at H
                    have c8b0 : decide (0 ≤ x9_2) = true := decide_eq_true c8
                    clear c8
                    replace H := Option.bind_eq_some_iff.mp H
                    obtain ⟨t200, A90, H⟩ := H
                    replace H : (if (wrap64 (x9_2 + 1)) < ((rd_L1 l0 x8_1).length : Int) then (if 0 ≤ (wrap64 (x9_2 + 1)) then ((spec_l41Bit.f (rd (rd_L1 l0 x8_1) (wrap64 (x9_2 + 1))) a1).bind fun t204 => (spec_l41Pairs.j2 k2 l0 a1 a2 x7_2 x8_1 x9_2 t200 ((wrap64 (t200 + t204)) == a2))) else (none)) else (spec_l41Pairs.j2 k2 l0 a1 a2 x7_2 x8_1 x9_2 t200 false)) = some r := H
                    have A9 := Aside0.mk A90
                    clear A90
                    have HC10 := Aside0.mk H
                    clear H
                    have p197 : 0 ≤ (x8_1 : Int) := of_decide_eq_true (by first | (with_reducible assumption) | assumption)
                    have q197 : x8_1 < (l0.length : Int) := of_decide_eq_true (by first | (with_reducible assumption) | assumption)
                    obtain ⟨ad197, A197_0, c197_0, e197, hx197_0, hl197_0, hi197_0⟩ := at_L1 HR0.out x8_1 p197 q197
                    cases e197
                    have HR197_0 := Aside0.mk hi197_0
                    have HC197_0 := Aside0.mk hl197_0
                    clear hi197_0 hl197_0
                    replace p197 := eq_true p197
                    replace q197 := eq_true q197
                    have p198 : 0 ≤ (x8_1 : Int) := of_decide_eq_true (by first | (with_reducible assumption) | assumption)
                    have q198 : x8_1 < (l0.length : Int) := of_decide_eq_true (by first | (with_reducible assumption) | assumption)
                    obtain ⟨ad198, A198_0, c198_0, e198, hx198_0, hl198_0, hi198_0⟩ := at_L1 HR0.out x8_1 p198 q198
                    obtain rfl : ad197 = ad198 := (by injection e198)
                    have HR198_0 := Aside0.mk hi198_0
                    have HC198_0 := Aside0.mk hl198_0
                    clear hi198_0 hl198_0
                    replace p198 := eq_true p198
                    replace q198 := eq_true q198
                    have ea_ := Option.some.inj (hx197_0.symm.trans hx198_0)
                    injection ea_ with ea_ en_ ec_
                    subst ea_
                    subst ec_
                    clear en_
                    have p199 : 0 ≤ (x9_2 : Int) := of_decide_eq_true (by first | (with_reducible assumption) | assumption)
                    have q199 : x9_2 < ((rd_L1 l0 x8_1).length : Int) := of_decide_eq_true (by first | (with_reducible assumption) | assumption)
                    obtain ⟨ad199, e199, hx199_0⟩ := Kd.at_int HR198_0.out x9_2 p199 q199
                    cases e199
                    replace p199 := eq_true p199
                    replace q199 := eq_true q199
                    go_upto_region 9 with (first | ((with_reducible refine gate_callee (f := 46) rfl ?_); refine goesL_ (some 34) rfl rfl Try.func46 (by kernel_rfl) rfl #[.int .i64 (rd (rd_L1 l0 x8_1) x9_2), .int .i64 a1] rfl (by (try simp only [List.map_toArray, List.map_cons, List.map_nil]); first | done | rfl | (simp only [List.length_drop, List.length_take]; rfl)) ?_; (with_reducible refine (spec_l41Bit.calls (rd (rd_L1 l0 x8_1) x9_2) a1 t200 _ A9.out).mono ?_); rintro e w' ⟨rfl, ⟨nd, rfl⟩⟩; refine ⟨_, rfl, ?_⟩))
                    (try simp only [Act.put, List.setIfInBounds_toArray, List.set_cons_zero, List.set_cons_succ])
                    go_cut [58] (fun v58 wc => ∃ (kq : Nat) (x58_9 : Bool), v58 = .bool x58_9 ∧ Aside0 (spec_l41Pairs.j2 kq l0 a1 a2 x7_2 x8_1 x9_2 t200 x58_9 = some r) ∧ Aside0 (kq ≤ k2) ∧ Drawn0 w wc)
                    case first =>
                      have H := HC10.out
                      clear HC10
                      by_cases c11 : (wrap64 (x9_2 + 1)) < ((rd_L1 l0 x8_1).length : Int)
                      · rw [if_pos c11] at H
                        have c11b0 : decide ((wrap64 (x9_2 + 1)) < ((rd_L1 l0 x8_1).length : Int)) = true := decide_eq_true c11
                        clear c11
                        (first | rw [c11b0] | (simp only [i64_w, i32_w]; rw [c11b0]) | skip)
                        obtain ⟨ji12, hji12⟩ : ∃ j_ : Int, (wrap64 (x9_2 + 1)) = j_ := ⟨_, rfl⟩
                        replace H : (if 0 ≤ (ji12) then ((spec_l41Bit.f (rd (rd_L1 l0 x8_1) (ji12)) a1).bind fun t204 => (spec_l41Pairs.j2 k2 l0 a1 a2 x7_2 x8_1 x9_2 t200 ((wrap64 (t200 + t204)) == a2))) else (none)) = some r := by first | (rw [hji12] at H; exact H) | (simp only [hji12] at H ⊢; exact H)
                        (try rw [hji12] at c11b0)
                        have hji12w : (IntKind.i64.wrap (x9_2 + 1)) = ji12 := (i64_w _).trans hji12
                        by_cases c13 : 0 ≤ (ji12)
                        · rw [if_pos c13] at H
                          have c13b0 : decide (0 ≤ (ji12)) = true := decide_eq_true c13
                          clear c13
                          replace H := Option.bind_eq_some_iff.mp H
                          obtain ⟨t204, A140, H⟩ := H
                          replace H : (spec_l41Pairs.j2 k2 l0 a1 a2 x7_2 x8_1 x9_2 t200 ((wrap64 (t200 + t204)) == a2)) = some r := H
                          have A14 := Aside0.mk A140
                          clear A140
                          have H' := Aside0.mk H
                          clear H
                          have p201 : 0 ≤ (x8_1 : Int) := of_decide_eq_true (by first | (with_reducible assumption) | assumption)
                          have q201 : x8_1 < (l0.length : Int) := of_decide_eq_true (by first | (with_reducible assumption) | assumption)
                          obtain ⟨ad201, A201_0, c201_0, e201, hx201_0, hl201_0, hi201_0⟩ := at_L1 HR0.out x8_1 p201 q201
                          obtain rfl : ad197 = ad201 := (by injection e201)
                          have HR201_0 := Aside0.mk hi201_0
                          have HC201_0 := Aside0.mk hl201_0
                          clear hi201_0 hl201_0
                          replace p201 := eq_true p201
                          replace q201 := eq_true q201
                          have ea_ := Option.some.inj (hx198_0.symm.trans hx201_0)
                          injection ea_ with ea_ en_ ec_
                          subst ea_
                          subst ec_
                          clear en_
                          have p202 : 0 ≤ (x8_1 : Int) := of_decide_eq_true (by first | (with_reducible assumption) | assumption)
                          have q202 : x8_1 < (l0.length : Int) := of_decide_eq_true (by first | (with_reducible assumption) | assumption)
                          obtain ⟨ad202, A202_0, c202_0, e202, hx202_0, hl202_0, hi202_0⟩ := at_L1 HR0.out x8_1 p202 q202
                          obtain rfl : ad197 = ad202 := (by injection e202)
                          have HR202_0 := Aside0.mk hi202_0
                          have HC202_0 := Aside0.mk hl202_0
                          clear hi202_0 hl202_0
                          replace p202 := eq_true p202
                          replace q202 := eq_true q202
                          have ea_ := Option.some.inj (hx201_0.symm.trans hx202_0)
                          injection ea_ with ea_ en_ ec_
                          subst ea_
                          subst ec_
                          clear en_
                          have p203 : 0 ≤ ((ji12) : Int) := of_decide_eq_true (by first | (with_reducible assumption) | assumption)
                          have q203 : (ji12) < ((rd_L1 l0 x8_1).length : Int) := of_decide_eq_true (by first | (with_reducible assumption) | assumption)
                          obtain ⟨ad203, e203, hx203_0⟩ := Kd.at_int HR202_0.out (ji12) p203 q203
                          cases e203
                          replace p203 := eq_true p203
                          replace q203 := eq_true q203
                          go_wp2_with (first | (go_at_call 46; (with_reducible refine (spec_l41Bit.calls (rd (rd_L1 l0 x8_1) (ji12)) a1 t204 _ A14.out).mono ?_); rintro e w' ⟨rfl, ⟨nd, rfl⟩⟩))
                          go_meet
                          case rel => exact ⟨_, (((wrap64 (t200 + t204)) == a2)), (by first | rfl | (simp; done) | (simp [*]; done)), H', ⟨by have := HK1.out; have := HK2.out; first | omega | exact Nat.le_refl _⟩, by repeat (first | exact Drawn0.refl _ | apply Drawn0.step)⟩
                        · rw [if_neg c13] at H
                          exact absurd H (by simp)
                      · rw [if_neg c11] at H
                        have c11b0 : decide ((wrap64 (x9_2 + 1)) < ((rd_L1 l0 x8_1).length : Int)) = false := decide_eq_false c11
                        clear c11
                        (first | rw [c11b0] | (simp only [i64_w, i32_w]; rw [c11b0]) | skip)
                        have H' := Aside0.mk H
                        clear H
                        have p201 : 0 ≤ (x8_1 : Int) := of_decide_eq_true (by first | (with_reducible assumption) | assumption)
                        have q201 : x8_1 < (l0.length : Int) := of_decide_eq_true (by first | (with_reducible assumption) | assumption)
                        obtain ⟨ad201, A201_0, c201_0, e201, hx201_0, hl201_0, hi201_0⟩ := at_L1 HR0.out x8_1 p201 q201
                        obtain rfl : ad197 = ad201 := (by injection e201)
                        have HR201_0 := Aside0.mk hi201_0
                        have HC201_0 := Aside0.mk hl201_0
                        clear hi201_0 hl201_0
                        replace p201 := eq_true p201
                        replace q201 := eq_true q201
                        have ea_ := Option.some.inj (hx198_0.symm.trans hx201_0)
                        injection ea_ with ea_ en_ ec_
                        subst ea_
                        subst ec_
                        clear en_
                        go_wp2
                        go_meet
                        case rel => exact ⟨_, (false), (by first | rfl | (simp; done) | (simp [*]; done)), H', ⟨by have := HK1.out; have := HK2.out; first | omega | exact Nat.le_refl _⟩, by repeat (first | exact Drawn0.refl _ | apply Drawn0.step)⟩
                    case rest =>
                      clear HC10
                      try clear c1
                      try clear p1
                      try clear q1
                      try clear hx1
                      try clear c2
                      try clear p2
                      try clear q2
                      try clear hx2
                      try clear c4
                      try clear c4b0
                      try clear c5
                      try clear c5b0
                      try clear c6
                      try clear c6b0
                      try clear p6
                      try clear c7
                      try clear c7b0
                      try clear c8
                      try clear c8b0
                      try clear c11
                      try clear c11b0
                      try clear c13
                      try clear c13b0
                      try clear hx197_0
                      try clear hx198_0
                      try clear hx199_0
                      try clear hx201_0
                      try clear hx202_0
                      try clear hx203_0
                      try clear p197
                      try clear p198
                      try clear p199
                      try clear p2
                      try clear p201
                      try clear p202
                      try clear p203
                      try clear q197
                      try clear q198
                      try clear q199
                      try clear q201
                      try clear q202
                      try clear q203
                      obtain ⟨kq, x58_9, rfl, HA, HJ9, ⟨mc9, rfl⟩⟩ := hcut
                      cases kq with
                      | zero => exact absurd HA.out (by simp [spec_l41Pairs.j2])
                      | succ kj9 =>
                        have H := HA.out
                        clear HA
                        simp only [spec_l41Pairs.j2] at H
                        by_cases c15 : x58_9 = true
                        · subst c15
                          have H1 : (if (wrap64 (x8_1 + 1)) < (l0.length : Int) then (if 0 ≤ (wrap64 (x8_1 + 1)) then (if 0 ≤ x9_2 then (if x9_2 < ((rd_L1 l0 (wrap64 (x8_1 + 1))).length : Int) then ((spec_l41Bit.f (rd (rd_L1 l0 (wrap64 (x8_1 + 1))) x9_2) a1).bind fun t207 => (if (wrap64 (t200 + t207)) = a2 then (spec_l41Pairs.l1 kj9 l0 a1 a2 (wrap64 ((wrap64 (x7_2 + 1)) + 1)) x8_1 (wrap64 (x9_2 + 1))) else (spec_l41Pairs.l1 kj9 l0 a1 a2 (wrap64 (x7_2 + 1)) x8_1 (wrap64 (x9_2 + 1))))) else (none)) else (none)) else (none)) else (spec_l41Pairs.l1 kj9 l0 a1 a2 (wrap64 (x7_2 + 1)) x8_1 (wrap64 (x9_2 + 1)))) = some r := by rw [if_pos rfl] at H; exact H
                          clear H
                          have H := H1
                          clear H1
                          by_cases c16 : (wrap64 (x8_1 + 1)) < (l0.length : Int)
                          · rw [if_pos c16] at H
                            have c16b0 : decide ((wrap64 (x8_1 + 1)) < (l0.length : Int)) = true := decide_eq_true c16
                            clear c16
                            obtain ⟨ji17, hji17⟩ : ∃ j_ : Int, (wrap64 (x8_1 + 1)) = j_ := ⟨_, rfl⟩
                            replace H : (if 0 ≤ (ji17) then (if 0 ≤ x9_2 then (if x9_2 < ((rd_L1 l0 (ji17)).length : Int) then ((spec_l41Bit.f (rd (rd_L1 l0 (ji17)) x9_2) a1).bind fun t207 => (if (wrap64 (t200 + t207)) = a2 then (spec_l41Pairs.l1 kj9 l0 a1 a2 (wrap64 ((wrap64 (x7_2 + 1)) + 1)) x8_1 (wrap64 (x9_2 + 1))) else (spec_l41Pairs.l1 kj9 l0 a1 a2 (wrap64 (x7_2 + 1)) x8_1 (wrap64 (x9_2 + 1))))) else (none)) else (none)) else (none)) = some r := by first | (rw [hji17] at H; exact H) | (simp only [hji17] at H ⊢; exact H)
                            (try rw [hji17] at c16b0)
                            have hji17w : (IntKind.i64.wrap (x8_1 + 1)) = ji17 := (i64_w _).trans hji17
                            by_cases c18 : 0 ≤ (ji17)
                            · rw [if_pos c18] at H
                              have c18b0 : decide (0 ≤ (ji17)) = true := decide_eq_true c18
                              clear c18
                              by_cases c19 : 0 ≤ x9_2
                              · rw [if_pos c19] at H
                                have c19b0 : decide (0 ≤ x9_2) = true := decide_eq_true c19
                                clear c19
                                by_cases c20 : x9_2 < ((rd_L1 l0 (ji17)).length : Int)
                                · rw [if_pos c20] at H
                                  have c20b0 : decide (x9_2 < ((rd_L1 l0 (ji17)).length : Int)) = true := decide_eq_true c20
                                  clear c20
                                  replace H := Option.bind_eq_some_iff.mp H
                                  obtain ⟨t207, A210, H⟩ := H
                                  replace H : (if (wrap64 (t200 + t207)) = a2 then (spec_l41Pairs.l1 kj9 l0 a1 a2 (wrap64 ((wrap64 (x7_2 + 1)) + 1)) x8_1 (wrap64 (x9_2 + 1))) else (spec_l41Pairs.l1 kj9 l0 a1 a2 (wrap64 (x7_2 + 1)) x8_1 (wrap64 (x9_2 + 1)))) = some r := H
                                  have A21 := Aside0.mk A210
                                  clear A210
                                  by_cases c22 : (wrap64 (t200 + t207)) = a2
                                  · rw [if_pos c22] at H
                                    have c22b0 : ((wrap64 (t200 + t207)) == a2) = true := beq_iff_eq.mpr c22
                                    have c22b1 : ((wrap64 (t200 + t207)) != a2) = false := bne_eq_false_iff_eq.mpr c22
                                    clear c22
                                    have H' := Aside0.mk H
                                    clear H
                                    have p205 : 0 ≤ ((ji17) : Int) := of_decide_eq_true (by first | (with_reducible assumption) | assumption)
                                    have q205 : (ji17) < (l0.length : Int) := of_decide_eq_true (by first | (with_reducible assumption) | assumption)
                                    obtain ⟨ad205, A205_0, c205_0, e205, hx205_0, hl205_0, hi205_0⟩ := at_L1 HR0.out (ji17) p205 q205
                                    obtain rfl : ad197 = ad205 := (by injection e205)
                                    have HR205_0 := Aside0.mk hi205_0
                                    have HC205_0 := Aside0.mk hl205_0
                                    clear hi205_0 hl205_0
                                    replace p205 := eq_true p205
                                    replace q205 := eq_true q205
                                    have p206 : 0 ≤ (x9_2 : Int) := of_decide_eq_true (by first | (with_reducible assumption) | assumption)
                                    have q206 : x9_2 < ((rd_L1 l0 (ji17)).length : Int) := of_decide_eq_true (by first | (with_reducible assumption) | assumption)
                                    obtain ⟨ad206, e206, hx206_0⟩ := Kd.at_int HR205_0.out x9_2 p206 q206
                                    cases e206
                                    replace p206 := eq_true p206
                                    replace q206 := eq_true q206
                                    go_wp2_with (first | (go_at_call 46; (with_reducible refine (spec_l41Bit.calls (rd (rd_L1 l0 (ji17)) x9_2) a1 t207 _ A21.out).mono ?_); rintro e w' ⟨rfl, ⟨nd, rfl⟩⟩))
                                    go_roundg kj9
                                    case measure => have := HK1.out; have := HK2.out; have := HJ9.out; omega
                                    case rel => exact ⟨(wrap64 ((wrap64 (x7_2 + 1)) + 1)), (wrap64 (x9_2 + 1)), (by first | rfl | (simp; done) | (simp [*]; done)), (by first | rfl | (simp; done) | (simp [*]; done)), H', ⟨by have := HK1.out; have := HK2.out; have := HJ9.out; omega⟩, by repeat (first | exact Drawn0.refl _ | apply Drawn0.step)⟩
                                  · rw [if_neg c22] at H
                                    have c22b0 : ((wrap64 (t200 + t207)) == a2) = false := beq_eq_false_iff_ne.mpr c22
                                    have c22b1 : ((wrap64 (t200 + t207)) != a2) = true := bne_iff_ne.mpr c22
                                    have H' := Aside0.mk H
                                    clear H
                                    have p205 : 0 ≤ ((ji17) : Int) := of_decide_eq_true (by first | (with_reducible assumption) | assumption)
                                    have q205 : (ji17) < (l0.length : Int) := of_decide_eq_true (by first | (with_reducible assumption) | assumption)
                                    obtain ⟨ad205, A205_0, c205_0, e205, hx205_0, hl205_0, hi205_0⟩ := at_L1 HR0.out (ji17) p205 q205
                                    obtain rfl : ad197 = ad205 := (by injection e205)
                                    have HR205_0 := Aside0.mk hi205_0
                                    have HC205_0 := Aside0.mk hl205_0
                                    clear hi205_0 hl205_0
                                    replace p205 := eq_true p205
                                    replace q205 := eq_true q205
                                    have p206 : 0 ≤ (x9_2 : Int) := of_decide_eq_true (by first | (with_reducible assumption) | assumption)
                                    have q206 : x9_2 < ((rd_L1 l0 (ji17)).length : Int) := of_decide_eq_true (by first | (with_reducible assumption) | assumption)
                                    obtain ⟨ad206, e206, hx206_0⟩ := Kd.at_int HR205_0.out x9_2 p206 q206
                                    cases e206
                                    replace p206 := eq_true p206
                                    replace q206 := eq_true q206
                                    go_wp2_with (first | (go_at_call 46; (with_reducible refine (spec_l41Bit.calls (rd (rd_L1 l0 (ji17)) x9_2) a1 t207 _ A21.out).mono ?_); rintro e w' ⟨rfl, ⟨nd, rfl⟩⟩))
                                    go_roundg kj9
                                    case measure => have := HK1.out; have := HK2.out; have := HJ9.out; omega
                                    case rel => exact ⟨(wrap64 (x7_2 + 1)), (wrap64 (x9_2 + 1)), (by first | rfl | (simp; done) | (simp [*]; done)), (by first | rfl | (simp; done) | (simp [*]; done)), H', ⟨by have := HK1.out; have := HK2.out; have := HJ9.out; omega⟩, by repeat (first | exact Drawn0.refl _ | apply Drawn0.step)⟩
                                · rw [if_neg c20] at H
                                  exact absurd H (by simp)
                              · rw [if_neg c19] at H
                                exact absurd H (by simp)
                            · rw [if_neg c18] at H
                              exact absurd H (by simp)
                          · rw [if_neg c16] at H
                            have c16b0 : decide ((wrap64 (x8_1 + 1)) < (l0.length : Int)) = false := decide_eq_false c16
                            clear c16
                            have H' := Aside0.mk H
                            clear H
                            go_wp2
                            go_roundg kj9
                            case measure => have := HK1.out; have := HK2.out; have := HJ9.out; omega
                            case rel => exact ⟨(wrap64 (x7_2 + 1)), (wrap64 (x9_2 + 1)), (by first | rfl | (simp; done) | (simp [*]; done)), (by first | rfl | (simp; done) | (simp [*]; done)), H', ⟨by have := HK1.out; have := HK2.out; have := HJ9.out; omega⟩, by repeat (first | exact Drawn0.refl _ | apply Drawn0.step)⟩
                        · replace c15 := Bool.eq_false_iff.mpr c15
                          subst c15
                          have H1 : (if (wrap64 (x8_1 + 1)) < (l0.length : Int) then (if 0 ≤ (wrap64 (x8_1 + 1)) then (if 0 ≤ x9_2 then (if x9_2 < ((rd_L1 l0 (wrap64 (x8_1 + 1))).length : Int) then ((spec_l41Bit.f (rd (rd_L1 l0 (wrap64 (x8_1 + 1))) x9_2) a1).bind fun t210 => (if (wrap64 (t200 + t210)) = a2 then (spec_l41Pairs.l1 kj9 l0 a1 a2 (wrap64 (x7_2 + 1)) x8_1 (wrap64 (x9_2 + 1))) else (spec_l41Pairs.l1 kj9 l0 a1 a2 x7_2 x8_1 (wrap64 (x9_2 + 1))))) else (none)) else (none)) else (none)) else (spec_l41Pairs.l1 kj9 l0 a1 a2 x7_2 x8_1 (wrap64 (x9_2 + 1)))) = some r := by rw [if_neg (show ¬ (false = true) by decide)] at H; exact H
                          clear H
                          have H := H1
                          clear H1
                          by_cases c23 : (wrap64 (x8_1 + 1)) < (l0.length : Int)
                          · rw [if_pos c23] at H
                            have c23b0 : decide ((wrap64 (x8_1 + 1)) < (l0.length : Int)) = true := decide_eq_true c23
                            clear c23
                            obtain ⟨ji24, hji24⟩ : ∃ j_ : Int, (wrap64 (x8_1 + 1)) = j_ := ⟨_, rfl⟩
                            replace H : (if 0 ≤ (ji24) then (if 0 ≤ x9_2 then (if x9_2 < ((rd_L1 l0 (ji24)).length : Int) then ((spec_l41Bit.f (rd (rd_L1 l0 (ji24)) x9_2) a1).bind fun t210 => (if (wrap64 (t200 + t210)) = a2 then (spec_l41Pairs.l1 kj9 l0 a1 a2 (wrap64 (x7_2 + 1)) x8_1 (wrap64 (x9_2 + 1))) else (spec_l41Pairs.l1 kj9 l0 a1 a2 x7_2 x8_1 (wrap64 (x9_2 + 1))))) else (none)) else (none)) else (none)) = some r := by first | (rw [hji24] at H; exact H) | (simp only [hji24] at H ⊢; exact H)
                            (try rw [hji24] at c23b0)
                            have hji24w : (IntKind.i64.wrap (x8_1 + 1)) = ji24 := (i64_w _).trans hji24
                            by_cases c25 : 0 ≤ (ji24)
                            · rw [if_pos c25] at H
                              have c25b0 : decide (0 ≤ (ji24)) = true := decide_eq_true c25
                              clear c25
                              by_cases c26 : 0 ≤ x9_2
                              · rw [if_pos c26] at H
                                have c26b0 : decide (0 ≤ x9_2) = true := decide_eq_true c26
                                clear c26
                                by_cases c27 : x9_2 < ((rd_L1 l0 (ji24)).length : Int)
                                · rw [if_pos c27] at H
                                  have c27b0 : decide (x9_2 < ((rd_L1 l0 (ji24)).length : Int)) = true := decide_eq_true c27
                                  clear c27
                                  replace H := Option.bind_eq_some_iff.mp H
                                  obtain ⟨t210, A280, H⟩ := H
                                  replace H : (if (wrap64 (t200 + t210)) = a2 then (spec_l41Pairs.l1 kj9 l0 a1 a2 (wrap64 (x7_2 + 1)) x8_1 (wrap64 (x9_2 + 1))) else (spec_l41Pairs.l1 kj9 l0 a1 a2 x7_2 x8_1 (wrap64 (x9_2 + 1)))) = some r := H
                                  have A28 := Aside0.mk A280
                                  clear A280
                                  by_cases c29 : (wrap64 (t200 + t210)) = a2
                                  · rw [if_pos c29] at H
                                    have c29b0 : ((wrap64 (t200 + t210)) == a2) = true := beq_iff_eq.mpr c29
                                    have c29b1 : ((wrap64 (t200 + t210)) != a2) = false := bne_eq_false_iff_eq.mpr c29
                                    clear c29
                                    have H' := Aside0.mk H
                                    clear H
                                    have p208 : 0 ≤ ((ji24) : Int) := of_decide_eq_true (by first | (with_reducible assumption) | assumption)
                                    have q208 : (ji24) < (l0.length : Int) := of_decide_eq_true (by first | (with_reducible assumption) | assumption)
                                    obtain ⟨ad208, A208_0, c208_0, e208, hx208_0, hl208_0, hi208_0⟩ := at_L1 HR0.out (ji24) p208 q208
                                    obtain rfl : ad197 = ad208 := (by injection e208)
                                    have HR208_0 := Aside0.mk hi208_0
                                    have HC208_0 := Aside0.mk hl208_0
                                    clear hi208_0 hl208_0
                                    replace p208 := eq_true p208
                                    replace q208 := eq_true q208
                                    have p209 : 0 ≤ (x9_2 : Int) := of_decide_eq_true (by first | (with_reducible assumption) | assumption)
                                    have q209 : x9_2 < ((rd_L1 l0 (ji24)).length : Int) := of_decide_eq_true (by first | (with_reducible assumption) | assumption)
                                    obtain ⟨ad209, e209, hx209_0⟩ := Kd.at_int HR208_0.out x9_2 p209 q209
                                    cases e209
                                    replace p209 := eq_true p209
                                    replace q209 := eq_true q209
                                    go_wp2_with (first | (go_at_call 46; (with_reducible refine (spec_l41Bit.calls (rd (rd_L1 l0 (ji24)) x9_2) a1 t210 _ A28.out).mono ?_); rintro e w' ⟨rfl, ⟨nd, rfl⟩⟩))
                                    go_roundg kj9
                                    case measure => have := HK1.out; have := HK2.out; have := HJ9.out; omega
                                    case rel => exact ⟨(wrap64 (x7_2 + 1)), (wrap64 (x9_2 + 1)), (by first | rfl | (simp; done) | (simp [*]; done)), (by first | rfl | (simp; done) | (simp [*]; done)), H', ⟨by have := HK1.out; have := HK2.out; have := HJ9.out; omega⟩, by repeat (first | exact Drawn0.refl _ | apply Drawn0.step)⟩
                                  · rw [if_neg c29] at H
                                    have c29b0 : ((wrap64 (t200 + t210)) == a2) = false := beq_eq_false_iff_ne.mpr c29
                                    have c29b1 : ((wrap64 (t200 + t210)) != a2) = true := bne_iff_ne.mpr c29
                                    have H' := Aside0.mk H
                                    clear H
                                    have p208 : 0 ≤ ((ji24) : Int) := of_decide_eq_true (by first | (with_reducible assumption) | assumption)
                                    have q208 : (ji24) < (l0.length : Int) := of_decide_eq_true (by first | (with_reducible assumption) | assumption)
                                    obtain ⟨ad208, A208_0, c208_0, e208, hx208_0, hl208_0, hi208_0⟩ := at_L1 HR0.out (ji24) p208 q208
                                    obtain rfl : ad197 = ad208 := (by injection e208)
                                    have HR208_0 := Aside0.mk hi208_0
                                    have HC208_0 := Aside0.mk hl208_0
                                    clear hi208_0 hl208_0
                                    replace p208 := eq_true p208
                                    replace q208 := eq_true q208
                                    have p209 : 0 ≤ (x9_2 : Int) := of_decide_eq_true (by first | (with_reducible assumption) | assumption)
                                    have q209 : x9_2 < ((rd_L1 l0 (ji24)).length : Int) := of_decide_eq_true (by first | (with_reducible assumption) | assumption)
                                    obtain ⟨ad209, e209, hx209_0⟩ := Kd.at_int HR208_0.out x9_2 p209 q209
                                    cases e209
                                    replace p209 := eq_true p209
                                    replace q209 := eq_true q209
                                    go_wp2_with (first | (go_at_call 46; (with_reducible refine (spec_l41Bit.calls (rd (rd_L1 l0 (ji24)) x9_2) a1 t210 _ A28.out).mono ?_); rintro e w' ⟨rfl, ⟨nd, rfl⟩⟩))
                                    go_roundg kj9
                                    case measure => have := HK1.out; have := HK2.out; have := HJ9.out; omega
                                    case rel => exact ⟨(x7_2), (wrap64 (x9_2 + 1)), (by first | rfl | (simp; done) | (simp [*]; done)), (by first | rfl | (simp; done) | (simp [*]; done)), H', ⟨by have := HK1.out; have := HK2.out; have := HJ9.out; omega⟩, by repeat (first | exact Drawn0.refl _ | apply Drawn0.step)⟩
                                · rw [if_neg c27] at H
                                  exact absurd H (by simp)
                              · rw [if_neg c26] at H
                                exact absurd H (by simp)
                            · rw [if_neg c25] at H
                              exact absurd H (by simp)
                          · rw [if_neg c23] at H
                            have c23b0 : decide ((wrap64 (x8_1 + 1)) < (l0.length : Int)) = false := decide_eq_false c23
                            clear c23
                            have H' := Aside0.mk H
                            clear H
                            go_wp2
                            go_roundg kj9
                            case measure => have := HK1.out; have := HK2.out; have := HJ9.out; omega
                            case rel => exact ⟨(x7_2), (wrap64 (x9_2 + 1)), (by first | rfl | (simp; done) | (simp [*]; done)), (by first | rfl | (simp; done) | (simp [*]; done)), H', ⟨by have := HK1.out; have := HK2.out; have := HJ9.out; omega⟩, by repeat (first | exact Drawn0.refl _ | apply Drawn0.step)⟩
                  · rw [if_neg c8] at H
                    exact absurd H (by simp)
                · rw [if_neg c7] at H
                  have c7b0 : decide (x9_2 < ((rd_L1 l0 x8_1).length : Int)) = false := decide_eq_false c7
                  clear c7
                  have H' := Aside0.mk H
                  clear H
                  have p197 : 0 ≤ (x8_1 : Int) := of_decide_eq_true (by first | (with_reducible assumption) | assumption)
                  have q197 : x8_1 < (l0.length : Int) := of_decide_eq_true (by first | (with_reducible assumption) | assumption)
                  obtain ⟨ad197, A197_0, c197_0, e197, hx197_0, hl197_0, hi197_0⟩ := at_L1 HR0.out x8_1 p197 q197
                  cases e197
                  have HR197_0 := Aside0.mk hi197_0
                  have HC197_0 := Aside0.mk hl197_0
                  clear hi197_0 hl197_0
                  replace p197 := eq_true p197
                  replace q197 := eq_true q197
                  go_wp2
                  go_roundg k2
                  case measure => have := HK1.out; have := HK2.out; omega
                  case rel => exact ⟨(x7_2), (wrap64 (x8_1 + 1)), (by first | rfl | (simp; done) | (simp [*]; done)), (by first | rfl | (simp; done) | (simp [*]; done)), H', ⟨by have := HK1.out; have := HK2.out; omega⟩, by repeat (first | exact Drawn0.refl _ | apply Drawn0.step)⟩
              · rw [if_neg c6] at H
                exact absurd H (by simp)
            · rw [if_neg c5] at H
              exact absurd H (by simp)
      · rw [if_neg c4] at H
        have c4b0 : decide (x8_1 < (l0.length : Int)) = false := decide_eq_false c4
        clear c4
        obtain rfl := Option.some.inj H
        go_wp2
        go_ret
        exact ⟨by first | rfl | (simp; done) | (simp [*]; done), by repeat (first | exact Drawn0.refl _ | apply Drawn0.step)⟩

end Go.Proofs.Ytkhemhmdapggmaa.P

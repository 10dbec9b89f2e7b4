/- Each high height has its neighbors: for all codes. No condition is added. -/
import Derived.Test.YtkhemhmdapggmaaPx36
import Derived.Test.YtkhemhmdapggmaaGridM
set_option linter.unusedVariables false
set_option linter.unusedSimpArgs false
namespace Go.Proofs.Ytkhemhmdapggmaa.Pure
open Go.RowKit Go.Proofs.Ytkhemhmdapggmaa.P Go.Proofs.YtkhemhmdapggmaaW.PrintWords Go.Proofs.YtkhemhmdapggmaaW.PrintLast Go.Proofs.Ytkhemhmdapggmaa.Ev Go.Proofs.Ytkhemhmdapggmaa.Ints Go.Proofs.Ytkhemhmdapggmaa.GridA Go.Proofs.Ytkhemhmdapggmaa.Pick
theorem mn_nat (n : Nat) : mn 1 (n : Int) = if 0 < n then 1 else 0 := by unfold mn; split <;> split <;> omega
theorem FnCuts : laws_FnCuts.Pure := by
  intro l _ hl1 hwf
  refine EvQ.rounds (g := fun k => laws_FnCuts.f k l) ?_
  unfold laws_FnCuts.f
  refine EvQ.ite (fun _ => EvQ.ret rfl) (fun _ => ?_)
  unfold spec_DrawGridCuts.f
  refine drawnL hwf (fun g lv _ _ => ?_)
  refine EvQ.call (implCuts g lv) (EvQ.call (specCuts g lv) (EvQ.pos rfl ?_))
  refine EvQ.step (fun k => by simp only [laws_FnCuts.j0]; rfl) ?_
  refine EvQ.ite (fun _ => EvQ.ret (by simp)) (fun hn => ?_)
  simp only [decide_eq_true_eq] at hn
  have h : okG g = true := by
    by_cases h : okG g = true
    · exact h
    · unfold cutsV at hn; rw [if_neg h] at hn; omega
  obtain ⟨g1, g2, _⟩ := okG_of h
  have ec : cutsV g lv = pairs lv 1 g := by unfold cutsV; rw [if_pos h]
  rw [ec]
  have fb : ∀ i j, i < g.length → j < cols g → 0 ≤ bt lv (at_ g i j) * nb g.length (cols g) i j ∧ bt lv (at_ g i j) * nb g.length (cols g) i j ≤ 4 := by
    intro i j _ _
    have hb := bt_range lv (at_ g i j)
    generalize bt lv (at_ g i j) = b at *
    have hnb : 0 ≤ nb g.length (cols g) i j ∧ nb g.length (cols g) i j ≤ 4 := by unfold nb; split <;> split <;> split <;> split <;> omega
    obtain rfl | rfl : b = 0 ∨ b = 1 := by omega
    · simp
    · rw [Int.one_mul]; exact hnb
  refine EvQ.grid (σ := Int) (g0 := fun k i s => laws_FnCuts.l0 k g lv (pairs lv 1 g) s i) (g1 := fun k i j s => laws_FnCuts.l1 k g lv (pairs lv 1 g) s i j) g.length (fun _ => cols g)
    (fun i s => s = sm i (fun i => sm (cols g) (fun j => bt lv (at_ g i j) * nb g.length (cols g) i j))) (fun i j s => s = sm i (fun i => sm (cols g) (fun j => bt lv (at_ g i j) * nb g.length (cols g) i j)) + sm j (fun j => bt lv (at_ g i j) * nb g.length (cols g) i j)) ?_ ?_ ?_ ?_ 0 (by rw [sm])
  · rintro i _ hi rfl ih
    refine EvQ.step (fun k => by simp only [laws_FnCuts.l0]; rfl) ?_
    exact EvQ.pos (by omega) (ih _ (by simp [sm]))
  · rintro i j s hi hj hs ih
    have b1 := sm_bound (n := i) (f := fun i => sm (cols g) (fun j => bt lv (at_ g i j) * nb g.length (cols g) i j)) (b := 24) (fun a ha => by
      have := sm_bound (n := cols g) (f := fun j => bt lv (at_ g a j) * nb g.length (cols g) a j) (b := 4) (fun b hb => fb a b (by omega) hb)
      omega)
    have b2 := sm_bound (n := j) (f := fun j => bt lv (at_ g i j) * nb g.length (cols g) i j) (b := 4) (fun b hb => fb i b hi (by omega))
    have hrl := row_len h hi
    have hsb : 0 ≤ s ∧ s ≤ 200 := by omega
    have hst : ∀ x, x = s + bt lv (at_ g i j) * nb g.length (cols g) i j → EvQ (fun k => laws_FnCuts.l1 k g lv (pairs lv 1 g) x (i : Int) ((j : Int) + 1)) (fun r => r = true) := by
      intro x hx
      refine ih x ?_
      rw [hx, hs, sm]; omega
    refine EvQ.step (fun k => by simp only [laws_FnCuts.l1]; rfl) ?_
    rw [hrl, at_rd, w64 (n := (j : Int) + 1) (by omega) (by omega), w64 (n := (g.length : Int) - 1) (by omega) (by omega), w64 (n := (cols g : Int) - 1) (by omega) (by omega), w64 (n := (g.length : Int) - 1 - i) (by omega) (by omega), w64 (n := (cols g : Int) - 1 - j) (by omega) (by omega)]
    refine EvQ.pos (by omega) (EvQ.pos (by omega) (EvQ.pos (by omega) (EvQ.pos (by omega) ?_)))
    refine EvQ.ite (fun c => hst _ ?_) (fun c => hst _ ?_)
    · have : bt lv (at_ g i j) = 0 := by unfold GridA.bt; rw [if_neg (by omega)]
      rw [this, Int.zero_mul]; omega
    · have e1 : bt lv (at_ g i j) = 1 := by unfold GridA.bt; rw [if_pos (by omega)]
      have e2 : (g.length : Int) - 1 - i = ((g.length - 1 - i : Nat) : Int) := by omega
      have e3 : (cols g : Int) - 1 - j = ((cols g - 1 - j : Nat) : Int) := by omega
      rw [e1, Int.one_mul, e2, e3, mn_nat, mn_nat, mn_nat, mn_nat]
      have h1 : (if 0 < i then (1 : Int) else 0) = 0 ∨ (if 0 < i then (1 : Int) else 0) = 1 := by split <;> simp
      have h2 : (if 0 < j then (1 : Int) else 0) = 0 ∨ (if 0 < j then (1 : Int) else 0) = 1 := by split <;> simp
      have h3 : (if 0 < g.length - 1 - i then (1 : Int) else 0) = if i + 1 < g.length then 1 else 0 := by split <;> split <;> omega
      have h4 : (if 0 < cols g - 1 - j then (1 : Int) else 0) = if j + 1 < cols g then 1 else 0 := by split <;> split <;> omega
      have h5 : (if i + 1 < g.length then (1 : Int) else 0) = 0 ∨ (if i + 1 < g.length then (1 : Int) else 0) = 1 := by split <;> simp
      have h6 : (if j + 1 < cols g then (1 : Int) else 0) = 0 ∨ (if j + 1 < cols g then (1 : Int) else 0) = 1 := by split <;> simp
      unfold nb
      rw [h3, h4]
      generalize (if 0 < i then (1 : Int) else 0) = p1 at *
      generalize (if 0 < j then (1 : Int) else 0) = p2 at *
      generalize (if i + 1 < g.length then (1 : Int) else 0) = p3 at *
      generalize (if j + 1 < cols g then (1 : Int) else 0) = p4 at *
      rw [w64 (n := s + p1) (by omega) (by omega), w64 (n := s + p1 + p2) (by omega) (by omega), w64 (n := s + p1 + p2 + p3) (by omega) (by omega), w64 (by omega) (by omega)]
      omega
  · rintro i _ hi rfl ih
    refine EvQ.step (fun k => by simp only [laws_FnCuts.l1]; rfl) ?_
    rw [row_len h hi]
    refine EvQ.pos (by omega) (EvQ.pos (by omega) (EvQ.neg (by omega) ?_))
    rw [w64 (n := (i : Int) + 1) (by omega) (by omega)]
    exact ih _ (by rw [sm])
  · rintro s hs
    refine EvQ.step (fun k => by simp only [laws_FnCuts.l0]; rfl) ?_
    refine EvQ.neg (by omega) (EvQ.call (implHigh g lv) (EvQ.call (implRidge g lv) ?_))
    have e1 : highV g lv = s2 g.length (cols g) (fun i j => bt lv (at_ g i j)) := by unfold highV; rw [if_pos h, bt_hi lv g h]
    have e2 : ridgeV g lv = pairs lv 2 g := by unfold ridgeV; rw [if_pos h]
    have hp1 := part_bound h lv 1 g.length (Nat.le_refl _)
    have hp2 := part_bound h lv 2 g.length (Nat.le_refl _)
    have q1 : pairs lv 1 g = sm g.length (fun i => sm (cols g) (fun j => hz lv 1 g i j + vt lv 1 g i j)) := rfl
    have q2 : pairs lv 2 g = sm g.length (fun i => sm (cols g) (fun j => hz lv 2 g i j + vt lv 2 g i j)) := rfl
    have hne := neighbors lv g
    have hs2 : s = s2 g.length (cols g) (fun i j => bt lv (at_ g i j) * nb g.length (cols g) i j) := hs
    rw [e1, e2, w64 (n := 2 * pairs lv 2 g) (by omega) (by omega), w64 (n := pairs lv 1 g + _) (by omega) (by omega), okG_wn h]
    have hnone : s2 g.length (cols g) (fun i j => bt lv (at_ g i j)) = 0 → pairs lv 1 g = 0 := fun z => cuts_alike lv g 0 (s2_none (fun i j _ _ => (bt_range lv (at_ g i j)).1) z) (.inl rfl)
    have hcount : s2 g.length (cols g) (fun _ _ => 1) = (g.length : Int) * cols g := by
      unfold s2; rw [sm_congr (h := fun _ => 1 * (cols g : Int)) (fun i _ => sm_const 1 (cols g)), sm_const, Int.one_mul, Int.mul_comm]
    have hle : s2 g.length (cols g) (fun i j => 1 + -(bt lv (at_ g i j))) = (g.length : Int) * cols g - s2 g.length (cols g) (fun i j => bt lv (at_ g i j)) := by
      have := s2_mul (-1) g.length (cols g) (fun i j => bt lv (at_ g i j))
      rw [s2_add, hcount, s2_congr (h := fun i j => -1 * bt lv (at_ g i j)) (fun i j _ _ => by omega), this]; omega
    have hge : 0 ≤ s2 g.length (cols g) (fun i j => 1 + -(bt lv (at_ g i j))) := (s2_bound (b := 1) (fun i j _ _ => by have := bt_range lv (at_ g i j); omega)).1
    have hall : ¬ s2 g.length (cols g) (fun i j => bt lv (at_ g i j)) < (g.length : Int) * cols g → pairs lv 1 g = 0 := by
      intro z
      refine cuts_alike lv g 1 ?_ (.inr rfl)
      intro i j hi hj
      have := s2_none (m := g.length) (n := cols g) (f := fun i j => 1 + -(bt lv (at_ g i j))) (fun i j _ _ => by have := bt_range lv (at_ g i j); omega) (by omega) i j hi hj
      omega
    have hg0 : 0 ≤ s2 g.length (cols g) (fun i j => bt lv (at_ g i j)) := (s2_bound (b := 1) (fun i j _ _ => bt_range lv (at_ g i j))).1
    refine EvQ.pos (by omega) (EvQ.ite (fun c => EvQ.pos (by omega) (EvQ.ite (fun _ => EvQ.ret rfl) (fun c2 => EvQ.ret ?_))) (fun c => EvQ.ret ?_))
    · rw [beq_iff_eq]; exact hall c2
    · rw [beq_iff_eq]; exact hnone (by omega)
end Go.Proofs.Ytkhemhmdapggmaa.Pure

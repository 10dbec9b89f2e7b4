/- Contours are closed or end at the border: for all codes. No condition is added. -/
import Derived.Test.YtkhemhmdapggmaaPx38
import Derived.Test.YtkhemhmdapggmaaGridM
set_option linter.unusedVariables false
set_option linter.unusedSimpArgs false
namespace Go.Proofs.Ytkhemhmdapggmaa.Pure
open Go.RowKit Go.Proofs.Ytkhemhmdapggmaa.P Go.Proofs.YtkhemhmdapggmaaW.PrintWords Go.Proofs.YtkhemhmdapggmaaW.PrintLast Go.Proofs.Ytkhemhmdapggmaa.Ev Go.Proofs.Ytkhemhmdapggmaa.Ints Go.Proofs.Ytkhemhmdapggmaa.GridA Go.Proofs.Ytkhemhmdapggmaa.Pick
theorem hi_bt (lv x : Int) : decide (x ≥ lv) = (GridA.bt lv x == 1) := by unfold GridA.bt; by_cases h : x ≥ lv <;> simp [h]
theorem cut_pr (lv a b : Int) : (decide (a ≥ lv) != decide (b ≥ lv)) = decide (pr lv 1 a b = 1) := by
  unfold pr GridA.bt; by_cases ha : a ≥ lv <;> by_cases hb : b ≥ lv <;> simp [ha, hb]
theorem cont_j3 {g : List (List Int)} (h : okG g = true) (lv c : Int) {i j : Nat} (hi : i < g.length) (hj : j < cols g) {s : Int} (hsb : 0 ≤ s ∧ s ≤ 200) {Q : Bool → Prop}
    (hst : ∀ x, x = s + bd lv g i j → EvQ (fun k => laws_FnContours.l1 k g lv c (g.length : Int) (cols g : Int) x (i : Int) ((j : Int) + 1)) Q) (b : Bool) (hb : (if i = 0 ∨ i + 1 = g.length then hz lv 1 g i j else 0) = (if b = true then 1 else 0)) :
    EvQ (fun k => laws_FnContours.j3 k g lv c (g.length : Int) (cols g : Int) s (i : Int) (j : Int) (decide (at_ g i j ≥ lv)) b) Q := by
  obtain ⟨h1, h2, _⟩ := okG_of h
  have ei : ((i : Int) + 1) = ((i + 1 : Nat) : Int) := by omega
  have wi : wrap64 ((i : Int) + 1) = (i : Int) + 1 := w64 (by omega) (by omega)
  have wj : wrap64 ((j : Int) + 1) = (j : Int) + 1 := w64 (by omega) (by omega)
  have w1 : wrap64 (s + 1) = s + 1 := w64 (by omega) (by omega)
  have w2 : wrap64 (s + 1 + 1) = s + 1 + 1 := w64 (by omega) (by omega)
  have wc : wrap64 ((cols g : Int) - 1) = (cols g : Int) - 1 := w64 (by omega) (by omega)
  refine EvQ.step (fun k => by simp only [laws_FnContours.j3]; rfl) ?_
  by_cases c2 : i + 1 < g.length
  · have hv : vt lv 1 g i j = pr lv 1 (at_ g i j) (at_ g (i + 1) j) := by unfold vt; rw [if_pos c2]
    have hrl := row_len h c2
    have hpr := pr_range lv 1 (at_ g i j) (at_ g (i + 1) j)
    rw [wi, wj, w1, w2, wc, ei, hrl, at_rd, cut_pr]
    by_cases e : j = 0 ∨ j + 1 = cols g
    · have hbd : bd lv g i j = (if b = true then 1 else 0) + pr lv 1 (at_ g i j) (at_ g (i + 1) j) := by unfold bd; rw [hb, if_pos e, hv]
      have fin : ∀ (d : Int), d = (if b = true then 1 else 0) → EvQ (fun k => if decide (pr lv 1 (at_ g i j) (at_ g (i + 1) j) = 1) = true then laws_FnContours.l1 k g lv c (g.length : Int) (cols g : Int) (s + d + 1) (i : Int) ((j : Int) + 1) else laws_FnContours.l1 k g lv c (g.length : Int) (cols g : Int) (s + d) (i : Int) ((j : Int) + 1)) Q := by
        intro d hd
        refine EvQ.ite (fun k => hst _ ?_) (fun k => hst _ ?_)
        · rw [decide_eq_true_eq] at k; rw [hbd, hd, k]; omega
        · rw [decide_eq_true_eq] at k; rw [hbd, hd, show pr lv 1 (at_ g i j) (at_ g (i + 1) j) = 0 by omega]; omega
      refine EvQ.ite (fun kb => ?_) (fun kb => ?_)
      · have f := fin 1 (by rw [if_pos kb])
        refine EvQ.pos (by omega) (EvQ.ite (fun k0 => ?_) (fun k0 => EvQ.pos (by omega) ?_))
        · exact EvQ.pos (by omega) (EvQ.pos (by omega) (EvQ.pos (by omega) (EvQ.pos (by omega) f)))
        · exact EvQ.pos (by omega) (EvQ.pos (by omega) (EvQ.pos (by omega) (EvQ.pos (by omega) f)))
      · have f := fin 0 (by rw [if_neg kb])
        rw [Int.add_zero] at f
        refine EvQ.pos (by omega) (EvQ.ite (fun k0 => ?_) (fun k0 => EvQ.pos (by omega) ?_))
        · exact EvQ.pos (by omega) (EvQ.pos (by omega) (EvQ.pos (by omega) (EvQ.pos (by omega) f)))
        · exact EvQ.pos (by omega) (EvQ.pos (by omega) (EvQ.pos (by omega) (EvQ.pos (by omega) f)))
    · have hbd : bd lv g i j = (if b = true then 1 else 0) + 0 := by unfold bd; rw [hb, if_neg e]
      refine EvQ.ite (fun kb => EvQ.pos (by omega) (EvQ.neg (by omega) (EvQ.neg (by omega) (hst _ ?_)))) (fun kb => EvQ.pos (by omega) (EvQ.neg (by omega) (EvQ.neg (by omega) (hst _ ?_))))
      · rw [hbd, if_pos kb]; omega
      · rw [hbd, if_neg kb]; omega
  · have hv : vt lv 1 g i j = 0 := by unfold vt; rw [if_neg c2]
    have hbd : bd lv g i j = (if b = true then 1 else 0) + 0 := by unfold bd; rw [hb, hv]; simp
    rw [wi, wj, w1]
    refine EvQ.ite (fun kb => EvQ.neg (by omega) (hst _ ?_)) (fun kb => EvQ.neg (by omega) (hst _ ?_))
    · rw [hbd, if_pos kb]; omega
    · rw [hbd, if_neg kb]; omega
theorem FnContours : laws_FnContours.Pure := by
  intro l _ hl1 hwf
  refine EvQ.rounds (g := fun k => laws_FnContours.f k l) ?_
  unfold laws_FnContours.f
  refine EvQ.ite (fun _ => EvQ.ret rfl) (fun _ => ?_)
  unfold spec_DrawGridLines.f
  refine drawnL hwf (fun g lv _ _ => ?_)
  refine EvQ.call (implLines g lv) (EvQ.call (specLines g lv) (EvQ.pos rfl ?_))
  refine EvQ.step (fun k => by simp only [laws_FnContours.j0]; rfl) ?_
  refine EvQ.ite (fun _ => EvQ.ret (by simp)) (fun hn => ?_)
  simp only [decide_eq_true_eq] at hn
  have h : okG g = true := by
    by_cases h : okG g = true
    · exact h
    · unfold linesV at hn; rw [if_neg h] at hn; omega
  obtain ⟨g1, g2, _⟩ := okG_of h
  have ec : linesV g lv = lines lv g := by unfold linesV; rw [if_pos h]
  have ecol : (g.headD []).length = cols g := rfl
  rw [ec, rdG_zero, ecol]
  refine EvQ.pos (by omega) ?_
  have fb : ∀ i j, 0 ≤ bd lv g i j ∧ bd lv g i j ≤ 2 := by
    intro i j
    have := hz_range lv 1 g i j; have := vt_range lv 1 g i j
    unfold bd; split <;> split <;> omega
  refine EvQ.grid (σ := Int) (g0 := fun k i s => laws_FnContours.l0 k g lv (lines lv g) (g.length : Int) (cols g : Int) s i) (g1 := fun k i j s => laws_FnContours.l1 k g lv (lines lv g) (g.length : Int) (cols g : Int) s i j) g.length (fun _ => cols g)
    (fun i s => s = sm i (fun i => sm (cols g) (bd lv g i))) (fun i j s => s = sm i (fun i => sm (cols g) (bd lv g i)) + sm j (bd lv g i)) ?_ ?_ ?_ ?_ 0 (by rw [sm])
  · rintro i _ hi rfl ih
    refine EvQ.step (fun k => by simp only [laws_FnContours.l0]; rfl) ?_
    exact EvQ.pos (by omega) (ih _ (by simp [sm]))
  · rintro i j s hi hj hs ih
    have b1 := sm_bound (n := i) (f := fun i => sm (cols g) (bd lv g i)) (b := 12) (fun a ha => by
      have := sm_bound (n := cols g) (f := bd lv g a) (b := 2) (fun b hb => fb a b)
      omega)
    have b2 := sm_bound (n := j) (f := bd lv g i) (b := 2) (fun b hb => fb i b)
    have hrl := row_len h hi
    have ej : ((j : Int) + 1) = ((j + 1 : Nat) : Int) := by omega
    have hsb : 0 ≤ s ∧ s ≤ 200 := by omega
    have hst : ∀ x, x = s + bd lv g i j → EvQ (fun k => laws_FnContours.l1 k g lv (lines lv g) (g.length : Int) (cols g : Int) x (i : Int) ((j : Int) + 1)) (fun r => r = true) := by
      intro x hx
      refine ih x ?_
      rw [hx, hs, sm]; omega
    have hj3 := cont_j3 h lv (lines lv g) hi hj hsb hst
    refine EvQ.step (fun k => by simp only [laws_FnContours.l1]; rfl) ?_
    rw [hrl, at_rd, w64 (n := (j : Int) + 1) (by omega) (by omega), w64 (n := (g.length : Int) - 1) (by omega) (by omega)]
    refine EvQ.pos (by omega) (EvQ.pos (by omega) (EvQ.pos (by omega) (EvQ.pos (by omega) (EvQ.pos (by omega) ?_))))
    have hpr := pr_range lv 1 (at_ g i j) (at_ g i (j + 1))
    refine EvQ.ite (fun c => ?_) (fun c => hj3 false ?_)
    · have hh : hz lv 1 g i j = pr lv 1 (at_ g i j) (at_ g i (j + 1)) := by unfold hz; rw [if_pos (by omega)]
      have hb : ∀ (_ : i = 0 ∨ i + 1 = g.length), (if i = 0 ∨ i + 1 = g.length then hz lv 1 g i j else 0) = (if decide (pr lv 1 (at_ g i j) (at_ g i (j + 1)) = 1) = true then 1 else 0) := by
        intro e
        rw [if_pos e, hh]
        by_cases k : pr lv 1 (at_ g i j) (at_ g i (j + 1)) = 1
        · rw [k]; simp
        · rw [show pr lv 1 (at_ g i j) (at_ g i (j + 1)) = 0 by omega]; simp
      rw [ej, at_rd, cut_pr]
      refine EvQ.ite (fun c0 => EvQ.pos (by omega) (EvQ.pos (by omega) (hj3 _ (hb (by omega))))) (fun c0 => EvQ.ite (fun c1 => EvQ.pos (by omega) (EvQ.pos (by omega) (hj3 _ (hb (by omega))))) (fun c1 => hj3 false ?_))
      rw [if_neg (by omega)]; simp
    · have hh : hz lv 1 g i j = 0 := by unfold hz; rw [if_neg (by omega)]
      rw [hh]; simp
  · rintro i _ hi rfl ih
    refine EvQ.step (fun k => by simp only [laws_FnContours.l1]; rfl) ?_
    rw [w64 (n := (i : Int) + 1) (by omega) (by omega)]
    exact EvQ.neg (by omega) (ih _ (by rw [sm]))
  · rintro s hs
    refine EvQ.step (fun k => by simp only [laws_FnContours.l0]; rfl) ?_
    refine EvQ.neg (by omega) (EvQ.call (implCuts g lv) ?_)
    have e1 : cutsV g lv = pairs lv 1 g := by unfold cutsV; rw [if_pos h]
    have hp1 := part_bound h lv 1 g.length (Nat.le_refl _)
    have q1 : pairs lv 1 g = sm g.length (fun i => sm (cols g) (fun j => hz lv 1 g i j + vt lv 1 g i j)) := rfl
    have hs2 : s = s2 g.length (cols g) (bd lv g) := hs
    have hbo := border lv g g1.1 g2.1
    have hs0 := s2_bound (m := g.length) (n := cols g) (f := bd lv g) (b := 2) (fun i j _ _ => fb i j)
    have hlp := lpart_bound h lv (g.length - 1) (by omega)
    have hl : lines lv g = sm (g.length - 1) (fun i => sm (cols g - 1) (fun j => pieceQ (cs lv g i j))) := rfl
    rw [e1, w64 (n := 2 * lines lv g) (by omega) (by omega), w64 (n := 2 * pairs lv 1 g) (by omega) (by omega), w64 (n := 2 * pairs lv 1 g - s) (by omega) (by omega)]
    refine EvQ.pos (by omega) (EvQ.ret ?_)
    rw [beq_iff_eq, Int.tmod_eq_emod_of_nonneg (by omega)]; omega
end Go.Proofs.Ytkhemhmdapggmaa.Pure

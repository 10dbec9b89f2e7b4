/- Chapter 41, plain: cases and lines of a grid, of the program and of the reference. No program in sight. -/
import Derived.Test.YtkhemhmdapggmaaGridC
import Derived.Test.YtkhemhmdapggmaaPx8
import Derived.Test.YtkhemhmdapggmaaPx9
import Derived.Test.YtkhemhmdapggmaaPx11
import Derived.Test.YtkhemhmdapggmaaPx10
import Derived.Test.YtkhemhmdapggmaaPx26
import Derived.Test.YtkhemhmdapggmaaPx27
set_option linter.unusedVariables false
set_option linter.unusedSimpArgs false
namespace Go.Proofs.Ytkhemhmdapggmaa.GridA
open Go.RowKit Go.Proofs.Ytkhemhmdapggmaa.P Go.Proofs.YtkhemhmdapggmaaW.PrintWords Go.Proofs.YtkhemhmdapggmaaW.PrintLast Go.Proofs.YtkhemhmdapggmaaW.PrintMore Go.Proofs.Ytkhemhmdapggmaa.Ev Go.Proofs.Ytkhemhmdapggmaa.Ints
/-- The case of the square at i, j. -/
def cs (lv : Int) (g : List (List Int)) (i j : Nat) : Int := bt lv (at_ g i j) + 2 * bt lv (at_ g i (j + 1)) + 4 * bt lv (at_ g (i + 1) (j + 1)) + 8 * bt lv (at_ g (i + 1) j)
theorem cs_range (lv : Int) (g : List (List Int)) (i j : Nat) : 0 ≤ cs lv g i j ∧ cs lv g i j ≤ 15 := by
  have := bt_range lv (at_ g i j); have := bt_range lv (at_ g i (j + 1)); have := bt_range lv (at_ g (i + 1) (j + 1)); have := bt_range lv (at_ g (i + 1) j)
  unfold cs; omega
theorem sqN_cs (lv a b c d : Int) : sqN lv a b c d 4 = bt lv a + 2 * bt lv b + 4 * bt lv c + 8 * bt lv d := by
  unfold sqN bt
  by_cases ha : lv ≤ a <;> by_cases hb : lv ≤ b <;> by_cases hc : lv ≤ c <;> by_cases hd : lv ≤ d <;> simp [ha, hb, hc, hd]
theorem sqAt_cs (lv : Int) (g : List (List Int)) (i j : Nat) : sqAt lv g i j = cs lv g i j := by
  have ei : ((i : Int) + 1) = ((i + 1 : Nat) : Int) := by omega
  have ej : ((j : Int) + 1) = ((j + 1 : Nat) : Int) := by omega
  unfold sqAt cs
  rw [ei, ej, at_rd, at_rd, at_rd, at_rd, sqN_cs]
theorem l41Case {g : List (List Int)} (h : okG g = true) (lv : Int) {i j : Nat} (hi : i + 1 < g.length) (hj : j + 1 < cols g) : spec_l41Case.f g lv (i : Int) (j : Int) = some (cs lv g i j) := by
  obtain ⟨h1, h2, _⟩ := okG_of h
  have ei : ((i : Int) + 1) = ((i + 1 : Nat) : Int) := by omega
  have ej : ((j : Int) + 1) = ((j + 1 : Nat) : Int) := by omega
  have wi : wrap64 ((i : Int) + 1) = ((i + 1 : Nat) : Int) := by rw [w64 (by omega) (by omega)]; exact ei
  have wj : wrap64 ((j : Int) + 1) = ((j + 1 : Nat) : Int) := by rw [w64 (by omega) (by omega)]; exact ej
  have r1 := row_len h (show i < g.length by omega)
  have r2 := row_len h hi
  have e : ∀ (A : Option Int) (c : Prop) [Decidable c], c → (if c then A else none) = A := fun A c _ hc => if_pos hc
  unfold spec_l41Case.f
  rw [wi, wj, r1, r2]
  rw [e _ _ (by omega), e _ _ (by omega), e _ _ (by omega), e _ _ (by omega), bit_eq, Option.bind_some]
  rw [e _ _ (by omega), e _ _ (by omega), bit_eq, Option.bind_some]
  rw [e _ _ (by omega), e _ _ (by omega), e _ _ (by omega), bit_eq, Option.bind_some]
  rw [e _ _ (by omega), bit_eq, Option.bind_some, at_rd, at_rd, at_rd, at_rd]
  have := bt_range lv (at_ g i j); have := bt_range lv (at_ g i (j + 1)); have := bt_range lv (at_ g (i + 1) (j + 1)); have := bt_range lv (at_ g (i + 1) j)
  rw [w64 (n := 2 * _) (by omega) (by omega), w64 (n := 4 * _) (by omega) (by omega), w64 (n := 8 * _) (by omega) (by omega), w64 (n := bt lv (at_ g i j) + _) (by omega) (by omega), w64 (n := bt lv (at_ g i j) + _ + _) (by omega) (by omega), w64 (by omega) (by omega)]
  rfl
theorem squareCase {g : List (List Int)} (h : okG g = true) (lv : Int) {i j : Nat} (hi : i + 1 < g.length) (hj : j + 1 < cols g) : impl_squareCase.f g lv (i : Int) (j : Int) = some (cs lv g i j) := by
  obtain ⟨h1, h2, _⟩ := okG_of h
  have ei : ((i : Int) + 1) = ((i + 1 : Nat) : Int) := by omega
  have r1 := row_len h (show i < g.length by omega)
  have r2 := row_len h hi
  have e := sqAt_cs lv g i j
  unfold sqAt at e
  unfold impl_squareCase.f
  rw [e, if_pos]
  rw [ei, r1, r2]
  omega
/-- What GridCase tells. -/
def caseV (g : List (List Int)) (lv a b : Int) : Int := if okG g = true ∧ 0 ≤ a ∧ a + 1 < (g.length : Int) ∧ 0 ≤ b ∧ b + 1 < (cols g : Int) then cs lv g a.toNat b.toNat else -1
theorem implCase (g : List (List Int)) (lv a b : Int) : EvQ (fun k => impl_GridCase.f k g lv a b) (fun r => r = caseV g lv a b) := by
  unfold impl_GridCase.f caseV
  refine EvQ.call (implValid g) (EvQ.ite (fun h => ?_) (fun h => EvQ.ret (by rw [if_neg]; exact fun x => h x.1)))
  obtain ⟨h1, h2, _⟩ := okG_of h
  rw [rdG_zero, w64 (n := (g.length : Int) - 1) (by omega) (by omega)]
  have ec : (g.headD []).length = cols g := rfl
  rw [ec, w64 (n := (cols g : Int) - 1) (by omega) (by omega)]
  refine EvQ.ite (fun c => EvQ.ret (by rw [if_neg]; omega)) (fun c1 => EvQ.ite (fun c => EvQ.ret (by rw [if_neg]; omega)) (fun c2 => EvQ.ite (fun c => EvQ.ret (by rw [if_neg]; omega)) (fun c3 => EvQ.pos (by omega) (EvQ.ite (fun c => EvQ.ret (by rw [if_neg]; omega)) (fun c4 => ?_)))))
  obtain ⟨i, rfl⟩ := Int.eq_ofNat_of_zero_le (show 0 ≤ a by omega)
  obtain ⟨j, rfl⟩ := Int.eq_ofNat_of_zero_le (show 0 ≤ b by omega)
  refine EvQ.bindc (squareCase h lv (by omega) (by omega)) (EvQ.ret ?_)
  rw [if_pos ⟨h, by omega, by omega, by omega, by omega⟩]; rfl
theorem specCase (g : List (List Int)) (lv a b : Int) : EvQ (fun k => spec_GridCase.f k g lv a b) (fun r => r = caseV g lv a b) := by
  unfold spec_GridCase.f caseV
  refine EvQ.call (specValid g) (EvQ.ite (fun h => ?_) (fun h => EvQ.ret (by rw [if_neg]; exact fun x => h x.1)))
  obtain ⟨h1, h2, _⟩ := okG_of h
  rw [rdG_zero, w64 (n := (g.length : Int) - 2) (by omega) (by omega)]
  have ec : (g.headD []).length = cols g := rfl
  rw [ec, w64 (n := (cols g : Int) - 2) (by omega) (by omega)]
  refine EvQ.bindc in_eq (EvQ.ite (fun c1 => ?_) (fun c1 => EvQ.ret ?_))
  · rw [decide_eq_true_eq] at c1
    refine EvQ.pos (by omega) (EvQ.bindc in_eq (EvQ.ite (fun c2 => ?_) (fun c2 => EvQ.ret ?_)))
    · rw [decide_eq_true_eq] at c2
      obtain ⟨i, rfl⟩ := Int.eq_ofNat_of_zero_le (show 0 ≤ a by omega)
      obtain ⟨j, rfl⟩ := Int.eq_ofNat_of_zero_le (show 0 ≤ b by omega)
      refine EvQ.bindc (l41Case h lv (by omega) (by omega)) (EvQ.ret ?_)
      rw [if_pos ⟨h, by omega, by omega, by omega, by omega⟩]; rfl
    · rw [decide_eq_true_eq] at c2
      rw [if_neg]; omega
  · rw [decide_eq_true_eq] at c1
    rw [if_neg]; omega
/-- All pieces of lines. -/
def lines (lv : Int) (g : List (List Int)) : Int := sm (g.length - 1) (fun i => sm (cols g - 1) (fun j => pieceQ (cs lv g i j)))
theorem linesRow_eq (lv : Int) (g : List (List Int)) (i n : Nat) : linesRow lv g i n = sm n (fun j => pieceQ (cs lv g i j)) := by
  induction n with
  | zero => rfl
  | succ n ih => rw [linesRow, ih, sm, sqAt_cs]
theorem linesAll_eq {g : List (List Int)} (lv : Int) (m : Nat) : linesAll lv g m = sm m (fun i => sm (cols g - 1) (fun j => pieceQ (cs lv g i j))) := by
  induction m with
  | zero => rfl
  | succ m ih => rw [linesAll, ih, linesRow_eq, sm, rdG_zero]; rfl
theorem okG_linesRect {g : List (List Int)} (h : okG g = true) : linesRect g = true := by
  obtain ⟨h1, h2, h3⟩ := okG_of h
  unfold linesRect
  rw [rdG_zero]
  have ec : (g.headD []).length = cols g := rfl
  rw [ec, decide_eq_true h1.1, decide_eq_true h1.2, decide_eq_true h2.1, decide_eq_true h2.2, Bool.true_and, Bool.true_and, Bool.true_and, Bool.true_and, List.all_eq_true]
  intro r hr
  rw [decide_eq_true_eq]; exact (h3 r hr).1
def linesV (g : List (List Int)) (lv : Int) : Int := if okG g then lines lv g else -1
theorem implLines (g : List (List Int)) (lv : Int) : EvQ (fun k => impl_GridLines.f k g lv) (fun r => r = linesV g lv) := by
  unfold impl_GridLines.f linesV
  refine EvQ.call (implValid g) (EvQ.ite (fun h => ?_) (fun h => EvQ.ret (by simp [h])))
  exact EvQ.pos (okG_linesRect h) (EvQ.ret (by rw [h, if_pos rfl]; exact linesAll_eq lv _))
theorem lrow_bound (lv : Int) (g : List (List Int)) (i n : Nat) : 0 ≤ sm n (fun j => pieceQ (cs lv g i j)) ∧ sm n (fun j => pieceQ (cs lv g i j)) ≤ 2 * n :=
  sm_bound (fun j _ => pieceQ_range _)
theorem lpart_bound {g : List (List Int)} (h : okG g = true) (lv : Int) (m : Nat) (hm : m ≤ g.length) : 0 ≤ sm m (fun i => sm (cols g - 1) (fun j => pieceQ (cs lv g i j))) ∧ sm m (fun i => sm (cols g - 1) (fun j => pieceQ (cs lv g i j))) ≤ 60 := by
  obtain ⟨h1, h2, _⟩ := okG_of h
  have := sm_bound (n := m) (f := fun i => sm (cols g - 1) (fun j => pieceQ (cs lv g i j))) (b := 10) (fun i _ => by have := lrow_bound lv g i (cols g - 1); omega)
  omega
theorem specLines_j2 {g : List (List Int)} (lv : Int) {i j : Nat} (hj : j < 100) {s : Int} (hsb : 0 ≤ s ∧ s ≤ 100) {Q : Int → Prop} (c : Int)
    (hst : ∀ x, x = s + pieceQ c → EvQ (fun k => spec_GridLines.l1 k g lv x (i : Int) ((j : Int) + 1)) Q) (b : Bool) (hb : b = true ↔ c = 0 ∨ c = 15) :
    EvQ (fun k => spec_GridLines.j2 k g lv s (i : Int) (j : Int) c b) Q := by
  refine EvQ.step (fun k => by simp only [spec_GridLines.j2]; rfl) ?_
  rw [w64 (n := (j : Int) + 1) (by omega) (by omega), w64 (n := s + 1) (by omega) (by omega), w64 (n := s + 2) (by omega) (by omega)]
  refine EvQ.ite (fun h => hst _ ?_) (fun h => EvQ.ite (fun h5 => hst _ ?_) (fun h5 => EvQ.ite (fun h10 => hst _ ?_) (fun h10 => hst _ ?_)))
  · unfold pieceQ; rw [if_pos (hb.1 h)]; omega
  · unfold pieceQ; rw [if_neg (fun x => h (hb.2 x)), if_pos (.inl h5)]
  · unfold pieceQ; rw [if_neg (fun x => h (hb.2 x)), if_pos (.inr h10)]
  · unfold pieceQ; rw [if_neg (fun x => h (hb.2 x)), if_neg (by omega)]
theorem specLines (g : List (List Int)) (lv : Int) : EvQ (fun k => spec_GridLines.f k g lv) (fun r => r = linesV g lv) := by
  unfold spec_GridLines.f linesV
  refine EvQ.call (specValid g) (EvQ.ite (fun h => ?_) (fun h => EvQ.ret (by simp [h])))
  rw [if_pos h]
  obtain ⟨h1, h2, _⟩ := okG_of h
  obtain ⟨m, hm⟩ : ∃ m, m = g.length - 1 := ⟨_, rfl⟩
  obtain ⟨n, hn⟩ : ∃ n, n = cols g - 1 := ⟨_, rfl⟩
  refine EvQ.grid (σ := Int) (g0 := fun k i s => spec_GridLines.l0 k g lv s i) (g1 := fun k i j s => spec_GridLines.l1 k g lv s i j) m (fun _ => n)
    (fun i s => s = sm i (fun i => sm (cols g - 1) (fun j => pieceQ (cs lv g i j)))) (fun i j s => s = sm i (fun i => sm (cols g - 1) (fun j => pieceQ (cs lv g i j))) + sm j (fun j => pieceQ (cs lv g i j))) ?_ ?_ ?_ ?_ 0 (by rw [sm])
  · rintro i _ hi rfl ih
    refine EvQ.step (fun k => by simp only [spec_GridLines.l0]; rfl) ?_
    rw [w64 (n := (i : Int) + 1) (by omega) (by omega)]
    exact EvQ.pos (by omega) (ih _ (by simp [sm]))
  · rintro i j s hi hj hs ih
    have b1 := lpart_bound h lv i (by omega)
    have b2 := lrow_bound lv g i j
    have hrl := row_len h (show i < g.length by omega)
    have hsb : 0 ≤ s ∧ s ≤ 100 := by omega
    have hst : ∀ x, x = s + pieceQ (cs lv g i j) → EvQ (fun k => spec_GridLines.l1 k g lv x (i : Int) ((j : Int) + 1)) (fun r => r = lines lv g) := by
      intro x hx
      refine ih x ?_
      rw [hx, hs, sm]; omega
    refine EvQ.step (fun k => by simp only [spec_GridLines.l1]; rfl) ?_
    rw [hrl, w64 (n := (j : Int) + 1) (by omega) (by omega)]
    refine EvQ.pos (by omega) (EvQ.pos (by omega) (EvQ.pos (by omega) ?_))
    refine EvQ.bindc (l41Case h lv (by omega) (by omega)) ?_
    refine EvQ.ite (fun c => specLines_j2 lv (by omega) hsb _ hst _ ?_) (fun c => specLines_j2 lv (by omega) hsb _ hst _ ?_)
    · simp [c]
    · simp [c]
  · rintro i _ hi rfl ih
    refine EvQ.step (fun k => by simp only [spec_GridLines.l1]; rfl) ?_
    rw [row_len h (show i < g.length by omega), w64 (n := (n : Int) + 1) (by omega) (by omega)]
    refine EvQ.pos (by omega) (EvQ.pos (by omega) (EvQ.neg (by omega) ?_))
    rw [w64 (n := (i : Int) + 1) (by omega) (by omega)]
    exact ih _ (by rw [hn, sm])
  · rintro _ rfl
    refine EvQ.step (fun k => by simp only [spec_GridLines.l0]; rfl) ?_
    rw [w64 (n := (m : Int) + 1) (by omega) (by omega)]
    exact EvQ.neg (by omega) (EvQ.ret (by rw [hm]; unfold lines; with_reducible rfl))
end Go.Proofs.Ytkhemhmdapggmaa.GridA

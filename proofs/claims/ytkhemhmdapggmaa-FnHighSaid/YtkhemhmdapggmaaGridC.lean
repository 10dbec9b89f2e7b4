/- Chapter 41, plain: pairs and squares of a grid, of the program and of the reference. No program in sight. -/
import Derived.Test.YtkhemhmdapggmaaGridB
import Derived.Test.YtkhemhmdapggmaaPx7
import Derived.Test.YtkhemhmdapggmaaPx13
import Derived.Test.YtkhemhmdapggmaaPx16
import Derived.Test.YtkhemhmdapggmaaPx17
import Derived.Test.YtkhemhmdapggmaaPx18
import Derived.Test.YtkhemhmdapggmaaPx20
import Derived.Test.YtkhemhmdapggmaaPx21
set_option linter.unusedVariables false
set_option linter.unusedSimpArgs false
namespace Go.Proofs.Ytkhemhmdapggmaa.GridA
open Go.RowKit Go.Proofs.Ytkhemhmdapggmaa.P Go.Proofs.YtkhemhmdapggmaaW.PrintWords Go.Proofs.YtkhemhmdapggmaaW.PrintLast Go.Proofs.YtkhemhmdapggmaaW.PrintMore Go.Proofs.Ytkhemhmdapggmaa.Ev Go.Proofs.Ytkhemhmdapggmaa.Ints
/-- A sum over the first n. -/
def sm : Nat → (Nat → Int) → Int
  | 0, _ => 0
  | n + 1, f => sm n f + f n
theorem sm_congr {n : Nat} {f h : Nat → Int} (e : ∀ i, i < n → f i = h i) : sm n f = sm n h := by
  induction n with
  | zero => rfl
  | succ n ih => rw [sm, sm, ih (fun i hi => e i (by omega)), e n (by omega)]
theorem sm_add (n : Nat) (f h : Nat → Int) : sm n (fun i => f i + h i) = sm n f + sm n h := by
  induction n with
  | zero => rfl
  | succ n ih => rw [sm, sm, sm, ih]; omega
theorem sm_zero (n : Nat) : sm n (fun _ => 0) = 0 := by
  induction n with
  | zero => rfl
  | succ n ih => rw [sm, ih]; rfl
theorem sm_mul (c : Int) (n : Nat) (f : Nat → Int) : sm n (fun i => c * f i) = c * sm n f := by
  induction n with
  | zero => simp [sm]
  | succ n ih => rw [sm, sm, ih, Int.mul_add]
theorem sm_bound {n : Nat} {f : Nat → Int} {b : Int} (h : ∀ i, i < n → 0 ≤ f i ∧ f i ≤ b) : 0 ≤ sm n f ∧ sm n f ≤ b * n := by
  induction n with
  | zero => simp [sm]
  | succ n ih =>
    have h1 := ih (fun i hi => h i (by omega))
    have h2 := h n (by omega)
    rw [sm]; push_cast; rw [Int.mul_add]; omega
theorem sm_const (c : Int) (n : Nat) : sm n (fun _ => c) = c * n := by
  induction n with
  | zero => simp [sm]
  | succ n ih => rw [sm, ih]; push_cast; rw [Int.mul_add]; omega
theorem sm_neg (n : Nat) (f : Nat → Int) : sm n (fun i => -f i) = -sm n f := by
  induction n with
  | zero => rfl
  | succ n ih => rw [sm, sm, ih]; omega
/-- All but the last, one further on: all but the first. -/
theorem sm_shift (n : Nat) (f : Nat → Int) : sm n (fun j => if j + 1 < n then f (j + 1) else 0) = sm n (fun j => if 0 < j then f j else 0) := by
  have key : ∀ m, m ≤ n → sm m (fun j => if j + 1 < n then f (j + 1) else 0) = sm m (fun j => if 0 < j then f j else 0) + (if 0 < m ∧ m < n then f m else 0) := by
    intro m
    induction m with
    | zero => intro _; simp [sm]
    | succ m ih =>
      intro h
      rw [sm, sm, ih (by omega)]
      by_cases h1 : m + 1 < n
      · rw [if_pos h1, if_pos (show 0 < m + 1 ∧ m + 1 < n from ⟨by omega, h1⟩)]
        by_cases h2 : 0 < m
        · rw [if_pos h2, if_pos ⟨h2, by omega⟩]
        · rw [if_neg h2, if_neg (by omega)]
      · rw [if_neg h1, if_neg (show ¬ (0 < m + 1 ∧ m + 1 < n) by omega)]
        by_cases h2 : 0 < m
        · rw [if_pos h2, if_pos ⟨h2, by omega⟩, Int.add_zero]
        · rw [if_neg h2, if_neg (by omega)]
  have := key n (Nat.le_refl n)
  rw [if_neg (by omega)] at this
  omega
/-- The height at i, j. -/
def at_ (g : List (List Int)) (i j : Nat) : Int := (g.getD i []).getD j 0
theorem at_rd (g : List (List Int)) (i j : Nat) : rd (rd_L1 g (i : Int)) (j : Int) = at_ g i j := by
  unfold rd rd_L1 at_; simp
theorem at_get {g : List (List Int)} {i j : Nat} (hi : i < g.length) (hj : j < g[i].length) : at_ g i j = g[i][j] := by
  unfold at_; simp [List.getD_eq_getElem?_getD, hi, hj]
theorem row_len {g : List (List Int)} (h : okG g = true) {i : Nat} (hi : i < g.length) : (rd_L1 g (i : Int)).length = cols g := by
  rw [rdG_get hi]; exact okG_row h hi
/-- 1 where it is high. -/
def bt (lv x : Int) : Int := if x ≥ lv then 1 else 0
theorem bt_range (lv x : Int) : 0 ≤ bt lv x ∧ bt lv x ≤ 1 := by unfold bt; split <;> omega
theorem bit_eq (x lv : Int) : spec_l41Bit.f x lv = some (bt lv x) := by
  unfold spec_l41Bit.f bt; split <;> rfl
/-- A pair that has t high heights. -/
def pr (lv t a b : Int) : Int := if bt lv a + bt lv b = t then 1 else 0
theorem pr_range (lv t a b : Int) : 0 ≤ pr lv t a b ∧ pr lv t a b ≤ 1 := by unfold pr; split <;> omega
/-- The pairs of the height at i, j. -/
def hz (lv t : Int) (g : List (List Int)) (i j : Nat) : Int := if j + 1 < cols g then pr lv t (at_ g i j) (at_ g i (j + 1)) else 0
def vt (lv t : Int) (g : List (List Int)) (i j : Nat) : Int := if i + 1 < g.length then pr lv t (at_ g i j) (at_ g (i + 1) j) else 0
theorem hz_range (lv t : Int) (g : List (List Int)) (i j : Nat) : 0 ≤ hz lv t g i j ∧ hz lv t g i j ≤ 1 := by
  unfold hz; split
  · exact pr_range _ _ _ _
  · omega
theorem vt_range (lv t : Int) (g : List (List Int)) (i j : Nat) : 0 ≤ vt lv t g i j ∧ vt lv t g i j ≤ 1 := by
  unfold vt; split
  · exact pr_range _ _ _ _
  · omega
/-- All pairs. -/
def pairs (lv t : Int) (g : List (List Int)) : Int := sm g.length (fun i => sm (cols g) (fun j => hz lv t g i j + vt lv t g i j))
theorem row_bound (lv t : Int) (g : List (List Int)) (i n : Nat) : 0 ≤ sm n (fun j => hz lv t g i j + vt lv t g i j) ∧ sm n (fun j => hz lv t g i j + vt lv t g i j) ≤ 2 * n :=
  sm_bound (fun j _ => by have := hz_range lv t g i j; have := vt_range lv t g i j; omega)
theorem part_bound {g : List (List Int)} (h : okG g = true) (lv t : Int) (m : Nat) (hm : m ≤ g.length) : 0 ≤ sm m (fun i => sm (cols g) (fun j => hz lv t g i j + vt lv t g i j)) ∧ sm m (fun i => sm (cols g) (fun j => hz lv t g i j + vt lv t g i j)) ≤ 72 := by
  obtain ⟨h1, h2, _⟩ := okG_of h
  have := sm_bound (n := m) (f := fun i => sm (cols g) (fun j => hz lv t g i j + vt lv t g i j)) (b := 12) (fun i _ => by have := row_bound lv t g i (cols g); omega)
  omega
theorem specPairs_j2 {g : List (List Int)} (h : okG g = true) (lv t : Int) {i j : Nat} (hi : i < g.length) (hj : j < cols g) {s : Int} (hsb : 0 ≤ s ∧ s ≤ 100) {Q : Int → Prop}
    (hst : ∀ x, x = s + (hz lv t g i j + vt lv t g i j) → EvQ (fun k => spec_l41Pairs.l1 k g lv t x (i : Int) ((j : Int) + 1)) Q) (b : Bool) (hb : hz lv t g i j = (if b = true then 1 else 0)) :
    EvQ (fun k => spec_l41Pairs.j2 k g lv t s (i : Int) (j : Int) (bt lv (at_ g i j)) b) Q := by
  obtain ⟨h1, h2, _⟩ := okG_of h
  have ei : ((i : Int) + 1) = ((i + 1 : Nat) : Int) := by omega
  have wi : wrap64 ((i : Int) + 1) = (i : Int) + 1 := w64 (by omega) (by omega)
  have wj : wrap64 ((j : Int) + 1) = (j : Int) + 1 := w64 (by omega) (by omega)
  have w1 : wrap64 (s + 1) = s + 1 := w64 (by omega) (by omega)
  have w2 : wrap64 (s + 1 + 1) = s + 1 + 1 := w64 (by omega) (by omega)
  have hbb : ∀ x, wrap64 (bt lv (at_ g i j) + bt lv x) = bt lv (at_ g i j) + bt lv x := fun x => by
    have := bt_range lv (at_ g i j); have := bt_range lv x; exact w64 (by omega) (by omega)
  refine EvQ.step (fun k => by simp only [spec_l41Pairs.j2]; rfl) ?_
  simp only [bit_eq, bind_some_, wi, wj, w1, w2, hbb]
  by_cases c2 : i + 1 < g.length
  · have hv : vt lv t g i j = pr lv t (at_ g i j) (at_ g (i + 1) j) := by unfold vt; rw [if_pos c2]
    have hrl := row_len h c2
    refine EvQ.ite (fun c => ?_) (fun c => ?_)
    · rw [if_pos c] at hb
      rw [ei, hrl, at_rd]
      refine EvQ.pos (by omega) (EvQ.pos (by omega) (EvQ.pos (by omega) (EvQ.pos (by omega) ?_)))
      refine EvQ.ite (fun c3 => hst _ ?_) (fun c3 => hst _ ?_)
      · rw [hb, hv, pr, if_pos c3]; omega
      · rw [hb, hv, pr, if_neg c3]; omega
    · rw [if_neg c] at hb
      rw [ei, hrl, at_rd]
      refine EvQ.pos (by omega) (EvQ.pos (by omega) (EvQ.pos (by omega) (EvQ.pos (by omega) ?_)))
      refine EvQ.ite (fun c3 => hst _ ?_) (fun c3 => hst _ ?_)
      · rw [hb, hv, pr, if_pos c3]; omega
      · rw [hb, hv, pr, if_neg c3]; omega
  · have hv : vt lv t g i j = 0 := by unfold vt; rw [if_neg c2]
    refine EvQ.ite (fun c => EvQ.neg (by omega) (hst _ ?_)) (fun c => EvQ.neg (by omega) (hst _ ?_))
    · rw [if_pos c] at hb; rw [hb, hv]; omega
    · rw [if_neg c] at hb; rw [hb, hv]; omega
theorem specPairs {g : List (List Int)} (h : okG g = true) (lv t : Int) : EvQ (fun k => spec_l41Pairs.f k g lv t) (fun r => r = pairs lv t g) := by
  obtain ⟨h1, h2, _⟩ := okG_of h
  unfold spec_l41Pairs.f
  refine EvQ.grid (σ := Int) (g0 := fun k i s => spec_l41Pairs.l0 k g lv t s i) (g1 := fun k i j s => spec_l41Pairs.l1 k g lv t s i j) g.length (fun _ => cols g)
    (fun i s => s = sm i (fun i => sm (cols g) (fun j => hz lv t g i j + vt lv t g i j))) (fun i j s => s = sm i (fun i => sm (cols g) (fun j => hz lv t g i j + vt lv t g i j)) + sm j (fun j => hz lv t g i j + vt lv t g i j)) ?_ ?_ ?_ ?_ 0 (by rw [sm])
  · rintro i _ hi rfl ih
    refine EvQ.step (fun k => by simp only [spec_l41Pairs.l0]; rfl) ?_
    exact EvQ.pos (by omega) (ih _ (by simp [sm]))
  · rintro i j s hi hj hs ih
    have b1 := part_bound h lv t i (by omega)
    have b2 := row_bound lv t g i j
    have hrl := row_len h hi
    have ej : ((j : Int) + 1) = ((j + 1 : Nat) : Int) := by omega
    have ei : ((i : Int) + 1) = ((i + 1 : Nat) : Int) := by omega
    have hsb : 0 ≤ s ∧ s ≤ 100 := by omega
    have hst : ∀ x, x = s + (hz lv t g i j + vt lv t g i j) → EvQ (fun k => spec_l41Pairs.l1 k g lv t x (i : Int) ((j : Int) + 1)) (fun r => r = pairs lv t g) := by
      intro x hx
      refine ih x ?_
      rw [hx, hs, sm]; omega
    refine EvQ.step (fun k => by simp only [spec_l41Pairs.l1]; rfl) ?_
    rw [hrl, w64 (n := (j : Int) + 1) (by omega) (by omega)]
    refine EvQ.pos (by omega) (EvQ.pos (by omega) (EvQ.pos (by omega) (EvQ.pos (by omega) ?_)))
    refine EvQ.bindc (bit_eq _ _) ?_
    have hj2 := specPairs_j2 h lv t hi hj hsb hst
    rw [at_rd]
    refine EvQ.ite (fun c => ?_) (fun c => hj2 false ?_)
    · rw [ej, at_rd]
      refine EvQ.pos (by omega) (EvQ.bindc (bit_eq _ _) (hj2 _ ?_))
      have hbb := bt_range lv (at_ g i j)
      have hbb2 := bt_range lv (at_ g i (j + 1))
      unfold hz; rw [if_pos (by omega), w64 (by omega) (by omega)]
      unfold pr
      by_cases e : bt lv (at_ g i j) + bt lv (at_ g i (j + 1)) = t
      · rw [if_pos e, if_pos (by simpa using e)]
      · rw [if_neg e, if_neg (by simpa using e)]
    · unfold hz; rw [if_neg (by omega)]; simp
  · rintro i _ hi rfl ih
    refine EvQ.step (fun k => by simp only [spec_l41Pairs.l1]; rfl) ?_
    rw [row_len h hi]
    refine EvQ.pos (by omega) (EvQ.pos (by omega) (EvQ.neg (by omega) ?_))
    rw [w64 (n := (i : Int) + 1) (by omega) (by omega)]
    exact ih _ (by rw [sm])
  · rintro _ rfl
    refine EvQ.step (fun k => by simp only [spec_l41Pairs.l0]; rfl) ?_
    exact EvQ.neg (by omega) (EvQ.ret (by unfold pairs; with_reducible rfl))
def cutsV (g : List (List Int)) (lv : Int) : Int := if okG g then pairs lv 1 g else -1
def ridgeV (g : List (List Int)) (lv : Int) : Int := if okG g then pairs lv 2 g else -1
theorem specCuts (g : List (List Int)) (lv : Int) : EvQ (fun k => spec_GridCuts.f k g lv) (fun r => r = cutsV g lv) := by
  unfold spec_GridCuts.f cutsV
  refine EvQ.call (specValid g) (EvQ.ite (fun h => ?_) (fun h => EvQ.ret (by simp [h])))
  exact EvQ.call (specPairs h lv 1) (EvQ.ret (by simp [h]))
theorem specRidge (g : List (List Int)) (lv : Int) : EvQ (fun k => spec_GridRidge.f k g lv) (fun r => r = ridgeV g lv) := by
  unfold spec_GridRidge.f ridgeV
  refine EvQ.call (specValid g) (EvQ.ite (fun h => ?_) (fun h => EvQ.ret (by simp [h])))
  exact EvQ.call (specPairs h lv 2) (EvQ.ret (by simp [h]))
theorem cutsQ_pr (lv a b : Int) : cutsQ lv a b = pr lv 1 a b := by
  unfold cutsQ pr bt
  by_cases ha : lv ≤ a <;> by_cases hb : lv ≤ b <;> simp [ha, hb]
theorem ridgeQ_pr (lv a b : Int) : ridgeQ lv a b = pr lv 2 a b := by
  unfold ridgeQ pr bt
  by_cases ha : lv ≤ a <;> by_cases hb : lv ≤ b <;> simp [ha, hb]
theorem cutsRow_eq {g : List (List Int)} (h : okG g = true) (lv : Int) {i : Nat} (hi : i < g.length) (n : Nat) : cutsRow lv g i n = sm n (fun j => hz lv 1 g i j + vt lv 1 g i j) := by
  have ei : ((i : Int) + 1) = ((i + 1 : Nat) : Int) := by omega
  induction n with
  | zero => rfl
  | succ n ih =>
    have ej : ((n : Int) + 1) = ((n + 1 : Nat) : Int) := by omega
    rw [cutsRow, ih, sm]
    unfold cutsHz cutsVt hz vt
    rw [row_len h hi, ej, ei]
    simp only [at_rd, cutsQ_pr]
    omega
theorem ridgeRow_eq {g : List (List Int)} (h : okG g = true) (lv : Int) {i : Nat} (hi : i < g.length) (n : Nat) : ridgeRow lv g i n = sm n (fun j => hz lv 2 g i j + vt lv 2 g i j) := by
  have ei : ((i : Int) + 1) = ((i + 1 : Nat) : Int) := by omega
  induction n with
  | zero => rfl
  | succ n ih =>
    have ej : ((n : Int) + 1) = ((n + 1 : Nat) : Int) := by omega
    rw [ridgeRow, ih, sm]
    unfold ridgeHz ridgeVt hz vt
    rw [row_len h hi, ej, ei]
    simp only [at_rd, ridgeQ_pr]
    omega
theorem cutsAll_eq {g : List (List Int)} (h : okG g = true) (lv : Int) (m : Nat) (hm : m ≤ g.length) : cutsAll lv g m = sm m (fun i => sm (cols g) (fun j => hz lv 1 g i j + vt lv 1 g i j)) := by
  induction m with
  | zero => rfl
  | succ m ih => rw [cutsAll, ih (by omega), cutsRow_eq h lv (by omega), row_len h (by omega), sm]
theorem ridgeAll_eq {g : List (List Int)} (h : okG g = true) (lv : Int) (m : Nat) (hm : m ≤ g.length) : ridgeAll lv g m = sm m (fun i => sm (cols g) (fun j => hz lv 2 g i j + vt lv 2 g i j)) := by
  induction m with
  | zero => rfl
  | succ m ih => rw [ridgeAll, ih (by omega), ridgeRow_eq h lv (by omega), row_len h (by omega), sm]
theorem okG_cutsRect {g : List (List Int)} (h : okG g = true) : cutsRect g = true := by
  obtain ⟨h1, h2, h3⟩ := okG_of h
  unfold cutsRect
  rw [decide_eq_true h1.2, Bool.true_and, List.all_eq_true]
  intro r hr
  have := (h3 r hr).1
  unfold cols at this h2
  simp only [Bool.and_eq_true, decide_eq_true_eq]; omega
theorem okG_ridgeRect {g : List (List Int)} (h : okG g = true) : ridgeRect g = true := okG_cutsRect h
theorem implCuts (g : List (List Int)) (lv : Int) : EvQ (fun k => impl_GridCuts.f k g lv) (fun r => r = cutsV g lv) := by
  unfold impl_GridCuts.f cutsV
  refine EvQ.call (implValid g) (EvQ.ite (fun h => ?_) (fun h => EvQ.ret (by simp [h])))
  exact EvQ.pos (okG_cutsRect h) (EvQ.ret (by rw [h, if_pos rfl]; exact cutsAll_eq h lv _ (Nat.le_refl _)))
theorem implRidge (g : List (List Int)) (lv : Int) : EvQ (fun k => impl_GridRidge.f k g lv) (fun r => r = ridgeV g lv) := by
  unfold impl_GridRidge.f ridgeV
  refine EvQ.call (implValid g) (EvQ.ite (fun h => ?_) (fun h => EvQ.ret (by simp [h])))
  exact EvQ.pos (okG_ridgeRect h) (EvQ.ret (by rw [h, if_pos rfl]; exact ridgeAll_eq h lv _ (Nat.le_refl _)))
theorem specHigh (g : List (List Int)) (lv : Int) : EvQ (fun k => spec_GridHigh.f k g lv) (fun r => r = highV g lv) := by
  unfold spec_GridHigh.f highV
  refine EvQ.call (specValid g) (EvQ.ite (fun h => ?_) (fun h => EvQ.ret (by simp [h])))
  rw [if_pos h]
  obtain ⟨h1, h2, h3⟩ := okG_of h
  have hid : ∀ x : Int, 0 ≤ x ∧ x ≤ 1000 → -1000 ≤ hi lv x ∧ hi lv x ≤ 1000 := fun x _ => by have := hi_range lv x; omega
  refine EvQ.grid (σ := Int) (g0 := fun k i s => spec_GridHigh.l0 k g lv s i) (g1 := fun k i j s => spec_GridHigh.l1 k g lv s i j) g.length (fun i => (g.getD i []).length)
    (fun i s => s = gs (hi lv) (g.take i)) (fun i j s => s = gs (hi lv) (g.take i) + rs (hi lv) ((g.getD i []).take j)) ?_ ?_ ?_ ?_ 0 (by simp [gs])
  · rintro i _ hi rfl ih
    refine EvQ.step (fun k => by simp only [spec_GridHigh.l0]; rfl) ?_
    exact EvQ.pos (by omega) (ih _ (by simp [rs]))
  · rintro i j _ hi hj rfl ih
    have eg : g.getD i [] = g[i] := by simp [List.getD_eq_getElem?_getD, hi]
    simp only [eg] at hj ih ⊢
    have b1 := okG_small h hid i
    have b2 := okG_rsmall h hid hi j
    have hcl := okG_row h hi
    refine EvQ.step (fun k => by simp only [spec_GridHigh.l1]; rfl) ?_
    simp only [bit_eq, bind_some_]
    rw [rdG_get hi, rd_get hj]
    refine EvQ.pos (by omega) (EvQ.pos (by omega) (EvQ.pos (by omega) (EvQ.pos (by omega) ?_)))
    have e : bt lv g[i][j] = GridA.hi lv g[i][j] := rfl
    have hr := hi_range lv g[i][j]
    rw [e, w64 (by omega) (by omega), w64 (n := (j : Int) + 1) (by omega) (by omega)]
    exact ih _ (by rw [rs_take_succ hj]; omega)
  · rintro i _ hi rfl ih
    have eg : g.getD i [] = g[i] := by simp [List.getD_eq_getElem?_getD, hi]
    simp only [eg, List.take_length] at ih ⊢
    refine EvQ.step (fun k => by simp only [spec_GridHigh.l1]; rfl) ?_
    rw [rdG_get hi]
    refine EvQ.pos (by omega) (EvQ.pos (by omega) (EvQ.neg (by omega) ?_))
    rw [w64 (n := (i : Int) + 1) (by omega) (by omega)]
    exact ih _ (by rw [gs_take_succ hi])
  · rintro _ rfl
    refine EvQ.step (fun k => by simp only [spec_GridHigh.l0]; rfl) ?_
    exact EvQ.neg (by omega) (EvQ.ret (by simp))
end Go.Proofs.Ytkhemhmdapggmaa.GridA

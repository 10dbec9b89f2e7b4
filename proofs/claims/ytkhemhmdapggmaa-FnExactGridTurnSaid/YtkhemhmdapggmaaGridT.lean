/- Plain, for one law: what it needs of the chapter's texts. No program in sight. -/
import Derived.Test.YtkhemhmdapggmaaInts2
import Derived.Test.YtkhemhmdapggmaaPx2
import Derived.Test.YtkhemhmdapggmaaPx4
import Derived.Test.YtkhemhmdapggmaaPx1
import Derived.Test.YtkhemhmdapggmaaPx23
import Derived.Test.YtkhemhmdapggmaaPx24
set_option linter.unusedVariables false
set_option linter.unusedSimpArgs false
namespace Go.Proofs.Ytkhemhmdapggmaa.Cr
open Go.RowKit Go.Proofs.Ytkhemhmdapggmaa.P Go.Proofs.YtkhemhmdapggmaaW.PrintWords Go.Proofs.YtkhemhmdapggmaaW.PrintLast Go.Proofs.YtkhemhmdapggmaaW.PrintMore Go.Proofs.Ytkhemhmdapggmaa.Ev Go.Proofs.Ytkhemhmdapggmaa.Ints
/-- A height in range. -/
def okH (x : Int) : Bool := decide (0 ≤ x) && decide (x ≤ 1000)
def rowOk (c : Nat) (r : List Int) : Bool := decide (r.length = c) && r.all okH
/-- How many columns. -/
def cols (g : List (List Int)) : Nat := (g.headD []).length
/-- Lists are a grid. -/
def okG (g : List (List Int)) : Bool := decide (2 ≤ g.length ∧ g.length ≤ 6) && (decide (2 ≤ cols g ∧ cols g ≤ 6) && g.all (rowOk (cols g)))
theorem bind_some_ {α β : Type} (x : α) (f : α → Option β) : (some x).bind f = f x := rfl
theorem in_eq {a b c : Int} : spec_l6In.f a b c = some (decide (b ≤ a ∧ a ≤ c)) := by
  unfold spec_l6In.f
  by_cases h : a ≥ b
  · rw [if_pos h]; congr 1; rw [Bool.eq_iff_iff]; simp; omega
  · rw [if_neg h]; congr 1; symm; rw [decide_eq_false_iff_not]; omega
theorem okH_of {r : List Int} (h : r.all okH = true) : ∀ x ∈ r, 0 ≤ x ∧ x ≤ 1000 := by
  intro x hx
  have := List.all_eq_true.1 h x hx
  simpa [okH] using this
theorem okG_of {g : List (List Int)} (h : okG g = true) : (2 ≤ g.length ∧ g.length ≤ 6) ∧ (2 ≤ cols g ∧ cols g ≤ 6) ∧ ∀ r ∈ g, r.length = cols g ∧ ∀ x ∈ r, 0 ≤ x ∧ x ≤ 1000 := by
  unfold okG at h
  simp only [Bool.and_eq_true, decide_eq_true_eq] at h
  refine ⟨h.1, h.2.1, fun r hr => ?_⟩
  have := List.all_eq_true.1 h.2.2 r hr
  unfold rowOk at this
  simp only [Bool.and_eq_true, decide_eq_true_eq] at this
  exact ⟨this.1, okH_of this.2⟩
theorem okG_row {g : List (List Int)} (h : okG g = true) {i : Nat} (hi : i < g.length) : g[i].length = cols g := ((okG_of h).2.2 _ (List.getElem_mem hi)).1
theorem rdG_get {g : List (List Int)} {i : Nat} (h : i < g.length) : rd_L1 g (i : Int) = g[i] := by
  unfold rd_L1; simp [List.getD_eq_getElem?_getD, h]
theorem rdG_zero (g : List (List Int)) : rd_L1 g 0 = g.headD [] := by
  unfold rd_L1; cases g <;> simp
theorem specValid (g : List (List Int)) : EvQ (fun k => spec_GridValid.f k g) (fun r => r = okG g) := by
  have hj : ∀ b : Bool, b = true → okG g = false → EvQ (fun k => spec_GridValid.j0 k g b) (fun r => r = okG g) := by
    rintro _ rfl h
    refine EvQ.step (fun k => by simp only [spec_GridValid.j0]; rfl) ?_
    exact EvQ.pos (by simp) (EvQ.ret h.symm)
  unfold spec_GridValid.f
  simp only [in_eq, bind_some_, rdG_zero]
  by_cases h1 : 2 ≤ g.length ∧ g.length ≤ 6
  · refine EvQ.pos (by rw [decide_eq_true_eq]; omega) (EvQ.pos (by omega) ?_)
    by_cases h2 : 2 ≤ cols g ∧ cols g ≤ 6
    · have e : (!decide (2 ≤ ((g.headD []).length : Int) ∧ ((g.headD []).length : Int) ≤ 6)) = false := by
        unfold cols at h2
        rw [Bool.not_eq_false', decide_eq_true_eq]; omega
      rw [e]
      refine EvQ.step (fun k => by simp only [spec_GridValid.j0]; rfl) ?_
      refine EvQ.neg (by simp) ?_
      refine EvQ.grid (σ := Unit) (g0 := fun k i _ => spec_GridValid.l0 k g i) (g1 := fun k i j _ => spec_GridValid.l1 k g i j) g.length (fun i => (g.getD i []).length)
        (fun i _ => (g.take i).all (rowOk (cols g)) = true) (fun i j _ => (g.take i).all (rowOk (cols g)) = true ∧ (g.getD i []).length = cols g ∧ ((g.getD i []).take j).all okH = true) ?_ ?_ ?_ ?_ () (by simp)
      · intro i _ hi hI ih
        have eg : g.getD i [] = g[i] := by simp [List.getD_eq_getElem?_getD, hi]
        refine EvQ.step (fun k => by simp only [spec_GridValid.l0]; rfl) ?_
        refine EvQ.pos (by omega) (EvQ.pos (by omega) (EvQ.pos (by omega) ?_))
        rw [rdG_get hi, rdG_zero]
        refine EvQ.ite (fun h => ?_) (fun h => EvQ.ret ?_)
        · exact ih () ⟨hI, by rw [eg]; unfold cols; omega, by simp⟩
        · have hr : rowOk (cols g) g[i] = false := by unfold rowOk; rw [decide_eq_false (by unfold cols; omega)]; rfl
          have : g.all (rowOk (cols g)) = false := all_false hi hr
          unfold okG; rw [this]; simp
      · intro i j _ hi hj hI ih
        have eg : g.getD i [] = g[i] := by simp [List.getD_eq_getElem?_getD, hi]
        rw [eg] at hj hI
        have hc : cols g ≤ 6 := h2.2
        refine EvQ.step (fun k => by simp only [spec_GridValid.l1]; rfl) ?_
        refine EvQ.pos (by omega) (EvQ.pos (by omega) ?_)
        rw [rdG_get hi]
        refine EvQ.pos (by omega) (EvQ.pos (by omega) ?_)
        rw [rd_get hj]
        simp only [in_eq, bind_some_]
        refine EvQ.ite (fun h => ?_) (fun h => EvQ.ret ?_)
        · rw [w64 (n := (j : Int) + 1) (by omega) (by omega)]
          exact ih () ⟨hI.1, by rw [eg]; exact hI.2.1, by rw [eg]; exact all_take_succ hj hI.2.2 (by simpa [okH] using h)⟩
        · have hr : rowOk (cols g) g[i] = false := by
            unfold rowOk; rw [all_false hj (show okH g[i][j] = false by simpa [okH] using h)]; simp
          have : g.all (rowOk (cols g)) = false := all_false hi hr
          unfold okG; rw [this]; simp
      · intro i _ hi hI ih
        have eg : g.getD i [] = g[i] := by simp [List.getD_eq_getElem?_getD, hi]
        rw [eg] at hI
        rw [List.take_length] at hI
        refine EvQ.step (fun k => by simp only [spec_GridValid.l1]; rfl) ?_
        refine EvQ.pos (by omega) (EvQ.pos (by omega) ?_)
        rw [rdG_get hi, eg]
        refine EvQ.neg (by omega) ?_
        rw [w64 (n := (i : Int) + 1) (by omega) (by omega)]
        exact ih () (all_take_succ hi hI.1 (by unfold rowOk; rw [hI.2.2]; simp [hI.2.1]))
      · intro _ hI
        rw [List.take_length] at hI
        refine EvQ.step (fun k => by simp only [spec_GridValid.l0]; rfl) ?_
        refine EvQ.neg (by omega) (EvQ.ret ?_)
        unfold okG; rw [hI]; simp [h1, h2]
    · refine hj _ ?_ ?_
      · unfold cols at h2
        rw [Bool.not_eq_true', decide_eq_false_iff_not]; omega
      · unfold okG; rw [decide_eq_false h2]; simp
  · refine EvQ.neg (by rw [decide_eq_true_eq]; omega) (hj _ rfl ?_)
    unfold okG; rw [decide_eq_false h1]; simp
theorem implValid (g : List (List Int)) : EvQ (fun k => impl_GridValid.f k g) (fun r => r = okG g) := by
  have hj : ∀ b : Bool, b = true → okG g = false → EvQ (fun k => impl_GridValid.j0 k g b) (fun r => r = okG g) := by
    rintro _ rfl h
    refine EvQ.step (fun k => by simp only [impl_GridValid.j0]; rfl) ?_
    exact EvQ.pos (by simp) (EvQ.ret h.symm)
  have hj1 : ∀ (b : Bool) (c : Int), b = true → okG g = false → EvQ (fun k => impl_GridValid.j1 k g c b) (fun r => r = okG g) := by
    rintro _ c rfl h
    refine EvQ.step (fun k => by simp only [impl_GridValid.j1]; rfl) ?_
    exact EvQ.pos (by simp) (EvQ.ret h.symm)
  unfold impl_GridValid.f
  by_cases h1 : 2 ≤ g.length ∧ g.length ≤ 6
  · refine EvQ.neg (by omega) ?_
    refine EvQ.step (fun k => by simp only [impl_GridValid.j0]; rfl) ?_
    refine EvQ.neg (by simp; omega) (EvQ.pos (by omega) ?_)
    rw [rdG_zero]
    have ec : (g.headD []).length = cols g := rfl
    rw [ec]
    by_cases h2 : 2 ≤ cols g ∧ cols g ≤ 6
    · refine EvQ.neg (by omega) ?_
      refine EvQ.step (fun k => by simp only [impl_GridValid.j1]; rfl) ?_
      refine EvQ.neg (by simp; omega) ?_
      refine EvQ.grid (σ := Unit) (g0 := fun k i _ => impl_GridValid.l0 k (cols g : Int) g (g.length : Int) i) (g1 := fun k i j _ => impl_GridValid.l1 k (cols g : Int) g (g.length : Int) i (rd_L1 g i) ((rd_L1 g i).length : Int) j) g.length (fun i => (g.getD i []).length)
        (fun i _ => (g.take i).all (rowOk (cols g)) = true) (fun i j _ => (g.take i).all (rowOk (cols g)) = true ∧ (g.getD i []).length = cols g ∧ ((g.getD i []).take j).all okH = true) ?_ ?_ ?_ ?_ () (by simp)
      · intro i _ hi hI ih
        have eg : g.getD i [] = g[i] := by simp [List.getD_eq_getElem?_getD, hi]
        refine EvQ.step (fun k => by simp only [impl_GridValid.l0]; rfl) ?_
        refine EvQ.pos (by omega) (EvQ.pos (by omega) (EvQ.pos (by omega) ?_))
        refine EvQ.ite (fun h => ?_) (fun h => EvQ.ret ?_)
        · rw [rdG_get hi] at h
          exact ih () ⟨hI, by rw [eg]; omega, by simp⟩
        · rw [rdG_get hi] at h
          have hr : rowOk (cols g) g[i] = false := by unfold rowOk; simp; omega
          have : g.all (rowOk (cols g)) = false := all_false hi hr
          unfold okG; rw [this]; simp
      · intro i j _ hi hj hI ih
        have eg : g.getD i [] = g[i] := by simp [List.getD_eq_getElem?_getD, hi]
        rw [eg] at hj hI
        have hc : cols g ≤ 6 := h2.2
        have er := rdG_get hi
        refine EvQ.step (fun k => by simp only [impl_GridValid.l1]; rfl) ?_
        simp only [er] at ih ⊢
        refine EvQ.pos (by omega) (EvQ.pos (by omega) (EvQ.pos (by omega) ?_))
        rw [rd_get hj]
        have hno : okH g[i][j] = false → EvQ (fun _ => some false) (fun r => r = okG g) := by
          intro h
          have hr : rowOk (cols g) g[i] = false := by unfold rowOk; rw [all_false hj h]; simp
          have : g.all (rowOk (cols g)) = false := all_false hi hr
          refine EvQ.ret ?_
          unfold okG; rw [this]; simp
        refine EvQ.ite (fun h => hno (by simp [okH]; omega)) (fun h => ?_)
        refine EvQ.ite (fun h2 => hno (by simp [okH]; omega)) (fun h2 => ?_)
        rw [w64 (n := (j : Int) + 1) (by omega) (by omega)]
        exact ih () ⟨hI.1, by rw [eg]; exact hI.2.1, by rw [eg]; exact all_take_succ hj hI.2.2 (by simp [okH]; omega)⟩
      · intro i _ hi hI ih
        have eg : g.getD i [] = g[i] := by simp [List.getD_eq_getElem?_getD, hi]
        rw [eg] at hI
        rw [List.take_length] at hI
        have er := rdG_get hi
        refine EvQ.step (fun k => by simp only [impl_GridValid.l1]; rfl) ?_
        simp only [er, eg]
        refine EvQ.neg (by omega) ?_
        rw [w64 (n := (i : Int) + 1) (by omega) (by omega)]
        exact ih () (all_take_succ hi hI.1 (by unfold rowOk; rw [hI.2.2]; simp [hI.2.1]))
      · intro _ hI
        rw [List.take_length] at hI
        refine EvQ.step (fun k => by simp only [impl_GridValid.l0]; rfl) ?_
        refine EvQ.neg (by omega) (EvQ.ret ?_)
        unfold okG; rw [hI]; simp [h1, h2]
    · have hf : okG g = false := by unfold okG; rw [decide_eq_false h2]; simp
      refine EvQ.ite (fun h => hj1 _ _ rfl hf) (fun h => hj1 _ _ (by simp; omega) hf)
  · have hf : okG g = false := by unfold okG; rw [decide_eq_false h1]; simp
    exact EvQ.ite (fun h => hj _ rfl hf) (fun h => hj _ (by simp; omega) hf)
/-- 1 for a high height. -/
def hi (lv x : Int) : Int := if lv ≤ x then 1 else 0
/-- The height at i, j. -/
def at_ (g : List (List Int)) (i j : Nat) : Int := (g.getD i []).getD j 0
theorem at_rd (g : List (List Int)) (i j : Nat) : rd (rd_L1 g (i : Int)) (j : Int) = at_ g i j := by
  unfold rd rd_L1 at_; simp
theorem row_len {g : List (List Int)} (h : okG g = true) {i : Nat} (hi : i < g.length) : (rd_L1 g (i : Int)).length = cols g := by
  rw [rdG_get hi]; exact okG_row h hi
/-- Column j, as a row. -/
def col (g : List (List Int)) (j : Nat) : List Int := (List.range g.length).map (fun i => at_ g i j)
/-- Rows and columns exchanged. -/
def tr (g : List (List Int)) : List (List Int) := (List.range (cols g)).map (col g)
theorem tr_length (g : List (List Int)) : (tr g).length = cols g := by simp [tr]
theorem col_length (g : List (List Int)) (j : Nat) : (col g j).length = g.length := by simp [col]
/-- What GridTurn tells. -/
def turnV (g : List (List Int)) : List (List Int) × Bool := if okG g then (tr g, true) else ([], false)
theorem range_snoc_map {α : Type} (f : Nat → α) (n : Nat) : (List.range (n + 1)).map f = (List.range n).map f ++ [f n] := by
  rw [List.range_succ, List.map_append]; rfl
theorem implTurn (g : List (List Int)) : EvQ (fun k => impl_GridTurn.f k g) (fun r => r = turnV g) := by
  unfold impl_GridTurn.f turnV
  refine EvQ.call (implValid g) (EvQ.ite (fun h => ?_) (fun h => EvQ.ret (by simp [h])))
  rw [if_pos h]
  obtain ⟨h1, h2, h3⟩ := okG_of h
  have ec : (g.headD []).length = cols g := rfl
  rw [rdG_zero, ec]
  refine EvQ.pos (by omega) (EvQ.pos (by omega) (EvQ.pos (by omega) ?_))
  refine EvQ.grid (σ := List (List Int) × List Int) (g0 := fun k j s => impl_GridTurn.l0 k g s.1 (cols g : Int) j) (g1 := fun k j i s => impl_GridTurn.l1 k g s.1 j s.2 (cols g : Int) j (g.length : Int) i) (cols g) (fun _ => g.length)
    (fun j s => s.1 = (List.range j).map (col g)) (fun j i s => s.1 = (List.range j).map (col g) ∧ s.2 = (List.range i).map (fun i => at_ g i j)) ?_ ?_ ?_ ?_ ([], []) rfl
  · rintro j ⟨a, b⟩ hj hs ih
    simp only [] at hs ⊢
    refine EvQ.step (fun k => by simp only [impl_GridTurn.l0]; rfl) ?_
    exact EvQ.pos (by omega) (EvQ.pos (by omega) (EvQ.pos (by omega) (ih (a, []) ⟨hs, rfl⟩)))
  · rintro j i ⟨a, b⟩ hj hi ⟨ha, hb⟩ ih
    simp only [] at ha hb ⊢
    have hbl : b.length = i := by rw [hb]; simp
    refine EvQ.step (fun k => by simp only [impl_GridTurn.l1]; rfl) ?_
    rw [row_len h hi, at_rd, w64 (n := (i : Int) + 1) (by omega) (by omega)]
    refine EvQ.pos (by omega) (EvQ.pos (by omega) (EvQ.pos (by omega) (EvQ.pos (by omega) (EvQ.pos (by omega) (EvQ.pos (by omega) (ih (a, b ++ [at_ g i j]) ⟨ha, ?_⟩))))))
    simp only []; rw [hb, range_snoc_map]
  · rintro j ⟨a, b⟩ hj ⟨ha, hb⟩ ih
    simp only [] at ha hb ⊢
    have hal : a.length = j := by rw [ha]; simp
    refine EvQ.step (fun k => by simp only [impl_GridTurn.l1]; rfl) ?_
    rw [w64 (n := (j : Int) + 1) (by omega) (by omega)]
    refine EvQ.neg (by omega) (EvQ.pos (by omega) (ih (a ++ [b], b) ?_))
    simp only []; rw [ha, range_snoc_map, hb]; rfl
  · rintro ⟨a, b⟩ ha
    simp only [] at ha ⊢
    refine EvQ.step (fun k => by simp only [impl_GridTurn.l0]; rfl) ?_
    exact EvQ.neg (by omega) (EvQ.ret (by rw [ha]; rfl))
theorem specTurn (g : List (List Int)) : EvQ (fun k => spec_GridTurn.f k g) (fun r => r = turnV g) := by
  unfold spec_GridTurn.f turnV
  refine EvQ.bindc rfl (EvQ.call (specValid g) (EvQ.ite (fun h => ?_) (fun h => EvQ.ret (by simp [h]))))
  rw [if_pos h]
  obtain ⟨h1, h2, h3⟩ := okG_of h
  have ec : (g.headD []).length = cols g := rfl
  refine EvQ.grid (σ := List (List Int) × List Int) (g0 := fun k j s => spec_GridTurn.l0 k g s.1 j) (g1 := fun k j i s => spec_GridTurn.l1 k g s.1 j s.2 i) (cols g) (fun _ => g.length)
    (fun j s => s.1 = (List.range j).map (col g)) (fun j i s => s.1 = (List.range j).map (col g) ∧ s.2 = (List.range i).map (fun i => at_ g i j)) ?_ ?_ ?_ ?_ ([], []) rfl
  · rintro j ⟨a, b⟩ hj hs ih
    simp only [] at hs ⊢
    refine EvQ.step (fun k => by simp only [spec_GridTurn.l0]; rfl) ?_
    rw [rdG_zero, ec]
    exact EvQ.pos (by omega) (EvQ.pos (by omega) (ih (a, []) ⟨hs, rfl⟩))
  · rintro j i ⟨a, b⟩ hj hi ⟨ha, hb⟩ ih
    simp only [] at ha hb ⊢
    have hbl : b.length = i := by rw [hb]; simp
    refine EvQ.step (fun k => by simp only [spec_GridTurn.l1]; rfl) ?_
    rw [row_len h hi, at_rd, w64 (n := (i : Int) + 1) (by omega) (by omega)]
    refine EvQ.pos (by omega) (EvQ.pos (by omega) (EvQ.pos (by omega) (EvQ.pos (by omega) (EvQ.pos (by omega) (ih (a, b ++ [at_ g i j]) ⟨ha, ?_⟩)))))
    simp only []; rw [hb, range_snoc_map]
  · rintro j ⟨a, b⟩ hj ⟨ha, hb⟩ ih
    simp only [] at ha hb ⊢
    have hal : a.length = j := by rw [ha]; simp
    refine EvQ.step (fun k => by simp only [spec_GridTurn.l1]; rfl) ?_
    rw [w64 (n := (j : Int) + 1) (by omega) (by omega)]
    refine EvQ.neg (by omega) (EvQ.pos (by omega) (ih (a ++ [b], b) ?_))
    simp only []; rw [ha, range_snoc_map, hb]; rfl
  · rintro ⟨a, b⟩ ha
    simp only [] at ha ⊢
    refine EvQ.step (fun k => by simp only [spec_GridTurn.l0]; rfl) ?_
    rw [rdG_zero, ec]
    exact EvQ.pos (by omega) (EvQ.neg (by omega) (EvQ.ret (by rw [ha]; rfl)))
end Go.Proofs.Ytkhemhmdapggmaa.Cr

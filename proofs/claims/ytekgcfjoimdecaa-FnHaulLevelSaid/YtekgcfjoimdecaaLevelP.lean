/- Plain, for one law: what it needs of the chapter's texts. No program in sight. -/
import Derived.Test.YtekgcfjoimdecaaEv
import Derived.Test.YtekgcfjoimdecaaPx37
import Derived.Test.YtekgcfjoimdecaaPx39
import Derived.Test.YtekgcfjoimdecaaPx40
import Derived.Test.YtekgcfjoimdecaaPx38
set_option linter.unusedVariables false
set_option linter.unusedSimpArgs false
namespace Go.Proofs.Ytekgcfjoimdecaa.Cr
open Go.RowKit Go.Proofs.Ytekgcfjoimdecaa.P Go.Proofs.YtekgcfjoimdecaaW.PrintWords Go.Proofs.YtekgcfjoimdecaaW.PrintLast Go.Proofs.YtekgcfjoimdecaaW.PrintMore Go.Proofs.Ytekgcfjoimdecaa.Ev
/-- A height in range. -/
def okH (x : Int) : Bool := decide (0 ≤ x) && decide (x ≤ 1000)
def rowOk (c : Nat) (r : List Int) : Bool := decide (r.length = c) && r.all okH
/-- How many columns. -/
def cols (g : List (List Int)) : Nat := (g.headD []).length
/-- Lists are a grid. -/
def okG (g : List (List Int)) : Bool := decide (2 ≤ g.length ∧ g.length ≤ 6) && (decide (2 ≤ cols g ∧ cols g ≤ 6) && g.all (rowOk (cols g)))
theorem okH_of {r : List Int} (h : r.all okH = true) : ∀ x ∈ r, 0 ≤ x ∧ x ≤ 1000 := by
  intro x hx
  have := List.all_eq_true.1 h x hx
  simpa [okH] using this
theorem okG_of {g : List (List Int)} (h : okG g = true) : (2 ≤ g.length ∧ g.length ≤ 6) ∧ (2 ≤ cols g ∧ cols g ≤ 6) ∧ ∀ r ∈ g, r.length = cols g ∧ ∀ x ∈ r, 0 ≤ x ∧ x ≤ 1000 := by
  unfold okG at h
  simp only [Bool.and_eq_true, decide_eq_true_eq] at h
  refine ⟨h.1, h.2.1, fun r hr => ?_⟩
  have := List.all_eq_true.1 h.2.2 r hr
  unfold rowOk at this
  simp only [Bool.and_eq_true, decide_eq_true_eq] at this
  exact ⟨this.1, okH_of this.2⟩
theorem rdG_get {g : List (List Int)} {i : Nat} (h : i < g.length) : rd_L5 g (i : Int) = g[i] := by
  unfold rd_L5; simp [List.getD_eq_getElem?_getD, h]
theorem rdG_zero (g : List (List Int)) : rd_L5 g 0 = g.headD [] := by
  unfold rd_L5; cases g <;> simp
theorem implValid (g : List (List Int)) : EvQ (fun k => impl_GridValid.f k g) (fun r => r = okG g) := by
  have hj : ∀ b : Bool, b = true → okG g = false → EvQ (fun k => impl_GridValid.j0 k g b) (fun r => r = okG g) := by
    rintro _ rfl h
    refine EvQ.step (fun k => by simp only [impl_GridValid.j0]; rfl) ?_
    exact EvQ.pos (by simp) (EvQ.ret h.symm)
  have hj1 : ∀ (b : Bool) (c : Int), b = true → okG g = false → EvQ (fun k => impl_GridValid.j1 k g c b) (fun r => r = okG g) := by
    rintro _ c rfl h
    refine EvQ.step (fun k => by simp only [impl_GridValid.j1]; rfl) ?_
    exact EvQ.pos (by simp) (EvQ.ret h.symm)
  unfold impl_GridValid.f
  by_cases h1 : 2 ≤ g.length ∧ g.length ≤ 6
  · refine EvQ.neg (by omega) ?_
    refine EvQ.step (fun k => by simp only [impl_GridValid.j0]; rfl) ?_
    refine EvQ.neg (by simp; omega) (EvQ.pos (by omega) ?_)
    rw [rdG_zero]
    have ec : (g.headD []).length = cols g := rfl
    rw [ec]
    by_cases h2 : 2 ≤ cols g ∧ cols g ≤ 6
    · refine EvQ.neg (by omega) ?_
      refine EvQ.step (fun k => by simp only [impl_GridValid.j1]; rfl) ?_
      refine EvQ.neg (by simp; omega) ?_
      refine EvQ.grid (σ := Unit) (g0 := fun k i _ => impl_GridValid.l0 k (cols g : Int) g (g.length : Int) i) (g1 := fun k i j _ => impl_GridValid.l1 k (cols g : Int) g (g.length : Int) i (rd_L5 g i) ((rd_L5 g i).length : Int) j) g.length (fun i => (g.getD i []).length)
        (fun i _ => (g.take i).all (rowOk (cols g)) = true) (fun i j _ => (g.take i).all (rowOk (cols g)) = true ∧ (g.getD i []).length = cols g ∧ ((g.getD i []).take j).all okH = true) ?_ ?_ ?_ ?_ () (by simp)
      · intro i _ hi hI ih
        have eg : g.getD i [] = g[i] := by simp [List.getD_eq_getElem?_getD, hi]
        refine EvQ.step (fun k => by simp only [impl_GridValid.l0]; rfl) ?_
        refine EvQ.pos (by omega) (EvQ.pos (by omega) (EvQ.pos (by omega) ?_))
        refine EvQ.ite (fun h => ?_) (fun h => EvQ.ret ?_)
        · rw [rdG_get hi] at h
          exact ih () ⟨hI, by rw [eg]; omega, by simp⟩
        · rw [rdG_get hi] at h
          have hr : rowOk (cols g) g[i] = false := by unfold rowOk; simp; omega
          have : g.all (rowOk (cols g)) = false := all_false hi hr
          unfold okG; rw [this]; simp
      · intro i j _ hi hj hI ih
        have eg : g.getD i [] = g[i] := by simp [List.getD_eq_getElem?_getD, hi]
        rw [eg] at hj hI
        have hc : cols g ≤ 6 := h2.2
        have er := rdG_get hi
        refine EvQ.step (fun k => by simp only [impl_GridValid.l1]; rfl) ?_
        simp only [er] at ih ⊢
        refine EvQ.pos (by omega) (EvQ.pos (by omega) (EvQ.pos (by omega) ?_))
        rw [rd_get hj]
        have hno : okH g[i][j] = false → EvQ (fun _ => some false) (fun r => r = okG g) := by
          intro h
          have hr : rowOk (cols g) g[i] = false := by unfold rowOk; rw [all_false hj h]; simp
          have : g.all (rowOk (cols g)) = false := all_false hi hr
          refine EvQ.ret ?_
          unfold okG; rw [this]; simp
        refine EvQ.ite (fun h => hno (by simp [okH]; omega)) (fun h => ?_)
        refine EvQ.ite (fun h2 => hno (by simp [okH]; omega)) (fun h2 => ?_)
        rw [w64 (n := (j : Int) + 1) (by omega) (by omega)]
        exact ih () ⟨hI.1, by rw [eg]; exact hI.2.1, by rw [eg]; exact all_take_succ hj hI.2.2 (by simp [okH]; omega)⟩
      · intro i _ hi hI ih
        have eg : g.getD i [] = g[i] := by simp [List.getD_eq_getElem?_getD, hi]
        rw [eg] at hI
        rw [List.take_length] at hI
        have er := rdG_get hi
        refine EvQ.step (fun k => by simp only [impl_GridValid.l1]; rfl) ?_
        simp only [er, eg]
        refine EvQ.neg (by omega) ?_
        rw [w64 (n := (i : Int) + 1) (by omega) (by omega)]
        exact ih () (all_take_succ hi hI.1 (by unfold rowOk; rw [hI.2.2]; simp [hI.2.1]))
      · intro _ hI
        rw [List.take_length] at hI
        refine EvQ.step (fun k => by simp only [impl_GridValid.l0]; rfl) ?_
        refine EvQ.neg (by omega) (EvQ.ret ?_)
        unfold okG; rw [hI]; simp [h1, h2]
    · have hf : okG g = false := by unfold okG; rw [decide_eq_false h2]; simp
      refine EvQ.ite (fun h => hj1 _ _ rfl hf) (fun h => hj1 _ _ (by simp; omega) hf)
  · have hf : okG g = false := by unfold okG; rw [decide_eq_false h1]; simp
    exact EvQ.ite (fun h => hj _ rfl hf) (fun h => hj _ (by simp; omega) hf)
/-- A sum over a row. -/
def rs (f : Int → Int) (r : List Int) : Int := (r.map f).sum
/-- A sum over all heights. -/
def gs (f : Int → Int) (g : List (List Int)) : Int := (g.map (rs f)).sum
theorem rs_cons (f : Int → Int) (x : Int) (r : List Int) : rs f (x :: r) = f x + rs f r := by simp [rs]
theorem gs_nil (f : Int → Int) : gs f [] = 0 := rfl
theorem gs_cons (f : Int → Int) (r : List Int) (g : List (List Int)) : gs f (r :: g) = rs f r + gs f g := by simp [gs]
theorem rs_bound {r : List Int} {f : Int → Int} (hr : r.length ≤ 6) (h : ∀ x ∈ r, -1000 ≤ f x ∧ f x ≤ 1000) : -6000 ≤ rs f r ∧ rs f r ≤ 6000 := by
  have := sum_bound (l := r.map f) (b := 1000) (by
    intro x hx
    obtain ⟨y, hy, rfl⟩ := List.mem_map.1 hx
    exact h y hy)
  rw [List.length_map] at this
  unfold rs; omega
theorem rs_le {f h : Int → Int} {r : List Int} (e : ∀ x ∈ r, f x ≤ h x) : rs f r ≤ rs h r := by
  induction r with
  | nil => simp [rs]
  | cons x r ih => rw [rs_cons, rs_cons]; have := e x (by simp); have := ih (fun y hy => e y (by simp [hy])); omega
/-- What is taken off, and filled, at one height. -/
def pc (lv x : Int) : Int := mx 0 (x - lv)
def pf (lv x : Int) : Int := mx 0 (lv - x)
theorem pc_range {lv x : Int} (hl : 0 ≤ lv ∧ lv ≤ 1000) (hx : 0 ≤ x ∧ x ≤ 1000) : 0 ≤ pc lv x ∧ pc lv x ≤ 1000 := by unfold pc mx; split <;> omega
theorem pf_range {lv x : Int} (hl : 0 ≤ lv ∧ lv ≤ 1000) (hx : 0 ≤ x ∧ x ≤ 1000) : 0 ≤ pf lv x ∧ pf lv x ≤ 1000 := by unfold pf mx; split <;> omega
theorem rowE_eq {lv : Int} (hl : 0 ≤ lv ∧ lv ≤ 1000) (r : List Int) (hr : ∀ x ∈ r, 0 ≤ x ∧ x ≤ 1000) : ∀ a b : Int, -1000000 ≤ a → a + 1000 * r.length ≤ 1000000 → -1000000 ≤ b → b + 1000 * r.length ≤ 1000000 → rowE lv (a, b) r = (a + rs (pc lv) r, b + rs (pf lv) r) := by
  induction r with
  | nil => intro a b _ _ _ _; simp [rowE, rs]
  | cons x r ih =>
    intro a b h1 h2 h3 h4
    have hx := hr x (by simp)
    have p1 := pc_range hl hx
    have p2 := pf_range hl hx
    simp only [List.length_cons] at h2 h4
    have e : stepE lv (a, b) x = (a + pc lv x, b + pf lv x) := by
      unfold stepE pc pf mx
      simp only []
      split
      · rw [w64 (n := x - lv) (by omega) (by omega), w64 (by omega) (by omega), if_pos (by omega), if_neg (by omega)]; simp
      · rw [w64 (n := lv - x) (by omega) (by omega), w64 (by omega) (by omega), if_neg (by omega)]
        split
        · simp
        · have : lv - x = 0 := by omega
          rw [this]; simp
    have : rowE lv (a, b) (x :: r) = rowE lv (stepE lv (a, b) x) r := rfl
    rw [this, e, ih (fun y hy => hr y (by simp [hy])) _ _ (by omega) (by push_cast at h2; omega) (by omega) (by push_cast at h4; omega), rs_cons, rs_cons]
    simp only [Prod.mk.injEq]; omega
theorem allE_eq {lv : Int} (hl : 0 ≤ lv ∧ lv ≤ 1000) (g : List (List Int)) (hg : ∀ r ∈ g, r.length ≤ 6 ∧ ∀ x ∈ r, 0 ≤ x ∧ x ≤ 1000) : ∀ a b : Int, 0 ≤ a → a + 6000 * g.length ≤ 900000 → 0 ≤ b → b + 6000 * g.length ≤ 900000 → allE lv (a, b) g = (a + gs (pc lv) g, b + gs (pf lv) g) := by
  induction g with
  | nil => intro a b _ _ _ _; simp [allE, gs]
  | cons r g ih =>
    intro a b h1 h2 h3 h4
    have hr := hg r (by simp)
    simp only [List.length_cons] at h2 h4
    push_cast at h2 h4
    have n1 : 0 ≤ rs (pc lv) r ∧ rs (pc lv) r ≤ 6000 := by
      refine ⟨?_, (rs_bound hr.1 (fun x hx => by have := pc_range hl (hr.2 x hx); omega)).2⟩
      have := rs_le (f := fun _ => 0) (h := pc lv) (r := r) (fun x hx => (pc_range hl (hr.2 x hx)).1)
      have z : rs (fun _ => 0) r = 0 := by clear this hr hg ih; induction r with
        | nil => rfl
        | cons x r ih2 => rw [rs_cons, ih2]; rfl
      omega
    have n2 : 0 ≤ rs (pf lv) r ∧ rs (pf lv) r ≤ 6000 := by
      refine ⟨?_, (rs_bound hr.1 (fun x hx => by have := pf_range hl (hr.2 x hx); omega)).2⟩
      have := rs_le (f := fun _ => 0) (h := pf lv) (r := r) (fun x hx => (pf_range hl (hr.2 x hx)).1)
      have z : rs (fun _ => 0) r = 0 := by clear this hr hg ih n1; induction r with
        | nil => rfl
        | cons x r ih2 => rw [rs_cons, ih2]; rfl
      omega
    have : allE lv (a, b) (r :: g) = allE lv (rowE lv (a, b) r) g := rfl
    rw [this, rowE_eq hl r hr.2 a b (by omega) (by omega) (by omega) (by omega), ih (fun y hy => hg y (by simp [hy])) _ _ (by omega) (by omega) (by omega) (by omega), gs_cons, gs_cons]
    simp only [Prod.mk.injEq]; omega
theorem implBoth {g : List (List Int)} (h : okG g = true) {lv : Int} (hl : 0 ≤ lv ∧ lv ≤ 1000) : impl_earthOf.f g lv = some (gs (pc lv) g, gs (pf lv) g) := by
  obtain ⟨h1, h2, h3⟩ := okG_of h
  unfold impl_earthOf.f
  rw [allE_eq hl g (fun r hr => ⟨by have := (h3 r hr).1; omega, (h3 r hr).2⟩) 0 0 (by omega) (by omega) (by omega) (by omega)]
  simp
/-- A grid and a level in range. -/
def okE (g : List (List Int)) (lv : Int) : Bool := okG g && decide (0 ≤ lv ∧ lv ≤ 1000)
theorem okE_of {g : List (List Int)} {lv : Int} (h : okE g lv = true) : okG g = true ∧ (0 ≤ lv ∧ lv ≤ 1000) := by
  unfold okE at h; simpa only [Bool.and_eq_true, decide_eq_true_eq] using h
def cutV (g : List (List Int)) (lv : Int) : Int := if okE g lv then gs (pc lv) g else -1
def fillV (g : List (List Int)) (lv : Int) : Int := if okE g lv then gs (pf lv) g else -1
theorem implEV (g : List (List Int)) (lv : Int) : EvQ (fun k => impl_earthValid.f k g lv) (fun r => r = okE g lv) := by
  unfold impl_earthValid.f okE
  refine EvQ.call (implValid g) (EvQ.ite (fun h => ?_) (fun h => EvQ.ret (by simp [h])))
  refine EvQ.ite (fun h0 => EvQ.ret ?_) (fun h0 => EvQ.ret ?_)
  · rw [h, Bool.true_and, Bool.eq_iff_iff]; simp; omega
  · rw [h, Bool.true_and, eq_comm, decide_eq_false_iff_not]; omega
theorem implCut (g : List (List Int)) (lv : Int) : EvQ (fun k => impl_EarthCut.f k g lv) (fun r => r = cutV g lv) := by
  unfold impl_EarthCut.f cutV
  refine EvQ.call (implEV g lv) (EvQ.ite (fun h => ?_) (fun h => EvQ.ret (by simp [h])))
  obtain ⟨h1, h2⟩ := okE_of h
  exact EvQ.bindc (implBoth h1 h2) (EvQ.ret (by simp [h]))
theorem implFill (g : List (List Int)) (lv : Int) : EvQ (fun k => impl_EarthFill.f k g lv) (fun r => r = fillV g lv) := by
  unfold impl_EarthFill.f fillV
  refine EvQ.call (implEV g lv) (EvQ.ite (fun h => ?_) (fun h => EvQ.ret (by simp [h])))
  obtain ⟨h1, h2⟩ := okE_of h
  exact EvQ.bindc (implBoth h1 h2) (EvQ.ret (by simp [h]))
end Go.Proofs.Ytekgcfjoimdecaa.Cr

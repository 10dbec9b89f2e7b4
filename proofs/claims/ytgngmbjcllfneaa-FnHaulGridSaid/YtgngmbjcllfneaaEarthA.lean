/- Chapter 42, plain: cut and fill of a grid. No program in sight. -/
import Derived.Test.YtgngmbjcllfneaaGridA
import Derived.Test.YtgngmbjcllfneaaPx3
import Derived.Test.YtgngmbjcllfneaaPx7
set_option linter.unusedVariables false
set_option linter.unusedSimpArgs false
namespace Go.Proofs.Ytgngmbjcllfneaa.GridA
open Go.RowKit Go.Proofs.Ytgngmbjcllfneaa.P Go.Proofs.YtgngmbjcllfneaaW.PrintWords Go.Proofs.YtgngmbjcllfneaaW.PrintLast Go.Proofs.YtgngmbjcllfneaaW.PrintMore Go.Proofs.Ytgngmbjcllfneaa.Ev Go.Proofs.Ytgngmbjcllfneaa.Ints
/-- A sum over a row. -/
def rs (f : Int → Int) (r : List Int) : Int := (r.map f).sum
/-- A sum over all heights. -/
def gs (f : Int → Int) (g : List (List Int)) : Int := (g.map (rs f)).sum
theorem rs_nil (f : Int → Int) : rs f [] = 0 := rfl
theorem rs_cons (f : Int → Int) (x : Int) (r : List Int) : rs f (x :: r) = f x + rs f r := by simp [rs]
theorem gs_nil (f : Int → Int) : gs f [] = 0 := rfl
theorem gs_cons (f : Int → Int) (r : List Int) (g : List (List Int)) : gs f (r :: g) = rs f r + gs f g := by simp [gs]
theorem rs_take_succ {f : Int → Int} {r : List Int} {j : Nat} (h : j < r.length) : rs f (r.take (j + 1)) = rs f (r.take j) + f r[j] := by
  unfold rs; rw [List.take_succ_eq_append_getElem h, List.map_append, List.sum_append]; simp
theorem gs_take_succ {f : Int → Int} {g : List (List Int)} {i : Nat} (h : i < g.length) : gs f (g.take (i + 1)) = gs f (g.take i) + rs f g[i] := by
  unfold gs; rw [List.take_succ_eq_append_getElem h, List.map_append, List.sum_append]; simp
theorem rs_bound {r : List Int} {f : Int → Int} (hr : r.length ≤ 6) (h : ∀ x ∈ r, -1000 ≤ f x ∧ f x ≤ 1000) : -6000 ≤ rs f r ∧ rs f r ≤ 6000 := by
  have := sum_bound (l := r.map f) (b := 1000) (by
    intro x hx
    obtain ⟨y, hy, rfl⟩ := List.mem_map.1 hx
    exact h y hy)
  rw [List.length_map] at this
  unfold rs; omega
theorem gs_bound {g : List (List Int)} {f : Int → Int} (hg : g.length ≤ 6) (h : ∀ r ∈ g, r.length ≤ 6 ∧ ∀ x ∈ r, -1000 ≤ f x ∧ f x ≤ 1000) : -36000 ≤ gs f g ∧ gs f g ≤ 36000 := by
  have := sum_bound (l := g.map (rs f)) (b := 6000) (by
    intro x hx
    obtain ⟨r, hr, rfl⟩ := List.mem_map.1 hx
    exact rs_bound (h r hr).1 (h r hr).2)
  rw [List.length_map] at this
  unfold gs; omega
theorem rs_congr {f h : Int → Int} {r : List Int} (e : ∀ x ∈ r, f x = h x) : rs f r = rs h r := by
  unfold rs; rw [List.map_congr_left e]
theorem gs_congr {f h : Int → Int} {g : List (List Int)} (e : ∀ r ∈ g, ∀ x ∈ r, f x = h x) : gs f g = gs h g := by
  unfold gs; rw [List.map_congr_left (fun r hr => rs_congr (e r hr))]
theorem rs_le {f h : Int → Int} {r : List Int} (e : ∀ x ∈ r, f x ≤ h x) : rs f r ≤ rs h r := by
  induction r with
  | nil => simp [rs]
  | cons x r ih => rw [rs_cons, rs_cons]; have := e x (by simp); have := ih (fun y hy => e y (by simp [hy])); omega
theorem gs_le {f h : Int → Int} {g : List (List Int)} (e : ∀ r ∈ g, ∀ x ∈ r, f x ≤ h x) : gs f g ≤ gs h g := by
  induction g with
  | nil => simp [gs]
  | cons r g ih => rw [gs_cons, gs_cons]; have := rs_le (e r (by simp)); have := ih (fun y hy => e y (by simp [hy])); omega
theorem rs_add (f h : Int → Int) (r : List Int) : rs (fun x => f x + h x) r = rs f r + rs h r := by
  induction r with
  | nil => rfl
  | cons x r ih => rw [rs_cons, rs_cons, rs_cons, ih]; omega
theorem gs_add (f h : Int → Int) (g : List (List Int)) : gs (fun x => f x + h x) g = gs f g + gs h g := by
  induction g with
  | nil => rfl
  | cons r g ih => rw [gs_cons, gs_cons, gs_cons, ih, rs_add]; omega
theorem gs_neg (f : Int → Int) (g : List (List Int)) : gs (fun x => -f x) g = -gs f g := by
  have h := gs_add f (fun x => -f x) g
  have z : gs (fun x => f x + -f x) g = 0 := by
    have : gs (fun x => f x + -f x) g = gs (fun _ => 0) g := gs_congr (fun _ _ x _ => by omega)
    rw [this]
    induction g with
    | nil => rfl
    | cons r g ih =>
      have zr : rs (fun _ => 0) r = 0 := by
        clear h this ih
        induction r with
        | nil => rfl
        | cons x r ih2 => rw [rs_cons, ih2]; rfl
      rw [gs_cons, zr, ih (gs_add f (fun x => -f x) g) (gs_congr (fun _ _ x _ => by omega))]; rfl
  omega
theorem gs_sub (f h : Int → Int) (g : List (List Int)) : gs (fun x => f x - h x) g = gs f g - gs h g := by
  have e : gs (fun x => f x - h x) g = gs (fun x => f x + -h x) g := gs_congr (fun _ _ x _ => by omega)
  rw [e, gs_add, gs_neg]; omega
/-- What is taken off, and filled, at one height. -/
def pc (lv x : Int) : Int := mx 0 (x - lv)
def pf (lv x : Int) : Int := mx 0 (lv - x)
theorem pc_range {lv x : Int} (hl : 0 ≤ lv ∧ lv ≤ 1000) (hx : 0 ≤ x ∧ x ≤ 1000) : 0 ≤ pc lv x ∧ pc lv x ≤ 1000 := by unfold pc mx; split <;> omega
theorem pf_range {lv x : Int} (hl : 0 ≤ lv ∧ lv ≤ 1000) (hx : 0 ≤ x ∧ x ≤ 1000) : 0 ≤ pf lv x ∧ pf lv x ≤ 1000 := by unfold pf mx; split <;> omega
theorem okG_small {g : List (List Int)} (h : okG g = true) {f : Int → Int} (hf : ∀ x, 0 ≤ x ∧ x ≤ 1000 → -1000 ≤ f x ∧ f x ≤ 1000) (i : Nat) : -36000 ≤ gs f (g.take i) ∧ gs f (g.take i) ≤ 36000 := by
  obtain ⟨h1, h2, h3⟩ := okG_of h
  exact gs_bound (Nat.le_trans (List.length_take_le' ..) h1.2) (fun r hr => by
    have := h3 r (List.mem_of_mem_take hr)
    exact ⟨by omega, fun x hx => hf x (this.2 x hx)⟩)
theorem okG_small' {g : List (List Int)} (h : okG g = true) {f : Int → Int} (hf : ∀ x, 0 ≤ x ∧ x ≤ 1000 → -1000 ≤ f x ∧ f x ≤ 1000) : -36000 ≤ gs f g ∧ gs f g ≤ 36000 := by
  have := okG_small h hf g.length
  rwa [List.take_length] at this
theorem okG_nonneg {g : List (List Int)} (h : okG g = true) {f : Int → Int} (hf : ∀ x, 0 ≤ x ∧ x ≤ 1000 → 0 ≤ f x) : 0 ≤ gs f g := by
  obtain ⟨h1, h2, h3⟩ := okG_of h
  have z : gs (fun _ => 0) g = 0 := by
    have := gs_sub (fun _ => 0) (fun _ => 0) g
    have e : gs (fun _ => (0 : Int) - 0) g = gs (fun _ => 0) g := rfl
    omega
  have := gs_le (f := fun _ => 0) (h := f) (g := g) (fun r hr x hx => hf x ((h3 r hr).2 x hx))
  omega
theorem okG_rsmall {g : List (List Int)} (h : okG g = true) {f : Int → Int} (hf : ∀ x, 0 ≤ x ∧ x ≤ 1000 → -1000 ≤ f x ∧ f x ≤ 1000) {i : Nat} (hi : i < g.length) (j : Nat) : -6000 ≤ rs f (g[i].take j) ∧ rs f (g[i].take j) ≤ 6000 := by
  obtain ⟨h1, h2, h3⟩ := okG_of h
  have := h3 _ (List.getElem_mem hi)
  exact rs_bound (Nat.le_trans (List.length_take_le' ..) (by omega)) (fun x hx => hf x (this.2 x (List.mem_of_mem_take hx)))
theorem specBoth {g : List (List Int)} (h : okG g = true) {lv : Int} (hl : 0 ≤ lv ∧ lv ≤ 1000) : EvQ (fun k => spec_l42Both.f k g lv) (fun r => r = (gs (pc lv) g, gs (pf lv) g)) := by
  have hc : ∀ x, 0 ≤ x ∧ x ≤ 1000 → -1000 ≤ pc lv x ∧ pc lv x ≤ 1000 := fun x hx => by have := pc_range hl hx; omega
  have hf : ∀ x, 0 ≤ x ∧ x ≤ 1000 → -1000 ≤ pf lv x ∧ pf lv x ≤ 1000 := fun x hx => by have := pf_range hl hx; omega
  obtain ⟨h1, h2, h3⟩ := okG_of h
  unfold spec_l42Both.f
  refine EvQ.grid (σ := Int × Int) (g0 := fun k i s => spec_l42Both.l0 k g lv s.1 s.2 i) (g1 := fun k i j s => spec_l42Both.l1 k g lv s.1 s.2 i j) g.length (fun i => (g.getD i []).length)
    (fun i s => s = (gs (pc lv) (g.take i), gs (pf lv) (g.take i))) (fun i j s => s = (gs (pc lv) (g.take i) + rs (pc lv) ((g.getD i []).take j), gs (pf lv) (g.take i) + rs (pf lv) ((g.getD i []).take j))) ?_ ?_ ?_ ?_ (0, 0) (by simp [gs])
  · rintro i _ hi rfl ih
    refine EvQ.step (fun k => by simp only [spec_l42Both.l0]; rfl) ?_
    exact EvQ.pos (by omega) (ih (gs (pc lv) (g.take i), gs (pf lv) (g.take i)) (by simp [rs]))
  · rintro i j _ hi hj rfl ih
    have eg : g.getD i [] = g[i] := by simp [List.getD_eq_getElem?_getD, hi]
    simp only [eg] at hj ih ⊢
    have b1 := okG_small h hc i
    have b2 := okG_rsmall h hc hi j
    have b3 := okG_small h hf i
    have b4 := okG_rsmall h hf hi j
    have hx := okG_get h hi hj
    have hcl := okG_row h hi
    refine EvQ.step (fun k => by simp only [spec_l42Both.l1]; rfl) ?_
    rw [rdG_get hi, rd_get hj]
    refine EvQ.pos (by omega) (EvQ.pos (by omega) (EvQ.pos (by omega) (EvQ.pos (by omega) ?_)))
    rw [w64 (n := g[i][j] - lv) (by omega) (by omega), w64 (n := lv - g[i][j]) (by omega) (by omega)]
    have p1 := hc _ hx
    have p2 := hf _ hx
    have e1 : mx 0 (g[i][j] - lv) = pc lv g[i][j] := rfl
    have e2 : mx 0 (lv - g[i][j]) = pf lv g[i][j] := rfl
    rw [e1, e2, w64 (n := gs (pc lv) (g.take i) + rs (pc lv) (g[i].take j) + pc lv g[i][j]) (by omega) (by omega), w64 (n := gs (pf lv) (g.take i) + rs (pf lv) (g[i].take j) + pf lv g[i][j]) (by omega) (by omega), w64 (n := (j : Int) + 1) (by omega) (by omega)]
    exact ih (_, _) (by rw [rs_take_succ hj, rs_take_succ hj]; simp only [Prod.mk.injEq]; omega)
  · rintro i _ hi rfl ih
    have eg : g.getD i [] = g[i] := by simp [List.getD_eq_getElem?_getD, hi]
    simp only [eg, List.take_length] at ih ⊢
    refine EvQ.step (fun k => by simp only [spec_l42Both.l1]; rfl) ?_
    rw [rdG_get hi]
    refine EvQ.pos (by omega) (EvQ.pos (by omega) (EvQ.neg (by omega) ?_))
    rw [w64 (n := (i : Int) + 1) (by omega) (by omega)]
    exact ih (_, _) (by rw [gs_take_succ hi, gs_take_succ hi])
  · rintro _ rfl
    refine EvQ.step (fun k => by simp only [spec_l42Both.l0]; rfl) ?_
    exact EvQ.neg (by omega) (EvQ.ret (by simp))
theorem rowE_eq {lv : Int} (hl : 0 ≤ lv ∧ lv ≤ 1000) (r : List Int) (hr : ∀ x ∈ r, 0 ≤ x ∧ x ≤ 1000) : ∀ a b : Int, -1000000 ≤ a → a + 1000 * r.length ≤ 1000000 → -1000000 ≤ b → b + 1000 * r.length ≤ 1000000 → rowE lv (a, b) r = (a + rs (pc lv) r, b + rs (pf lv) r) := by
  induction r with
  | nil => intro a b _ _ _ _; simp [rowE, rs]
  | cons x r ih =>
    intro a b h1 h2 h3 h4
    have hx := hr x (by simp)
    have p1 := pc_range hl hx
    have p2 := pf_range hl hx
    simp only [List.length_cons] at h2 h4
    have e : stepE lv (a, b) x = (a + pc lv x, b + pf lv x) := by
      unfold stepE pc pf mx
      simp only []
      split
      · rw [w64 (n := x - lv) (by omega) (by omega), w64 (by omega) (by omega), if_pos (by omega), if_neg (by omega)]; simp
      · rw [w64 (n := lv - x) (by omega) (by omega), w64 (by omega) (by omega), if_neg (by omega)]
        split
        · simp
        · have : lv - x = 0 := by omega
          rw [this]; simp
    have : rowE lv (a, b) (x :: r) = rowE lv (stepE lv (a, b) x) r := rfl
    rw [this, e, ih (fun y hy => hr y (by simp [hy])) _ _ (by omega) (by push_cast at h2; omega) (by omega) (by push_cast at h4; omega), rs_cons, rs_cons]
    simp only [Prod.mk.injEq]; omega
theorem allE_eq {lv : Int} (hl : 0 ≤ lv ∧ lv ≤ 1000) (g : List (List Int)) (hg : ∀ r ∈ g, r.length ≤ 6 ∧ ∀ x ∈ r, 0 ≤ x ∧ x ≤ 1000) : ∀ a b : Int, 0 ≤ a → a + 6000 * g.length ≤ 900000 → 0 ≤ b → b + 6000 * g.length ≤ 900000 → allE lv (a, b) g = (a + gs (pc lv) g, b + gs (pf lv) g) := by
  induction g with
  | nil => intro a b _ _ _ _; simp [allE, gs]
  | cons r g ih =>
    intro a b h1 h2 h3 h4
    have hr := hg r (by simp)
    simp only [List.length_cons] at h2 h4
    push_cast at h2 h4
    have n1 : 0 ≤ rs (pc lv) r ∧ rs (pc lv) r ≤ 6000 := by
      refine ⟨?_, (rs_bound hr.1 (fun x hx => by have := pc_range hl (hr.2 x hx); omega)).2⟩
      have := rs_le (f := fun _ => 0) (h := pc lv) (r := r) (fun x hx => (pc_range hl (hr.2 x hx)).1)
      have z : rs (fun _ => 0) r = 0 := by clear this hr hg ih; induction r with
        | nil => rfl
        | cons x r ih2 => rw [rs_cons, ih2]; rfl
      omega
    have n2 : 0 ≤ rs (pf lv) r ∧ rs (pf lv) r ≤ 6000 := by
      refine ⟨?_, (rs_bound hr.1 (fun x hx => by have := pf_range hl (hr.2 x hx); omega)).2⟩
      have := rs_le (f := fun _ => 0) (h := pf lv) (r := r) (fun x hx => (pf_range hl (hr.2 x hx)).1)
      have z : rs (fun _ => 0) r = 0 := by clear this hr hg ih n1; induction r with
        | nil => rfl
        | cons x r ih2 => rw [rs_cons, ih2]; rfl
      omega
    have : allE lv (a, b) (r :: g) = allE lv (rowE lv (a, b) r) g := rfl
    rw [this, rowE_eq hl r hr.2 a b (by omega) (by omega) (by omega) (by omega), ih (fun y hy => hg y (by simp [hy])) _ _ (by omega) (by omega) (by omega) (by omega), gs_cons, gs_cons]
    simp only [Prod.mk.injEq]; omega
theorem implBoth {g : List (List Int)} (h : okG g = true) {lv : Int} (hl : 0 ≤ lv ∧ lv ≤ 1000) : impl_earthOf.f g lv = some (gs (pc lv) g, gs (pf lv) g) := by
  obtain ⟨h1, h2, h3⟩ := okG_of h
  unfold impl_earthOf.f
  rw [allE_eq hl g (fun r hr => ⟨by have := (h3 r hr).1; omega, (h3 r hr).2⟩) 0 0 (by omega) (by omega) (by omega) (by omega)]
  simp
end Go.Proofs.Ytgngmbjcllfneaa.GridA

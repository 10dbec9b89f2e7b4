/- Sums over the heights of a grid. No program in sight. -/
import Derived.Test.YtkhemhmdapggmaaGridA
set_option linter.unusedVariables false
set_option linter.unusedSimpArgs false
namespace Go.Proofs.Ytkhemhmdapggmaa.GridA
open Go.RowKit Go.Proofs.Ytkhemhmdapggmaa.P Go.Proofs.YtkhemhmdapggmaaW.PrintWords Go.Proofs.YtkhemhmdapggmaaW.PrintLast Go.Proofs.YtkhemhmdapggmaaW.PrintMore Go.Proofs.Ytkhemhmdapggmaa.Ev Go.Proofs.Ytkhemhmdapggmaa.Ints
/-- A sum over a row. -/
def rs (f : Int → Int) (r : List Int) : Int := (r.map f).sum
/-- A sum over all heights. -/
def gs (f : Int → Int) (g : List (List Int)) : Int := (g.map (rs f)).sum
theorem rs_nil (f : Int → Int) : rs f [] = 0 := rfl
theorem rs_cons (f : Int → Int) (x : Int) (r : List Int) : rs f (x :: r) = f x + rs f r := by simp [rs]
theorem gs_nil (f : Int → Int) : gs f [] = 0 := rfl
theorem gs_cons (f : Int → Int) (r : List Int) (g : List (List Int)) : gs f (r :: g) = rs f r + gs f g := by simp [gs]
theorem rs_take_succ {f : Int → Int} {r : List Int} {j : Nat} (h : j < r.length) : rs f (r.take (j + 1)) = rs f (r.take j) + f r[j] := by
  unfold rs; rw [List.take_succ_eq_append_getElem h, List.map_append, List.sum_append]; simp
theorem gs_take_succ {f : Int → Int} {g : List (List Int)} {i : Nat} (h : i < g.length) : gs f (g.take (i + 1)) = gs f (g.take i) + rs f g[i] := by
  unfold gs; rw [List.take_succ_eq_append_getElem h, List.map_append, List.sum_append]; simp
theorem rs_bound {r : List Int} {f : Int → Int} (hr : r.length ≤ 6) (h : ∀ x ∈ r, -1000 ≤ f x ∧ f x ≤ 1000) : -6000 ≤ rs f r ∧ rs f r ≤ 6000 := by
  have := sum_bound (l := r.map f) (b := 1000) (by
    intro x hx
    obtain ⟨y, hy, rfl⟩ := List.mem_map.1 hx
    exact h y hy)
  rw [List.length_map] at this
  unfold rs; omega
theorem gs_bound {g : List (List Int)} {f : Int → Int} (hg : g.length ≤ 6) (h : ∀ r ∈ g, r.length ≤ 6 ∧ ∀ x ∈ r, -1000 ≤ f x ∧ f x ≤ 1000) : -36000 ≤ gs f g ∧ gs f g ≤ 36000 := by
  have := sum_bound (l := g.map (rs f)) (b := 6000) (by
    intro x hx
    obtain ⟨r, hr, rfl⟩ := List.mem_map.1 hx
    exact rs_bound (h r hr).1 (h r hr).2)
  rw [List.length_map] at this
  unfold gs; omega
theorem rs_congr {f h : Int → Int} {r : List Int} (e : ∀ x ∈ r, f x = h x) : rs f r = rs h r := by
  unfold rs; rw [List.map_congr_left e]
theorem gs_congr {f h : Int → Int} {g : List (List Int)} (e : ∀ r ∈ g, ∀ x ∈ r, f x = h x) : gs f g = gs h g := by
  unfold gs; rw [List.map_congr_left (fun r hr => rs_congr (e r hr))]
theorem rs_le {f h : Int → Int} {r : List Int} (e : ∀ x ∈ r, f x ≤ h x) : rs f r ≤ rs h r := by
  induction r with
  | nil => simp [rs]
  | cons x r ih => rw [rs_cons, rs_cons]; have := e x (by simp); have := ih (fun y hy => e y (by simp [hy])); omega
theorem gs_le {f h : Int → Int} {g : List (List Int)} (e : ∀ r ∈ g, ∀ x ∈ r, f x ≤ h x) : gs f g ≤ gs h g := by
  induction g with
  | nil => simp [gs]
  | cons r g ih => rw [gs_cons, gs_cons]; have := rs_le (e r (by simp)); have := ih (fun y hy => e y (by simp [hy])); omega
theorem rs_add (f h : Int → Int) (r : List Int) : rs (fun x => f x + h x) r = rs f r + rs h r := by
  induction r with
  | nil => rfl
  | cons x r ih => rw [rs_cons, rs_cons, rs_cons, ih]; omega
theorem gs_add (f h : Int → Int) (g : List (List Int)) : gs (fun x => f x + h x) g = gs f g + gs h g := by
  induction g with
  | nil => rfl
  | cons r g ih => rw [gs_cons, gs_cons, gs_cons, ih, rs_add]; omega
theorem gs_neg (f : Int → Int) (g : List (List Int)) : gs (fun x => -f x) g = -gs f g := by
  have h := gs_add f (fun x => -f x) g
  have z : gs (fun x => f x + -f x) g = 0 := by
    have : gs (fun x => f x + -f x) g = gs (fun _ => 0) g := gs_congr (fun _ _ x _ => by omega)
    rw [this]
    induction g with
    | nil => rfl
    | cons r g ih =>
      have zr : rs (fun _ => 0) r = 0 := by
        clear h this ih
        induction r with
        | nil => rfl
        | cons x r ih2 => rw [rs_cons, ih2]; rfl
      rw [gs_cons, zr, ih (gs_add f (fun x => -f x) g) (gs_congr (fun _ _ x _ => by omega))]; rfl
  omega
theorem gs_sub (f h : Int → Int) (g : List (List Int)) : gs (fun x => f x - h x) g = gs f g - gs h g := by
  have e : gs (fun x => f x - h x) g = gs (fun x => f x + -h x) g := gs_congr (fun _ _ x _ => by omega)
  rw [e, gs_add, gs_neg]; omega
theorem okG_small {g : List (List Int)} (h : okG g = true) {f : Int → Int} (hf : ∀ x, 0 ≤ x ∧ x ≤ 1000 → -1000 ≤ f x ∧ f x ≤ 1000) (i : Nat) : -36000 ≤ gs f (g.take i) ∧ gs f (g.take i) ≤ 36000 := by
  obtain ⟨h1, h2, h3⟩ := okG_of h
  exact gs_bound (Nat.le_trans (List.length_take_le' ..) h1.2) (fun r hr => by
    have := h3 r (List.mem_of_mem_take hr)
    exact ⟨by omega, fun x hx => hf x (this.2 x hx)⟩)
theorem okG_small' {g : List (List Int)} (h : okG g = true) {f : Int → Int} (hf : ∀ x, 0 ≤ x ∧ x ≤ 1000 → -1000 ≤ f x ∧ f x ≤ 1000) : -36000 ≤ gs f g ∧ gs f g ≤ 36000 := by
  have := okG_small h hf g.length
  rwa [List.take_length] at this
theorem okG_nonneg {g : List (List Int)} (h : okG g = true) {f : Int → Int} (hf : ∀ x, 0 ≤ x ∧ x ≤ 1000 → 0 ≤ f x) : 0 ≤ gs f g := by
  obtain ⟨h1, h2, h3⟩ := okG_of h
  have z : gs (fun _ => 0) g = 0 := by
    have := gs_sub (fun _ => 0) (fun _ => 0) g
    have e : gs (fun _ => (0 : Int) - 0) g = gs (fun _ => 0) g := rfl
    omega
  have := gs_le (f := fun _ => 0) (h := f) (g := g) (fun r hr x hx => hf x ((h3 r hr).2 x hx))
  omega
theorem okG_rsmall {g : List (List Int)} (h : okG g = true) {f : Int → Int} (hf : ∀ x, 0 ≤ x ∧ x ≤ 1000 → -1000 ≤ f x ∧ f x ≤ 1000) {i : Nat} (hi : i < g.length) (j : Nat) : -6000 ≤ rs f (g[i].take j) ∧ rs f (g[i].take j) ≤ 6000 := by
  obtain ⟨h1, h2, h3⟩ := okG_of h
  have := h3 _ (List.getElem_mem hi)
  exact rs_bound (Nat.le_trans (List.length_take_le' ..) (by omega)) (fun x hx => hf x (this.2 x (List.mem_of_mem_take hx)))
end Go.Proofs.Ytkhemhmdapggmaa.GridA

import Derived.Test.YtfonigbkoligmaaPolyC0
set_option linter.unusedVariables false
set_option linter.unusedSimpArgs false
namespace Go.Proofs.Ytfonigbkoligmaa.Cr
open Go.RowKit Go.Proofs.Ytfonigbkoligmaa.P Go.Proofs.YtfonigbkoligmaaW.PrintWords Go.Proofs.YtfonigbkoligmaaW.PrintLast Go.Proofs.YtfonigbkoligmaaW.PrintMore Go.Proofs.Ytfonigbkoligmaa.Ev
def gapP (a b : S33) : Int := (Int.gcd (b.f0 - a.f0) (b.f1 - a.f1) : Int)
theorem gcd_par (x y : Int) : ((Int.gcd x y : Int) % 2 = 0) ↔ (x % 2 = 0 ∧ y % 2 = 0) := by
  constructor
  · intro h
    have hd : (2 : Int) ∣ (Int.gcd x y : Int) := Int.dvd_of_emod_eq_zero h
    exact ⟨Int.emod_eq_zero_of_dvd (Int.dvd_trans hd (Int.gcd_dvd_left ..)), Int.emod_eq_zero_of_dvd (Int.dvd_trans hd (Int.gcd_dvd_right ..))⟩
  · rintro ⟨h1, h2⟩
    exact Int.emod_eq_zero_of_dvd (Int.dvd_coe_gcd (Int.dvd_of_emod_eq_zero h1) (Int.dvd_of_emod_eq_zero h2))
def par (p : S33) : Int := p.f0 * p.f1 + p.f0 + p.f1
theorem side_par (a b : S33) : (crP a b - gapP a b - (par b - par a)) % 2 = 0 := by
  have hg := gcd_par (b.f0 - a.f0) (b.f1 - a.f1)
  unfold crP cr gapP par
  generalize (Int.gcd (b.f0 - a.f0) (b.f1 - a.f1) : Int) = g at *
  generalize a.f0 = x at *
  generalize a.f1 = y at *
  generalize b.f0 = u at *
  generalize b.f1 = v at *
  obtain ⟨p, hx⟩ : ∃ p, x = 2 * p ∨ x = 2 * p + 1 := ⟨x / 2, by omega⟩
  obtain ⟨q, hy⟩ : ∃ p, y = 2 * p ∨ y = 2 * p + 1 := ⟨y / 2, by omega⟩
  obtain ⟨r, hu⟩ : ∃ p, u = 2 * p ∨ u = 2 * p + 1 := ⟨u / 2, by omega⟩
  obtain ⟨s, hv⟩ : ∃ p, v = 2 * p ∨ v = 2 * p + 1 := ⟨v / 2, by omega⟩
  have e1 : ∀ m n : Int, (2 * m) * (2 * n) = 2 * (2 * (m * n)) := by intros; grind
  have e2 : ∀ m n : Int, (2 * m) * (2 * n + 1) = 2 * (2 * (m * n) + m) := by intros; grind
  have e3 : ∀ m n : Int, (2 * m + 1) * (2 * n) = 2 * (2 * (m * n) + n) := by intros; grind
  have e4 : ∀ m n : Int, (2 * m + 1) * (2 * n + 1) = 2 * (2 * (m * n) + m + n) + 1 := by intros; grind
  rcases hx with rfl | rfl <;> rcases hy with rfl | rfl <;> rcases hu with rfl | rfl <;> rcases hv with rfl | rfl <;> simp only [e1, e2, e3, e4] <;> omega
theorem pathE_sub (e1 e2 : S33 → S33 → Int) : ∀ l : List S33, pathE (fun a b => e1 a b - e2 a b) l = pathE e1 l - pathE e2 l := by
  intro l
  induction l with
  | nil => simp [pathE]
  | cons x t ih =>
    cases t with
    | nil => simp [pathE]
    | cons y t => simp only [pathE] at ih ⊢; omega
theorem pathE_even (e : S33 → S33 → Int) (h : ∀ a b, e a b % 2 = 0) : ∀ l : List S33, pathE e l % 2 = 0 := by
  intro l
  induction l with
  | nil => rfl
  | cons x t ih =>
    cases t with
    | nil => rfl
    | cons y t => simp only [pathE] at ih ⊢; have := h x y; omega
theorem pathE_tel (f : S33 → Int) (z : S33) : ∀ (t : List S33) (x : S33), pathE (fun a b => f b - f a) (x :: t ++ [z]) = f z - f x := by
  intro t
  induction t with
  | nil => intro x; simp [pathE]
  | cons y t ih => intro x; have := ih y; simp only [List.cons_append, pathE] at this ⊢; omega
theorem cyc_par (l : List S33) : (cycE crP l - cycE gapP l) % 2 = 0 := by
  cases l with
  | nil => rfl
  | cons x t =>
    show (pathE crP (x :: t ++ [x]) - pathE gapP (x :: t ++ [x])) % 2 = 0
    have h1 := pathE_even (fun a b => crP a b - gapP a b - (par b - par a)) side_par (x :: t ++ [x])
    rw [pathE_sub (fun a b => crP a b - gapP a b) (fun a b => par b - par a), pathE_sub crP gapP, pathE_tel par x t x] at h1
    omega
theorem cycE_rot (e : S33 → S33 → Int) (u v : List S33) : cycE e (v ++ u) = cycE e (u ++ v) := by
  cases u with
  | nil => simp
  | cons a A =>
    cases v with
    | nil => simp
    | cons b B =>
      show pathE e (b :: B ++ a :: A ++ [b]) = pathE e (a :: A ++ b :: B ++ [a])
      have k1 := pathE_append e a (A ++ [b]) (b :: B)
      have k2 := pathE_append e b (B ++ [a]) (a :: A)
      simp only [List.cons_append, List.append_assoc, List.nil_append] at k1 k2 ⊢
      omega
theorem gap_bound {a b : S33} (ha : okP a.f0 a.f1 = true) (hb : okP b.f0 b.f1 = true) : 0 ≤ gapP a b ∧ gapP a b ≤ 40000 := by
  have ha := okP_iff.1 ha
  have hb := okP_iff.1 hb
  unfold gapP
  refine ⟨by omega, ?_⟩
  by_cases h : b.f0 - a.f0 = 0
  · rw [h, Int.gcd_zero_left]; omega
  · have := Int.le_of_dvd (show 0 < ((b.f0 - a.f0).natAbs : Int) by omega) (Int.dvd_natAbs.2 (Int.gcd_dvd_left (a := b.f0 - a.f0) (b := b.f1 - a.f1)))
    omega
end Go.Proofs.Ytfonigbkoligmaa.Cr

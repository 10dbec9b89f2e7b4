/- Chapter 34, plain: what the laws of crossings need. No program in sight. -/
import Derived.Test.YtgoejfdciejikaaCrossB
import Derived.Test.YtgoejfdciejikaaCrossC
import Derived.Test.YtgoejfdciejikaaPx5
set_option linter.unusedVariables false
set_option linter.unusedSimpArgs false
namespace Go.Proofs.Ytgoejfdciejikaa.Cr
open Go.RowKit Go.Proofs.Ytgoejfdciejikaa.P Go.Proofs.YtgoejfdciejikaaW.PrintWords Go.Proofs.YtgoejfdciejikaaW.PrintLast Go.Proofs.YtgoejfdciejikaaW.PrintMore Go.Proofs.Ytgoejfdciejikaa.Ev
theorem implPointValid (x y : Int) : impl_PointValid.f x y = some (okP x y) := by unfold impl_PointValid.f; rw [inR_P]
theorem implSide {ax ay bx by_ cx cy : Int} (ha : okP ax ay = true) (hb : okP bx by_ = true) (hc : okP cx cy = true) : impl_PointSide.f ax ay bx by_ cx cy = some (sd ax ay bx by_ cx cy, true) := by
  unfold impl_PointSide.f sdP
  rw [if_pos (by rw [inR_P, inR_P, inR_P]; exact ⟨ha, hb, hc⟩), sdI_eq ha hb hc]
/-- What a valid quotient tells of what was divided. -/
theorem redQ_true {a b t l : Int} (hb : 0 < b) (h : redQ a b = (t, l, true)) : t * b = l * a ∧ okQ t l = true := by
  unfold redQ at h
  split at h
  · rename_i hq
    simp only [Prod.mk.injEq, and_true] at h
    obtain ⟨rfl, rfl⟩ := h
    refine ⟨?_, hq⟩
    obtain ⟨c, hc⟩ := Int.gcd_dvd_left (a := a) (b := b)
    obtain ⟨d, hd⟩ := Int.gcd_dvd_right (a := a) (b := b)
    have hg : 0 < (Int.gcd a b : Int) := by
      have := Int.gcd_pos_of_ne_zero_right a (show b ≠ 0 by omega); omega
    generalize (Int.gcd a b : Int) = g at *
    have e1 : a / g = c := by rw [hc, Int.mul_ediv_cancel_left _ (by omega)]
    have e2 : b / g = d := by rw [hd, Int.mul_ediv_cancel_left _ (by omega)]
    rw [e1, e2]
    grind
  · simp at h
theorem quoV_true {a b t l : Int} (h : quoV a b = (t, l, true)) : b ≠ 0 ∧ t * b = l * a ∧ okQ t l = true := by
  unfold quoV at h
  split at h
  · rename_i h0
    refine ⟨h0.1, ?_⟩
    split at h
    · have := redQ_true (by omega) h
      refine ⟨?_, this.2⟩
      have e := this.1
      rw [Int.mul_neg, Int.mul_neg] at e; omega
    · exact redQ_true (by omega) h
  · simp at h
theorem quo_bt {a b t l : Int} (h : quoV a b = (t, l, true)) (hb : Bt b a) : 0 ≤ t ∧ t ≤ l := by
  obtain ⟨h0, h1, h2⟩ := quoV_true h
  have h3 := okQ_iff.1 h2
  have := Bt.of h0 h1 hb
  unfold Bt at this; omega
theorem quo_one {a b t l : Int} (h : quoV a b = (t, l, true)) : (t = 1 ∧ l = 1) ↔ a = b := by
  obtain ⟨h0, h1, h2⟩ := quoV_true h
  have h3 := okQ_iff.1 h2
  constructor
  · rintro ⟨rfl, rfl⟩; omega
  · rintro rfl
    have e : t = l := Int.eq_of_mul_eq_mul_right h0 h1
    subst e
    have := h3.2.2
    rw [Int.gcd_self] at this
    omega
theorem inner_iff {ax ay bx by_ cx cy dx dy : Int} : inner ax ay bx by_ cx cy dx dy = true ↔ Ln ax ay bx by_ cx cy dx dy ∧ pD ax ay bx by_ cx cy dx dy ≠ 0 ∧ Bt (pD ax ay bx by_ cx cy dx dy) (pP ax ay bx by_ cx cy dx dy) ∧ Bt (pD ax ay bx by_ cx cy dx dy) (pQ ax ay bx by_ cx cy dx dy) := by
  unfold inner; rw [Bool.and_eq_true, decide_eq_true_eq, lnOk_iff]
theorem pQ_swap (ax ay bx by_ cx cy dx dy : Int) : pQ cx cy dx dy ax ay bx by_ = -pP ax ay bx by_ cx cy dx dy := by
  have := pP_swap cx cy dx dy ax ay bx by_; omega
theorem inner_swap {ax ay bx by_ cx cy dx dy : Int} (h : inner ax ay bx by_ cx cy dx dy = true) : inner cx cy dx dy ax ay bx by_ = true := by
  rw [inner_iff] at h ⊢
  rw [pD_swap ax ay bx by_ cx cy dx dy, pP_swap ax ay bx by_ cx cy dx dy, pQ_swap ax ay bx by_ cx cy dx dy, Bt.neg, Bt.neg]
  exact ⟨h.1.swap, by omega, h.2.2.2, h.2.2.1⟩
theorem same_iff {ax ay bx by_ cx cy dx dy : Int} : same ax ay bx by_ cx cy dx dy = true ↔ Ln ax ay bx by_ cx cy dx dy ∧ cr (bx - ax) (by_ - ay) (cx - ax) (cy - ay) = 0 ∧ cr (bx - ax) (by_ - ay) (dx - ax) (dy - ay) = 0 := by
  unfold same; rw [Bool.and_eq_true, decide_eq_true_eq, lnOk_iff]
theorem Ln.back {ax ay bx by_ cx cy dx dy : Int} (h : Ln ax ay bx by_ cx cy dx dy) : Ln bx by_ ax ay cx cy dx dy := ⟨h.b, h.a, h.c, h.d, by rcases h.ab with h | h; exact Or.inl (Ne.symm h); exact Or.inr (Ne.symm h), h.cd⟩
/-- Steps along one step are along each other. -/
theorem par {sx sy tx ty ux uy : Int} (hs : sx ≠ 0 ∨ sy ≠ 0) (h1 : sx * uy - sy * ux = 0) (h2 : sx * ty - sy * tx = 0) : tx * uy - ty * ux = 0 := by
  rcases hs with hs | hs
  · have : sx * (tx * uy - ty * ux) = 0 := by grind
    rcases Int.mul_eq_zero.1 this with h | h
    · exact absurd h hs
    · exact h
  · have : sy * (tx * uy - ty * ux) = 0 := by grind
    rcases Int.mul_eq_zero.1 this with h | h
    · exact absurd h hs
    · exact h
theorem Ln.step {ax ay bx by_ cx cy dx dy : Int} (h : Ln ax ay bx by_ cx cy dx dy) : bx - ax ≠ 0 ∨ by_ - ay ≠ 0 := by rcases h.ab with h | h <;> omega
/-- What holds of equal lines. -/
theorem same_all {ax ay bx by_ cx cy dx dy : Int} (h : same ax ay bx by_ cx cy dx dy = true) : pD ax ay bx by_ cx cy dx dy = 0 ∧ same cx cy dx dy ax ay bx by_ = true ∧ same bx by_ ax ay cx cy dx dy = true ∧ sd ax ay bx by_ cx cy = 0 ∧ sd ax ay bx by_ dx dy = 0 ∧ sd cx cy dx dy ax ay = 0 := by
  obtain ⟨hl, h1, h2⟩ := same_iff.1 h
  have hs := hl.step
  have hp := par hs (by unfold cr at h1; exact h1) (tx := dx - cx) (ty := dy - cy) (by unfold cr at h1 h2; grind)
  refine ⟨by unfold pD cr; unfold cr at h1 h2; grind, same_iff.2 ⟨hl.swap, ?_, ?_⟩, same_iff.2 ⟨hl.back, ?_, ?_⟩, by unfold sd; rw [sg0]; exact h1, by unfold sd; rw [sg0]; exact h2, by unfold sd; rw [sg0]; unfold cr; grind⟩
  · unfold cr; grind
  · unfold cr at h1 h2 ⊢; grind
  · unfold cr at h1 h2 ⊢; grind
  · unfold cr at h1 h2 ⊢; grind
end Go.Proofs.Ytgoejfdciejikaa.Cr

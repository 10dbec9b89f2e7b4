/- Chapter 33, plain: the points of a traverse are partial sums. No program in sight. -/
import Derived.Test.YtkafhhiplimniaaTravC
import Derived.Test.YtkafhhiplimniaaTravD
import Derived.Test.YtkafhhiplimniaaPx32
set_option linter.unusedVariables false
set_option linter.unusedSimpArgs false
namespace Go.Proofs.Ytkafhhiplimniaa.TravA
open Go.RowKit Go.Proofs.Ytkafhhiplimniaa.P Go.Proofs.YtkafhhiplimniaaW.PrintWords Go.Proofs.YtkafhhiplimniaaW.PrintLast Go.Proofs.YtkafhhiplimniaaW.PrintMore Go.Proofs.Ytkafhhiplimniaa.Ev
/-- The point behind i steps, as a sum. -/
def okAt (x y : Int) (l : List Pt) (i : Nat) : Prop := okP (x + gx (l.take i)) (y + gy (l.take i)) = true
theorem wk_of {x y : Int} {l : List Pt} (h0 : okP x y = true) (hT : ∀ p ∈ l, okT p = true) : ∀ n, n ≤ l.length → wkOk l x y n = true → (∀ i, i ≤ n → okAt x y l i) ∧ wkA l x y n = (x + gx (l.take n), y + gy (l.take n))
  | 0, _, _ => ⟨fun i hi => by obtain rfl : i = 0 := by omega
                               simpa [okAt, gx, gy] using h0, by simp [wkA, gx, gy]⟩
  | n + 1, hn, hk => by
    have hlt : n < l.length := by omega
    have hs := wk_succ l x y n
    rw [hs.2.1, Bool.and_eq_true] at hk
    obtain ⟨ih1, ih2⟩ := wk_of h0 hT n (by omega) hk.1
    have hk2 := hk.2
    have ht := okT_of (hT _ (List.getElem_mem hlt))
    have h1 := okP_iff.1 (ih1 n (Nat.le_refl n))
    rw [ih2, rdP_get hlt] at hk2 hs
    simp only [] at hk2 hs
    have w1 : wrap64 (x + gx (l.take n) + l[n].f0) = x + gx (l.take n) + l[n].f0 := w64 (by omega) (by omega)
    have w2 : wrap64 (y + gy (l.take n) + l[n].f1) = y + gy (l.take n) + l[n].f1 := w64 (by omega) (by omega)
    rw [mv_eq, w1, w2] at hk2 hs
    split at hk2
    · rename_i hc
      rw [if_pos hc] at hs
      have e1 : gx (l.take (n + 1)) = gx (l.take n) + l[n].f0 := gx_succ hlt
      have e2 : gy (l.take (n + 1)) = gy (l.take n) + l[n].f1 := gy_succ hlt
      refine ⟨fun i hi => ?_, ?_⟩
      · by_cases e : i = n + 1
        · subst e; unfold okAt; rw [e1, e2, ← Int.add_assoc, ← Int.add_assoc]; exact hc.2.2
        · exact ih1 i (by omega)
      · rw [hs.1, e1, e2, Int.add_assoc, Int.add_assoc]
    · simp at hk2
theorem wk_mk {x y : Int} {l : List Pt} (hT : ∀ p ∈ l, okT p = true) : ∀ n, n ≤ l.length → (∀ i, i ≤ n → okAt x y l i) → wkOk l x y n = true
  | 0, _, _ => rfl
  | n + 1, hn, h => by
    have hlt : n < l.length := by omega
    have ih := wk_mk hT n (by omega) (fun i hi => h i (by omega))
    have h0 : okP x y = true := by have := h 0 (by omega); simpa [okAt, gx, gy] using this
    obtain ⟨_, ih2⟩ := wk_of h0 hT n (by omega) ih
    have hs := wk_succ l x y n
    have ht := okT_of (hT _ (List.getElem_mem hlt))
    have h1 := okP_iff.1 (h n (by omega))
    have h2 := h (n + 1) (Nat.le_refl _)
    unfold okAt at h2
    rw [gx_succ hlt, gy_succ hlt, ← Int.add_assoc, ← Int.add_assoc] at h2
    rw [hs.2.1, ih, ih2, rdP_get hlt, mv_eq]
    simp only []
    rw [w64 (n := x + gx (l.take n) + l[n].f0) (by omega) (by omega), w64 (n := y + gy (l.take n) + l[n].f1) (by omega) (by omega)]
    rw [if_pos ⟨h n (by omega), hT _ (List.getElem_mem hlt), h2⟩]; rfl
/-- When TravelEnd tells a point, and which. -/
theorem end_true {x y : Int} {l : List Pt} (h : (endV x y l).2.2 = true) : okP x y = true ∧ okTr l = true ∧ (∀ i, i ≤ l.length → okAt x y l i) ∧ endV x y l = (x + gx l, y + gy l, true) := by
  unfold endV at h ⊢
  split at h
  · rename_i hp
    obtain ⟨h0, h1, h2, h3⟩ := ptsV_true hp
    obtain ⟨h4, h5⟩ := wk_of h0 (okTr_of h1).2 _ (Nat.le_refl _) h2
    refine ⟨h0, h1, h4, ?_⟩
    rw [if_pos hp, h5, List.take_length]
  · simp at h
theorem end_mk {x y : Int} {l : List Pt} (h1 : okTr l = true) (h4 : ∀ i, i ≤ l.length → okAt x y l i) : endV x y l = (x + gx l, y + gy l, true) := by
  have h0 : okP x y = true := by have := h4 0 (by omega); simpa [okAt, gx, gy] using this
  have h2 := wk_mk (okTr_of h1).2 _ (Nat.le_refl _) h4
  obtain ⟨_, h5⟩ := wk_of h0 (okTr_of h1).2 _ (Nat.le_refl _) h2
  unfold endV ptsV
  rw [h0, h1, h2, h5, List.take_length]
  rfl
theorem gx_app (a b : List Pt) : gx (a ++ b) = gx a + gx b := by simp [gx]
theorem gy_app (a b : List Pt) : gy (a ++ b) = gy a + gy b := by simp [gy]
theorem gx_drop (l : List Pt) (m : Nat) : gx (l.drop m) = gx l - gx (l.take m) := by
  have := gx_app (l.take m) (l.drop m); rw [List.take_append_drop] at this; omega
theorem gy_drop (l : List Pt) (m : Nat) : gy (l.drop m) = gy l - gy (l.take m) := by
  have := gy_app (l.take m) (l.drop m); rw [List.take_append_drop] at this; omega
theorem samePoints_refl {l : List Pt} (hl : l.length ≤ 17592186044416) : EvQ (fun k => laws_samePoints.f k l l) (fun r => r = true) := by
  unfold laws_samePoints.f
  refine EvQ.pos rfl ?_
  refine EvQ.loop (σ := Unit) (g := fun k i _ => laws_samePoints.l0 k l l i) l.length (fun i _ => True) ?_ ?_ 0 () (by omega) trivial
  · rintro i _ hi hI ih
    refine EvQ.step (fun k => by simp only [laws_samePoints.l0]; rfl) ?_
    refine EvQ.pos (by omega) (EvQ.pos (by omega) (EvQ.pos (by omega) (EvQ.neg (by simp) ?_)))
    rw [w64i hi (by omega)]
    exact ih () trivial
  · rintro _ hI
    refine EvQ.step (fun k => by simp only [laws_samePoints.l0]; rfl) ?_
    exact EvQ.neg (by omega) (EvQ.ret rfl)
end Go.Proofs.Ytkafhhiplimniaa.TravA

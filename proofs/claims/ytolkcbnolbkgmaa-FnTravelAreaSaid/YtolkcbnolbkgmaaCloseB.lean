import Derived.Test.YtolkcbnolbkgmaaCloseA
import Derived.Test.YtolkcbnolbkgmaaPx7
set_option linter.unusedVariables false
set_option linter.unusedSimpArgs false
namespace Go.Proofs.Ytolkcbnolbkgmaa.TravA
open Go.RowKit Go.Proofs.Ytolkcbnolbkgmaa.P Go.Proofs.YtolkcbnolbkgmaaW.PrintWords Go.Proofs.YtolkcbnolbkgmaaW.PrintLast Go.Proofs.YtolkcbnolbkgmaaW.PrintMore Go.Proofs.Ytolkcbnolbkgmaa.Ev
theorem closeV_true {l : List Pt} (h : (closeV l).2 = true) : okTr l = true ∧ (Sh.shV (l.map len) (-(gx l))).2 = true ∧ (Sh.shV (l.map len) (-(gy l))).2 = true ∧
    closeV l = (movN l (Sh.shV (l.map len) (-(gx l))).1 (Sh.shV (l.map len) (-(gy l))).1 l.length, true) ∧ okTr (movN l (Sh.shV (l.map len) (-(gx l))).1 (Sh.shV (l.map len) (-(gy l))).1 l.length) = true := by
  unfold closeV at h ⊢
  split at h
  · rename_i h1
    rw [if_pos h1]
    split at h
    · rename_i h2
      rw [if_pos h2]
      rw [Bool.and_eq_true] at h2
      split at h
      · rename_i h3
        rw [if_pos h3]
        exact ⟨h1, h2.1, h2.2, rfl, h3⟩
      · cases h
    · cases h
  · cases h
theorem movN_gx (l : List Pt) (e n : List Int) : ∀ m, m ≤ l.length → m ≤ e.length → gx (movN l e n m) = gx (l.take m) + (e.take m).sum
  | 0, _, _ => by simp [movN, gx]
  | m + 1, h, h2 => by
    have ih := movN_gx l e n m (by omega) (by omega)
    have hm : m < l.length := by omega
    have hm2 : m < e.length := by omega
    rw [movN_succ, gx_succ hm, sum_take_succ hm2]
    have : gx (movN l e n m ++ [⟨(rd_T34 l (m : Int)).f0 + Sh.gt e m, (rd_T34 l (m : Int)).f1 + Sh.gt n m⟩]) = gx (movN l e n m) + ((rd_T34 l (m : Int)).f0 + Sh.gt e m) := by
      unfold gx; rw [List.map_append, List.sum_append]; simp
    rw [this, ih, rdP_get hm, Sh.gt_lt hm2]
    omega
theorem movN_gy (l : List Pt) (e n : List Int) : ∀ m, m ≤ l.length → m ≤ n.length → gy (movN l e n m) = gy (l.take m) + (n.take m).sum
  | 0, _, _ => by simp [movN, gy]
  | m + 1, h, h2 => by
    have ih := movN_gy l e n m (by omega) (by omega)
    have hm : m < l.length := by omega
    have hm2 : m < n.length := by omega
    rw [movN_succ, gy_succ hm, sum_take_succ hm2]
    have : gy (movN l e n m ++ [⟨(rd_T34 l (m : Int)).f0 + Sh.gt e m, (rd_T34 l (m : Int)).f1 + Sh.gt n m⟩]) = gy (movN l e n m) + ((rd_T34 l (m : Int)).f1 + Sh.gt n m) := by
      unfold gy; rw [List.map_append, List.sum_append]; simp
    rw [this, ih, rdP_get hm, Sh.gt_lt hm2]
    omega
theorem close_gap {l : List Pt} (h : (closeV l).2 = true) : gapV (closeV l).1 = (0, 0, true) := by
  obtain ⟨h1, h2, h3, h4, h5⟩ := closeV_true h
  obtain ⟨_, _, a3, a4, _⟩ := Sh.shV_all h2
  obtain ⟨_, _, b3, b4, _⟩ := Sh.shV_all h3
  rw [List.length_map] at a3 b3
  rw [h4]
  simp only []
  unfold gapV
  rw [if_pos h5, movN_gx _ _ _ _ (Nat.le_refl _) (by omega), movN_gy _ _ _ _ (Nat.le_refl _) (by omega), List.take_length, List.take_of_length_le (by omega), List.take_of_length_le (by omega), a4, b4]
  simp only [Prod.mk.injEq, and_true]
  omega
theorem samePoints_refl {l : List Pt} (hl : l.length ≤ 17592186044416) : EvQ (fun k => laws_samePoints.f k l l) (fun r => r = true) := by
  unfold laws_samePoints.f
  refine EvQ.pos rfl ?_
  refine EvQ.loop (σ := Unit) (g := fun k i _ => laws_samePoints.l0 k l l i) l.length (fun i _ => True) ?_ ?_ 0 () (by omega) trivial
  · rintro i _ hi hI ih
    refine EvQ.step (fun k => by simp only [laws_samePoints.l0]; rfl) ?_
    refine EvQ.pos (by omega) (EvQ.pos (by omega) (EvQ.pos (by omega) (EvQ.neg (by simp) ?_)))
    rw [w64i hi (by omega)]
    exact ih () trivial
  · rintro _ hI
    refine EvQ.step (fun k => by simp only [laws_samePoints.l0]; rfl) ?_
    exact EvQ.neg (by omega) (EvQ.ret rfl)
end Go.Proofs.Ytolkcbnolbkgmaa.TravA

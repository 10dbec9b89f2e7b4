import Derived.Test.YtfonigbkoligmaaPx9
import Derived.Test.YtfonigbkoligmaaPolyP
import Derived.Test.YtfonigbkoligmaaPolyO
import Derived.Test.YtfonigbkoligmaaPolyT
import Derived.Test.YtfonigbkoligmaaDrawSplit
set_option linter.unusedVariables false
set_option linter.unusedSimpArgs false
namespace Go.Proofs.Ytfonigbkoligmaa.Pure
open Go.RowKit Go.Proofs.Ytfonigbkoligmaa.P Go.Proofs.YtfonigbkoligmaaW.PrintWords Go.Proofs.Ytfonigbkoligmaa.Ev Go.Proofs.Ytfonigbkoligmaa.Cr Go.Proofs.Ytfonigbkoligmaa.Pick
theorem samePoints_refl {l : List S33} (hl : l.length ≤ 17592186044416) : EvQ (fun k => laws_samePoints.f k l l) (fun r => r = true) := by
  unfold laws_samePoints.f
  refine EvQ.pos rfl ?_
  refine EvQ.loop (σ := Unit) (g := fun k i _ => laws_samePoints.l0 k l l i) l.length (fun i _ => True) ?_ ?_ 0 () (by omega) trivial
  · rintro i _ hi hI ih
    refine EvQ.step (fun k => by simp only [laws_samePoints.l0]; rfl) ?_
    refine EvQ.pos (by omega) (EvQ.pos (by omega) (EvQ.pos (by omega) (EvQ.neg (by simp) ?_)))
    rw [w64i hi (by omega)]
    exact ih () trivial
  · rintro _ hI
    refine EvQ.step (fun k => by simp only [laws_samePoints.l0]; rfl) ?_
    exact EvQ.neg (by omega) (EvQ.ret rfl)
theorem validF {l : List S33} (h : prB l = true) : impl_ParcelValid.f l = some true := by
  unfold impl_ParcelValid.f impl_ParcelValid.v; rw [h]
theorem FnSplit : laws_FnSplit.Pure := by
  intro c _ _ hw
  refine EvQ.rounds (g := fun k => laws_FnSplit.f k c) ?_
  unfold laws_FnSplit.f
  refine EvQ.ite (fun _ => EvQ.ret rfl) (fun _ => ?_)
  unfold spec_DrawParcelSplit.f
  refine drawnSplit hw (fun l i j h12 hi hj => ?_)
  unfold Idx at hi hj
  simp only []
  have hl1 : (splitV l i j).1.length ≤ 1000 ∧ (splitV l i j).2.1.length ≤ 1000 := by
    unfold splitV
    split
    · unfold partA partB; simp; omega
    · simp
  refine EvQ.call (splitQ l i j) (EvQ.call (splitS (by omega) (by omega) (by omega)) (EvQ.neg (by simp) ?_))
  refine EvQ.call (samePoints_refl (by omega)) (EvQ.pos rfl (EvQ.call (samePoints_refl (by omega)) (EvQ.pos rfl ?_)))
  refine EvQ.step (fun k => by simp only [laws_FnSplit.j0]; rfl) ?_
  refine EvQ.ite (fun _ => EvQ.pos (by simp) (EvQ.call (samePoints_refl (by omega)) (EvQ.pos rfl (EvQ.call (samePoints_refl (by omega)) (EvQ.ret rfl))))) (fun h => ?_)
  have hs : (splitV l i j).2.2 = true := by simpa using h
  have hc : prB l = true ∧ 0 ≤ i ∧ i < j ∧ j < (l.length : Int) ∧ prB (partA l i.toNat j.toNat) = true ∧ prB (partB l i.toNat j.toNat) = true := by
    unfold splitV at hs
    split at hs
    · assumption
    · cases hs
  have e : splitV l i j = (partA l i.toNat j.toNat, partB l i.toNat j.toNat, true) := by unfold splitV; rw [if_pos hc]
  rw [e]
  obtain ⟨p0, i0, ij, jl, pa, pb⟩ := hc
  obtain ⟨m, rfl⟩ := Int.eq_ofNat_of_zero_le i0
  obtain ⟨n, rfl⟩ := Int.eq_ofNat_of_zero_le (show 0 ≤ j by omega)
  simp only [Int.toNat_natCast] at pa pb ⊢
  have hmn : m < n := by omega
  have hn : n < l.length := by omega
  have va := okB_vd (prB_ok pa)
  have vb := okB_vd (prB_ok pb)
  have vl := okB_vd (prB_ok p0)
  have hA := area_parts hmn hn
  have ba := (area_eq va).2
  have bb := (area_eq vb).2
  have hp := (vdB_ok vl).2.2
  have pm := hp m (by omega)
  have pn := hp n hn
  have gb := gap_bound (a := l.getD m z33) (b := l.getD n z33) pm pn
  have hg : impl_PointGaps.f (rd_T33 l (m : Int)).f0 (rd_T33 l (m : Int)).f1 (rd_T33 l (n : Int)).f0 (rd_T33 l (n : Int)).f1 = some (gapP (l.getD m z33) (l.getD n z33)) := by
    show some (gpI _ _ _ _) = _
    unfold gpI
    rw [if_pos ⟨by rw [inR_P]; exact pm, by rw [inR_P]; exact pn⟩]
    rfl
  obtain ⟨x, hx, ex⟩ := inside pa
  obtain ⟨y, hy, ey⟩ := inside pb
  obtain ⟨z, hz, ez⟩ := inside p0
  have hE : edge (partA l m n) + edge (partB l m n) = edge l + 2 * gapP (l.getD m z33) (l.getD n z33) := by
    obtain ⟨A, B, C, p, q, h1, h2, h3, _, h5, h6⟩ := parts hmn hn
    unfold edge
    rw [h2, h3, cycE_split, ← h1, ← h5, ← h6, gapP_flip p q]
    omega
  have ez1 := (edge_sg va).2
  have ez2 := (edge_sg vb).2
  have ez3 := (edge_sg vl).2
  have bl := (area_eq vl).2
  refine EvQ.bindc (polyArea va) (EvQ.bindc (polyArea vb) (EvQ.bindc (polyArea vl) ?_))
  refine EvQ.pos (by omega) (EvQ.pos (by omega) (EvQ.pos (by omega) (EvQ.pos (by omega) (EvQ.bindc hg ?_))))
  simp only []
  rw [w64 (n := area (partA l m n) + area (partB l m n)) (by omega) (by omega)]
  refine EvQ.pos trivial (EvQ.pos trivial (EvQ.pos trivial (EvQ.pos hA (EvQ.bindc (validF pa) (EvQ.pos rfl (EvQ.bindc (validF pb) (EvQ.pos rfl ?_)))))))
  refine EvQ.bindc hx (EvQ.bindc hy (EvQ.bindc hz ?_))
  rw [w64 (n := x + y) (by omega) (by omega), w64 (n := x + y + _) (by omega) (by omega), w64 (n := x + y + _ - 1) (by omega) (by omega)]
  refine EvQ.pos (by omega) (EvQ.bindc (common hmn hn p0 pa pb) (EvQ.ret (by simp)))
end Go.Proofs.Ytfonigbkoligmaa.Pure

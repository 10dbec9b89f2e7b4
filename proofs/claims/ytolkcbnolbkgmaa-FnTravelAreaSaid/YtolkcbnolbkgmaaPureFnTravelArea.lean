import Derived.Test.YtolkcbnolbkgmaaPx8
import Derived.Test.YtolkcbnolbkgmaaAreaA
import Derived.Test.YtolkcbnolbkgmaaDrawClose
set_option linter.unusedVariables false
set_option linter.unusedSimpArgs false
namespace Go.Proofs.Ytolkcbnolbkgmaa.Pure
open Go.RowKit Go.Proofs.Ytolkcbnolbkgmaa.P Go.Proofs.YtolkcbnolbkgmaaW.PrintWords Go.Proofs.Ytolkcbnolbkgmaa.Ev Go.Proofs.Ytolkcbnolbkgmaa.TravA Go.Proofs.Ytolkcbnolbkgmaa.Pick
theorem FnTravelArea : laws_FnTravelArea.Pure := by
  intro c _ _ hw
  refine EvQ.rounds (g := fun k => laws_FnTravelArea.f k c) ?_
  unfold laws_FnTravelArea.f
  refine EvQ.ite (fun _ => EvQ.ret rfl) (fun _ => ?_)
  unfold spec_DrawTravelClose.f
  refine drawnTravel hw (fun l h6 => ?_)
  have hl : l.length ≤ 1048576 := by omega
  have hpl := closeV_len hl
  refine EvQ.call (implClose hl) (EvQ.call (specClose hl) (EvQ.neg (by simp) ?_))
  refine EvQ.call (samePoints_refl (by omega)) (EvQ.pos rfl ?_)
  refine EvQ.step (fun k => by simp only [laws_FnTravelArea.j0]; rfl) ?_
  refine EvQ.ite (fun _ => EvQ.pos (by simp) (EvQ.call (samePoints_refl (by omega)) (EvQ.ret rfl))) (fun h => ?_)
  have h : (closeV l).2 = true := by simpa using h
  obtain ⟨h1, h2, h3, h4, h5⟩ := closeV_true h
  have hgap := close_gap h
  have hcl : (closeV l).1.length = l.length := by rw [h4]; exact movN_len _ _ _ _
  have ho : okTr (closeV l).1 = true := by rw [h4]; exact h5
  unfold gapV at hgap
  rw [if_pos ho] at hgap
  simp only [Prod.mk.injEq, and_true] at hgap
  generalize (closeV l).1 = o at *
  obtain ⟨hn, hT⟩ := okTr_of ho
  have hend : ∀ x : List Pt, EvQ (fun k => laws_FnTravelArea.j1 k l o x true) (fun r => r = true) := fun x => by
    refine EvQ.step (fun k => by simp only [laws_FnTravelArea.j1]; rfl) ?_
    refine EvQ.pos trivial (EvQ.ret ?_)
    rw [hcl]; simp
  refine EvQ.call (implPoints 0 0 (by omega)) (EvQ.ite (fun _ => hend _) (fun hlen => ?_))
  cases hq : (ptsV 0 0 o).2 with
  | false => exact hend _
  | true =>
    obtain ⟨_, _, hk, hp⟩ := ptsV_true hq
    rw [hp]
    simp only []
    have h0 : okP 0 0 = true := by decide
    have hpt := (wk_of h0 hT o.length (Nat.le_refl _) hk).1
    refine EvQ.step (fun k => by simp only [laws_FnTravelArea.j1]; rfl) ?_
    refine EvQ.neg (by simp) (EvQ.pos (by omega) (EvQ.pos (by rw [wkP_length]; omega) ?_))
    rw [Int.toNat_natCast]
    refine EvQ.bindc (area_sum ho (by omega) hk hgap.1 hgap.2) ?_
    refine EvQ.loop (σ := Int) (g := fun k i s => laws_FnTravelArea.l0 k o (wkP o 0 0 o.length) (sN o o.length) true s i) o.length (fun i s => s = sN o i) ?_ ?_ 0 0 (by omega) (by simp [sN])
    · rintro i _ hi rfl ih
      have b0 := sN_bound ho hpt i (by omega)
      have b := sN_bound ho hpt (i + 1) (by omega)
      have hpi := okP_iff.1 (hpt i (by omega))
      have ht := okT_of (hT _ (List.getElem_mem hi))
      have m1 := mul_range (x := gx (o.take i)) (y := o[i].f1) (a := 10000) (b := 20000) (by omega) (by omega)
      have m2 := mul_range (x := gy (o.take i)) (y := o[i].f0) (a := 10000) (b := 20000) (by omega) (by omega)
      have hs : sN o (i + 1) = sN o i + gx (o.take i) * o[i].f1 - gy (o.take i) * o[i].f0 := by rw [sN, rdP_get hi]
      rw [hs] at b
      refine EvQ.step (fun k => by simp only [laws_FnTravelArea.l0]; rfl) ?_
      refine EvQ.pos (by omega) (EvQ.pos (by omega) (EvQ.pos (by rw [wkP_length]; omega) ?_))
      rw [pts_rd ho hk (by omega), rdP_get hi]
      simp only []
      rw [w64 (n := gx (o.take i) * o[i].f1) (by omega) (by omega), w64 (n := gy (o.take i) * o[i].f0) (by omega) (by omega), w64 (n := sN o i + gx (o.take i) * o[i].f1) (by omega) (by omega), w64 (n := sN o i + gx (o.take i) * o[i].f1 - gy (o.take i) * o[i].f0) (by omega) (by omega), w64i hi (by omega)]
      exact ih _ hs.symm
    · rintro _ rfl
      refine EvQ.step (fun k => by simp only [laws_FnTravelArea.l0]; rfl) ?_
      refine EvQ.neg (by omega) (EvQ.pos trivial (EvQ.pos trivial (EvQ.pos (by omega) (EvQ.pos (by rw [wkP_length]; omega) (EvQ.ret ?_)))))
      rw [pts_rd ho hk (Nat.le_refl _), List.take_length, hgap.1, hgap.2]
      rfl
end Go.Proofs.Ytolkcbnolbkgmaa.Pure

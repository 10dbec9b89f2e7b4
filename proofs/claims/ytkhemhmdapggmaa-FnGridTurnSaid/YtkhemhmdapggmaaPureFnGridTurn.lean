/- A turned grid has the same contours: for all codes. No condition is added. -/
import Derived.Test.YtkhemhmdapggmaaPx40
import Derived.Test.YtkhemhmdapggmaaGridN
import Derived.Test.YtkhemhmdapggmaaPx39
set_option linter.unusedVariables false
set_option linter.unusedSimpArgs false
namespace Go.Proofs.Ytkhemhmdapggmaa.Pure
open Go.RowKit Go.Proofs.Ytkhemhmdapggmaa.P Go.Proofs.YtkhemhmdapggmaaW.PrintWords Go.Proofs.YtkhemhmdapggmaaW.PrintLast Go.Proofs.Ytkhemhmdapggmaa.Ev Go.Proofs.Ytkhemhmdapggmaa.Ints Go.Proofs.Ytkhemhmdapggmaa.GridA Go.Proofs.Ytkhemhmdapggmaa.Pick
theorem sameInts_refl {a : List Int} (hl : a.length ≤ 17592186044416) : EvQ (fun k => laws_sameInts.f k a a) (fun r => r = true) := by
  unfold laws_sameInts.f
  refine EvQ.pos rfl ?_
  refine EvQ.loop (σ := Unit) (g := fun k i _ => laws_sameInts.l0 k a a i) a.length (fun i _ => True) ?_ ?_ 0 () (by omega) trivial
  · rintro i _ hi hI ih
    refine EvQ.step (fun k => by simp only [laws_sameInts.l0]; rfl) ?_
    refine EvQ.pos (by omega) (EvQ.pos (by omega) (EvQ.pos (by omega) (EvQ.pos (by simp) ?_)))
    rw [w64i hi (by omega)]
    exact ih () trivial
  · rintro _ hI
    refine EvQ.step (fun k => by simp only [laws_sameInts.l0]; rfl) ?_
    exact EvQ.neg (by omega) (EvQ.ret rfl)
theorem sameRows_refl {a : List (List Int)} (ha : Fit a) : EvQ (fun k => laws_sameRows.f k a a) (fun r => r = true) := by
  have hl := ha.1
  unfold laws_sameRows.f
  refine EvQ.pos rfl ?_
  refine EvQ.loop (σ := Unit) (g := fun k i _ => laws_sameRows.l0 k a a i) a.length (fun i _ => True) ?_ ?_ 0 () (by omega) trivial
  · rintro i _ hi hI ih
    have hr := ha.2 _ (List.getElem_mem hi)
    refine EvQ.step (fun k => by simp only [laws_sameRows.l0]; rfl) ?_
    refine EvQ.pos (by omega) (EvQ.pos (by omega) (EvQ.pos (by omega) ?_))
    rw [rdSS_get hi]
    refine EvQ.call (sameInts_refl (by omega)) (EvQ.pos rfl ?_)
    rw [w64i hi (by omega)]
    exact ih () trivial
  · rintro _ hI
    refine EvQ.step (fun k => by simp only [laws_sameRows.l0]; rfl) ?_
    exact EvQ.neg (by omega) (EvQ.ret rfl)
theorem okG_fit {g : List (List Int)} (h : okG g = true) : Fit g := by
  obtain ⟨h1, h2, h3⟩ := okG_of h
  exact ⟨by omega, fun r hr => by have := (h3 r hr).1; omega⟩
theorem FnGridTurn : laws_FnGridTurn.Pure := by
  intro l m _ hl1 hwf _ hm1 hwm
  refine EvQ.rounds (g := fun k => laws_FnGridTurn.f k l m) ?_
  unfold laws_FnGridTurn.f
  have hj : ∀ b : Bool, EvQ (fun k => laws_FnGridTurn.j0 k l m b) (fun r => r = true) := by
    intro b
    refine EvQ.step (fun k => by simp only [laws_FnGridTurn.j0]; rfl) ?_
    refine EvQ.ite (fun _ => EvQ.ret rfl) (fun _ => ?_)
    unfold spec_DrawGridTurn.f
    refine drawnG hwf (fun g => ?_)
    refine EvQ.call (implTurn g) (EvQ.call (specTurn g) (EvQ.neg (by simp) ?_))
    by_cases h : okG g = true
    · have ht := tr_ok h
      have e : turnV g = (tr g, true) := by unfold turnV; rw [if_pos h]
      have e2 : turnV (tr g) = (g, true) := by unfold turnV; rw [if_pos ht, tr_tr h]
      rw [e]
      refine EvQ.call (sameRows_refl (okG_fit ht)) (EvQ.pos rfl ?_)
      refine EvQ.step (fun k => by simp only [laws_FnGridTurn.j1]; rfl) ?_
      refine EvQ.neg (by simp) (EvQ.call (implTurn (tr g)) ?_)
      rw [e2]
      refine EvQ.pos rfl (EvQ.call (sameRows_refl (okG_fit h)) (EvQ.pos rfl ?_))
      generalize (m.length : Int) % 14 = lv
      refine EvQ.call (implHigh (tr g) lv) (EvQ.call (implHigh g lv) (EvQ.pos ?_ ?_))
      · unfold highV; rw [if_pos h, if_pos ht, high_tr h]
      refine EvQ.call (implCuts (tr g) lv) (EvQ.call (implCuts g lv) (EvQ.pos ?_ ?_))
      · unfold cutsV; rw [if_pos h, if_pos ht, pairs_tr h]
      refine EvQ.call (implLines (tr g) lv) (EvQ.call (implLines g lv) (EvQ.pos ?_ ?_))
      · unfold linesV; rw [if_pos h, if_pos ht, lines_tr h]
      refine EvQ.call (implRidge (tr g) lv) (EvQ.call (implRidge g lv) (EvQ.ret ?_))
      unfold ridgeV; rw [if_pos h, if_pos ht, pairs_tr h, beq_iff_eq]
    · have e : turnV g = ([], false) := by unfold turnV; rw [if_neg h]
      have hf : Fit ([] : List (List Int)) := ⟨by simp, by simp⟩
      rw [e]
      refine EvQ.call (sameRows_refl hf) (EvQ.pos rfl ?_)
      refine EvQ.step (fun k => by simp only [laws_FnGridTurn.j1]; rfl) ?_
      exact EvQ.pos (by simp) (EvQ.pos (by simp) (EvQ.call (sameRows_refl hf) (EvQ.ret rfl)))
  exact EvQ.ite (fun _ => hj _) (fun _ => hj _)
end Go.Proofs.Ytkhemhmdapggmaa.Pure

/- The plan does no more work than it must, joins what has too much with what misses some, and is short: for all codes. No condition is added. -/
import Derived.Test.YtekgcfjoimdecaaPx34
import Derived.Test.YtekgcfjoimdecaaHaulF
import Derived.Test.YtekgcfjoimdecaaHaulH
import Derived.Test.YtekgcfjoimdecaaDrawStations
import Derived.Test.YtekgcfjoimdecaaPx33
set_option linter.unusedVariables false
namespace Go.Proofs.Ytekgcfjoimdecaa.Pure
open Go.RowKit Go.Proofs.Ytekgcfjoimdecaa.P Go.Proofs.YtekgcfjoimdecaaW.PrintWords Go.Proofs.YtekgcfjoimdecaaW.PrintMore Go.Proofs.Ytekgcfjoimdecaa.Ev Go.Proofs.Ytekgcfjoimdecaa.HaulA Go.Proofs.Ytekgcfjoimdecaa.Pick
theorem sameHauls_refl {l : List Haul} (hl : l.length ≤ 17592186044416) : EvQ (fun k => laws_sameHauls.f k l l) (fun r => r = true) := by
  unfold laws_sameHauls.f
  refine EvQ.pos rfl ?_
  refine EvQ.loop (σ := Unit) (g := fun k i _ => laws_sameHauls.l0 k l l i) l.length (fun i _ => True) ?_ ?_ 0 () (by omega) trivial
  · rintro i _ hi hI ih
    refine EvQ.step (fun k => by simp only [laws_sameHauls.l0]; rfl) ?_
    refine EvQ.pos (by omega) (EvQ.pos (by omega) (EvQ.pos (by omega) (EvQ.neg (by simp) ?_)))
    rw [w64i hi (by omega)]
    exact ih () trivial
  · rintro _ hI
    refine EvQ.step (fun k => by simp only [laws_sameHauls.l0]; rfl) ?_
    exact EvQ.neg (by omega) (EvQ.ret rfl)
theorem FnHaulPlan : laws_FnHaulPlan.Pure := by
  intro l _ hl1 hwf
  refine EvQ.rounds (g := fun k => laws_FnHaulPlan.f k l) ?_
  unfold laws_FnHaulPlan.f
  refine EvQ.ite (fun _ => EvQ.ret rfl) (fun _ => ?_)
  unfold spec_DrawHaulPlan.f
  refine drawn hwf (fun s hs => ?_)
  have hl : Len s := by unfold Len; omega
  have hpl := plan_length s
  refine EvQ.call (implPlan hl) (EvQ.call (specPlan hl) (EvQ.neg (by simp) ?_))
  refine EvQ.call (sameHauls_refl (by simp only []; omega)) (EvQ.pos rfl ?_)
  refine EvQ.step (fun k => by simp only [laws_FnHaulPlan.j0]; rfl) ?_
  by_cases hb : bal s = true
  · obtain ⟨h1, h2, h3, h4⟩ := plan_all hb
    obtain ⟨_, _, h5, _⟩ := planOk_of h1
    refine EvQ.neg (by simp [hb]) ?_
    refine EvQ.loop (σ := Unit) (g := fun k i _ => laws_FnHaulPlan.l0 k s (plan s) i) (plan s).length (fun _ _ => True) ?_ ?_ 0 () (by omega) trivial
    · rintro i _ hi _ ih
      have hm := h4 _ (List.getElem_mem hi)
      have hvv := hv_of (all_get h5 hi)
      refine EvQ.step (fun k => by simp only [laws_FnHaulPlan.l0]; rfl) ?_
      rw [rdH_get hi, w64i hi (by omega)]
      refine EvQ.pos (by omega) (EvQ.pos (by omega) (EvQ.pos (by omega) (EvQ.pos (by omega) (EvQ.neg (by omega) (EvQ.pos (by omega) (EvQ.pos (by omega) (EvQ.neg (by omega) ?_)))))))
      exact ih () trivial
    · rintro _ _
      refine EvQ.step (fun k => by simp only [laws_FnHaulPlan.l0]; rfl) ?_
      refine EvQ.neg (by omega) ?_
      refine EvQ.call (implOk hl (by omega)) (EvQ.pos h1 ?_)
      refine EvQ.call (implCost hl (by omega)) (EvQ.call (implWork hl) ?_)
      refine EvQ.pos (by unfold cost; rw [h1]; exact h2) (EvQ.ret ?_)
      exact decide_eq_true (by omega)
  · refine EvQ.pos (by simpa using hb) (EvQ.pos (by simp) ?_)
    exact EvQ.call (sameHauls_refl (by omega)) (EvQ.ret rfl)
end Go.Proofs.Ytekgcfjoimdecaa.Pure

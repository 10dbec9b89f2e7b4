/- The program's HaulPlan returns what the reference's returns, for all arguments of at most 2^20 numbers (above, the statement says nothing), and its result shares no memory. No condition is added. -/
import Derived.Test.YtekgcfjoimdecaaPx30
import Derived.Test.YtekgcfjoimdecaaHaulF
import Derived.Test.YtekgcfjoimdecaaHaulG
import Derived.Test.YtekgcfjoimdecaaHauls
import Derived.Test.YtekgcfjoimdecaaInts
namespace Go.Proofs.Ytekgcfjoimdecaa.Pure
open Go.RowKit Go.Proofs.Ytekgcfjoimdecaa.P Go.Proofs.Ytekgcfjoimdecaa.Ev Go.Proofs.Ytekgcfjoimdecaa.HaulA Go.Proofs.Ytekgcfjoimdecaa.Ints
theorem FnExactHaulPlan : laws_FnExactHaulPlan.Pure := by
  intro l _ hl8 _
  have hl : Len l := by unfold Len; omega
  refine EvQ.rounds (g := fun k => laws_FnExactHaulPlan.f k l) ?_
  unfold laws_FnExactHaulPlan.f
  refine EvQ.ite (fun _ => EvQ.ret rfl) (fun h => ?_)
  have hc := plan_length l
  refine EvQ.call (toIntS (by omega)) (EvQ.call (specPlan hl) (EvQ.call (toIntS (by omega)) (EvQ.call (implPlan hl) (EvQ.call (eqHaulS_refl (by first | omega | (simp only []; omega)) rfl) (EvQ.pos rfl ?_)))))
  refine EvQ.step (fun k => by simp only [laws_FnExactHaulPlan.j0]; rfl) ?_
  refine EvQ.neg (by simp) ?_
  refine EvQ.call (toIntS (by omega)) (EvQ.call (eqIntS_refl (by omega) rfl) (EvQ.pos rfl ?_))
  refine EvQ.call (markIntS (by omega) (by omega) (by omega)) (EvQ.neg (by first | omega | (simp only []; omega)) ?_)
  refine EvQ.call (eqHaulS_refl (by first | omega | (simp only []; omega)) rfl) (EvQ.pos rfl ?_)
  refine EvQ.step (fun k => by simp only [laws_FnExactHaulPlan.j1]; rfl) ?_
  refine EvQ.neg (by simp) ?_
  refine EvQ.call (markHaulS (by omega)) ?_
  refine EvQ.call (heldHaulS (by omega)) (EvQ.neg (by first | omega | (simp only []; omega)) (EvQ.pos rfl ?_))
  refine EvQ.call (toIntS (by omega)) (EvQ.call (implPlan hl) (EvQ.call (eqHaulS_refl (by first | omega | (simp only []; omega)) rfl) (EvQ.pos rfl ?_)))
  refine EvQ.step (fun k => by simp only [laws_FnExactHaulPlan.j2]; rfl) ?_
  refine EvQ.neg (by simp) ?_
  exact EvQ.call (heldHaulS (by omega)) (EvQ.neg (by first | omega | (simp only []; omega)) (EvQ.pos rfl (EvQ.ret rfl)))
end Go.Proofs.Ytekgcfjoimdecaa.Pure

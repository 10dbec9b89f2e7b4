/- The program's HaulCurve returns what the reference's returns, for all arguments of at most 2^20 numbers (above, the statement says nothing), and its result shares no memory. No condition is added. -/
import Derived.Test.YtekgcfjoimdecaaPx4
import Derived.Test.YtekgcfjoimdecaaHaulA
import Derived.Test.YtekgcfjoimdecaaInts
namespace Go.Proofs.Ytekgcfjoimdecaa.Pure
open Go.RowKit Go.Proofs.Ytekgcfjoimdecaa.P Go.Proofs.Ytekgcfjoimdecaa.Ev Go.Proofs.Ytekgcfjoimdecaa.HaulA Go.Proofs.Ytekgcfjoimdecaa.Ints
theorem curve_length {l : List Int} (hl : l.length ≤ 1048576) : (curve l).1.length ≤ 1048576 := by
  unfold curve; split
  · rw [pre_length]; exact hl
  · simp
theorem FnExactHaulCurve : laws_FnExactHaulCurve.Pure := by
  intro l _ hl8 _
  have hl : Len l := by unfold Len; omega
  refine EvQ.rounds (g := fun k => laws_FnExactHaulCurve.f k l) ?_
  unfold laws_FnExactHaulCurve.f
  refine EvQ.ite (fun _ => EvQ.ret rfl) (fun h => ?_)
  have hc := curve_length (l := l) (by omega)
  refine EvQ.call (toIntS (by omega)) (EvQ.call (specCurve hl) (EvQ.call (toIntS (by omega)) (EvQ.call (implCurve hl) (EvQ.call (eqIntS_refl (by omega) rfl) (EvQ.pos rfl ?_)))))
  refine EvQ.step (fun k => by simp only [laws_FnExactHaulCurve.j0]; rfl) ?_
  refine EvQ.neg (by simp) ?_
  refine EvQ.call (toIntS (by omega)) (EvQ.call (eqIntS_refl (by omega) rfl) (EvQ.pos rfl ?_))
  refine EvQ.call (markIntS (by omega) (by omega) (by omega)) (EvQ.neg (by simp only []; omega) ?_)
  refine EvQ.call (eqIntS_refl (by omega) rfl) (EvQ.pos rfl ?_)
  refine EvQ.step (fun k => by simp only [laws_FnExactHaulCurve.j1]; rfl) ?_
  refine EvQ.neg (by simp) ?_
  refine EvQ.call (markIntS (by omega) (by omega) (by omega)) ?_
  refine EvQ.call (heldIntS (by omega) (by omega) (by omega)) (EvQ.neg (by omega) (EvQ.pos rfl ?_))
  refine EvQ.call (toIntS (by omega)) (EvQ.call (implCurve hl) (EvQ.call (eqIntS_refl (by omega) rfl) (EvQ.pos rfl ?_)))
  refine EvQ.step (fun k => by simp only [laws_FnExactHaulCurve.j2]; rfl) ?_
  refine EvQ.neg (by simp) ?_
  exact EvQ.call (heldIntS (by omega) (by omega) (by omega)) (EvQ.neg (by omega) (EvQ.pos rfl (EvQ.ret rfl)))
end Go.Proofs.Ytekgcfjoimdecaa.Pure

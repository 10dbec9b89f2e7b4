/- The program's HaulWork returns what the reference's returns, for all arguments of at most 2^20 numbers (above, the statement says nothing). No condition is added. -/
import Derived.Test.YtekgcfjoimdecaaPx5
import Derived.Test.YtekgcfjoimdecaaHaulB
import Derived.Test.YtekgcfjoimdecaaInts
namespace Go.Proofs.Ytekgcfjoimdecaa.Pure
open Go.RowKit Go.Proofs.Ytekgcfjoimdecaa.P Go.Proofs.Ytekgcfjoimdecaa.Ev Go.Proofs.Ytekgcfjoimdecaa.HaulA Go.Proofs.Ytekgcfjoimdecaa.Ints
theorem FnExactHaulWork : laws_FnExactHaulWork.Pure := by
  intro l _ hl8 _
  have hl : Len l := by unfold Len; omega
  refine EvQ.rounds (g := fun k => laws_FnExactHaulWork.f k l) ?_
  unfold laws_FnExactHaulWork.f
  refine EvQ.ite (fun _ => EvQ.ret rfl) (fun h => ?_)
  refine EvQ.call (toIntS (by omega)) (EvQ.call (specWork hl) (EvQ.call (toIntS (by omega)) (EvQ.call (implWork hl) ?_)))
  refine EvQ.pos rfl ?_
  exact EvQ.call (toIntS (by omega)) (EvQ.call (eqIntS_refl (by omega) rfl) (EvQ.pos rfl (EvQ.ret rfl)))
end Go.Proofs.Ytekgcfjoimdecaa.Pure

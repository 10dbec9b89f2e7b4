/- The program's HaulBalanced returns what the reference's returns, for all arguments of at most 2^20 numbers (above, the statement says nothing). No condition is added. -/
import Derived.Test.YtekgcfjoimdecaaPx3
import Derived.Test.YtekgcfjoimdecaaHaulA
import Derived.Test.YtekgcfjoimdecaaInts
namespace Go.Proofs.Ytekgcfjoimdecaa.Pure
open Go.RowKit Go.Proofs.Ytekgcfjoimdecaa.P Go.Proofs.Ytekgcfjoimdecaa.Ev Go.Proofs.Ytekgcfjoimdecaa.HaulA Go.Proofs.Ytekgcfjoimdecaa.Ints
theorem FnExactHaulBalanced : laws_FnExactHaulBalanced.Pure := by
  intro l _ hl8 _
  have hl : Len l := by unfold Len; omega
  refine EvQ.rounds (g := fun k => laws_FnExactHaulBalanced.f k l) ?_
  unfold laws_FnExactHaulBalanced.f
  refine EvQ.ite (fun _ => EvQ.ret rfl) (fun h => ?_)
  refine EvQ.call (toIntS (by omega)) (EvQ.call (specBalanced hl) (EvQ.call (toIntS (by omega)) (EvQ.call (implBalanced hl) ?_)))
  refine EvQ.neg (by simp) ?_
  exact EvQ.call (toIntS (by omega)) (EvQ.call (eqIntS_refl (by omega) rfl) (EvQ.pos rfl (EvQ.ret rfl)))
end Go.Proofs.Ytekgcfjoimdecaa.Pure

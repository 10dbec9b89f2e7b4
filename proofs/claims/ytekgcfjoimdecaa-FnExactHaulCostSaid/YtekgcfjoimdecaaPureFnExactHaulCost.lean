/- The program's HaulCost returns what the reference's returns, for all arguments of at most 2^20 values each (above, the statement says nothing). No condition is added. -/
import Derived.Test.YtekgcfjoimdecaaPx25
import Derived.Test.YtekgcfjoimdecaaHauls
import Derived.Test.YtekgcfjoimdecaaInts
namespace Go.Proofs.Ytekgcfjoimdecaa.Pure
open Go.RowKit Go.Proofs.Ytekgcfjoimdecaa.P Go.Proofs.Ytekgcfjoimdecaa.Ev Go.Proofs.Ytekgcfjoimdecaa.HaulA Go.Proofs.Ytekgcfjoimdecaa.Ints
theorem FnExactHaulCost : laws_FnExactHaulCost.Pure := by
  intro l plan _ _ hp _
  refine EvQ.rounds (g := fun k => laws_FnExactHaulCost.f k l plan) ?_
  unfold laws_FnExactHaulCost.f
  refine EvQ.ite (fun _ => EvQ.ret rfl) (fun h => ?_)
  refine EvQ.bindc (szHaulS hp) (EvQ.ite (fun _ => EvQ.ret rfl) (fun h2 => ?_))
  have hpl : plan.length ≤ 1048576 := by
    rcases Nat.lt_or_ge 1048576 plan.length with h3 | h3
    · rw [if_pos h3] at h2; omega
    · exact h3
  have hl : Len l := by unfold Len; omega
  have hpm : (plan.map conv).length ≤ 1048576 := by simpa using hpl
  refine EvQ.call (toIntS (by omega)) (EvQ.call (toHaulS hpl) (EvQ.call (specCost hl (by omega)) ?_))
  refine EvQ.call (toIntS (by omega)) (EvQ.call (toHaulS hpl) (EvQ.call (implCost hl (by omega)) (EvQ.pos rfl ?_)))
  refine EvQ.call (toIntS (by omega)) (EvQ.call (eqIntS_refl (by omega) rfl) (EvQ.pos rfl ?_))
  exact EvQ.call (toHaulS hpl) (EvQ.call (eqHaulS_refl (by omega) rfl) (EvQ.pos rfl (EvQ.ret rfl)))
end Go.Proofs.Ytekgcfjoimdecaa.Pure

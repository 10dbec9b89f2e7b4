import Derived.Test.YtfonigbkoligmaaPolyC
import Derived.Test.YtfonigbkoligmaaQuoA
import Derived.Test.YtfonigbkoligmaaPx7
set_option linter.unusedVariables false
set_option linter.unusedSimpArgs false
namespace Go.Proofs.Ytfonigbkoligmaa.Cr
open Go.RowKit Go.Proofs.Ytfonigbkoligmaa.P Go.Proofs.YtfonigbkoligmaaW.PrintWords Go.Proofs.YtfonigbkoligmaaW.PrintLast Go.Proofs.YtfonigbkoligmaaW.PrintMore Go.Proofs.Ytfonigbkoligmaa.Ev
theorem shareQ (l : List S33) (i j : Int) : EvQ (fun k => impl_ParcelShare.f k l i j) (fun r => r = if (splitV l i j).2.2 = true then quoV (area (splitV l i j).1) (area l) else (0, 0, false)) := by
  unfold impl_ParcelShare.f
  refine EvQ.call (splitQ l i j) ?_
  by_cases hs : (splitV l i j).2.2 = true
  · rw [if_pos hs]
    refine EvQ.pos hs ?_
    have hc : prB l = true ∧ 0 ≤ i ∧ i < j ∧ j < (l.length : Int) ∧ prB (partA l i.toNat j.toNat) = true ∧ prB (partB l i.toNat j.toNat) = true := by
      unfold splitV at hs
      split at hs
      · assumption
      · cases hs
    have e : splitV l i j = (partA l i.toNat j.toNat, partB l i.toNat j.toNat, true) := by unfold splitV; rw [if_pos hc]
    rw [e]
    refine EvQ.bindc (polyArea (okB_vd (prB_ok hc.2.2.2.2.1))) (EvQ.bindc (polyArea (okB_vd (prB_ok hc.1))) ?_)
    refine EvQ.call (implQuoOf _ _) (EvQ.ret rfl)
  · rw [if_neg hs]
    exact EvQ.neg hs (EvQ.ret rfl)
end Go.Proofs.Ytfonigbkoligmaa.Cr

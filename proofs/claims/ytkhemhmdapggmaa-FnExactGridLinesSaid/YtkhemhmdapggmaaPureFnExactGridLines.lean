/- The program's GridLines returns what the reference's returns, for all arguments of at most 2^20 values (above, the statement says nothing). No condition is added. -/
import Derived.Test.YtkhemhmdapggmaaPx28
import Derived.Test.YtkhemhmdapggmaaGridD
set_option linter.unusedVariables false
namespace Go.Proofs.Ytkhemhmdapggmaa.Pure
open Go.RowKit Go.Proofs.Ytkhemhmdapggmaa.P Go.Proofs.Ytkhemhmdapggmaa.Ev Go.Proofs.Ytkhemhmdapggmaa.Ints Go.Proofs.Ytkhemhmdapggmaa.GridA
theorem FnExactGridLines : laws_FnExactGridLines.Pure := by
  intro g a hl hw ha
  refine EvQ.rounds (g := fun k => laws_FnExactGridLines.f k g a) ?_
  unfold laws_FnExactGridLines.f
  refine EvQ.bind (szIntSS hl (fun r hr => (hw r hr).1)) (fun t ht => EvQ.ite (fun _ => EvQ.ret rfl) (fun h => ?_))
  have hg : Fit g := ht.resolve_left h
  refine EvQ.call (toIntSS hg) (EvQ.call (specLines g a) ?_)
  refine EvQ.call (toIntSS hg) (EvQ.call (implLines g a) (EvQ.pos rfl ?_))
  exact EvQ.call (toIntSS hg) (EvQ.call (eqIntSS_refl hg rfl) (EvQ.pos rfl (EvQ.ret rfl)))
end Go.Proofs.Ytkhemhmdapggmaa.Pure

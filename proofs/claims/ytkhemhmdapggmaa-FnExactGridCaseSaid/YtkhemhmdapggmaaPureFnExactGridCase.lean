/- The program's GridCase returns what the reference's returns, for all arguments of at most 2^20 values (above, the statement says nothing). No condition is added. -/
import Derived.Test.YtkhemhmdapggmaaPx12
import Derived.Test.YtkhemhmdapggmaaGridD
set_option linter.unusedVariables false
namespace Go.Proofs.Ytkhemhmdapggmaa.Pure
open Go.RowKit Go.Proofs.Ytkhemhmdapggmaa.P Go.Proofs.Ytkhemhmdapggmaa.Ev Go.Proofs.Ytkhemhmdapggmaa.Ints Go.Proofs.Ytkhemhmdapggmaa.GridA
theorem FnExactGridCase : laws_FnExactGridCase.Pure := by
  intro g a b c hl hw ha hb hc
  refine EvQ.rounds (g := fun k => laws_FnExactGridCase.f k g a b c) ?_
  unfold laws_FnExactGridCase.f
  refine EvQ.bind (szIntSS hl (fun r hr => (hw r hr).1)) (fun t ht => EvQ.ite (fun _ => EvQ.ret rfl) (fun h => ?_))
  have hg : Fit g := ht.resolve_left h
  refine EvQ.call (toIntSS hg) (EvQ.call (specCase g a b c) ?_)
  refine EvQ.call (toIntSS hg) (EvQ.call (implCase g a b c) (EvQ.pos rfl ?_))
  exact EvQ.call (toIntSS hg) (EvQ.call (eqIntSS_refl hg rfl) (EvQ.pos rfl (EvQ.ret rfl)))
end Go.Proofs.Ytkhemhmdapggmaa.Pure

/- The program's GridValid returns what the reference's returns, for all arguments of at most 2^20 values (above, the statement says nothing). No condition is added. -/
import Derived.Test.YtkhemhmdapggmaaPx6
import Derived.Test.YtkhemhmdapggmaaGridB
set_option linter.unusedVariables false
namespace Go.Proofs.Ytkhemhmdapggmaa.Pure
open Go.RowKit Go.Proofs.Ytkhemhmdapggmaa.P Go.Proofs.Ytkhemhmdapggmaa.Ev Go.Proofs.Ytkhemhmdapggmaa.Ints Go.Proofs.Ytkhemhmdapggmaa.GridA
theorem FnExactGridValid : laws_FnExactGridValid.Pure := by
  intro g  hl hw
  refine EvQ.rounds (g := fun k => laws_FnExactGridValid.f k g ) ?_
  unfold laws_FnExactGridValid.f
  refine EvQ.bind (szIntSS hl (fun r hr => (hw r hr).1)) (fun t ht => EvQ.ite (fun _ => EvQ.ret rfl) (fun h => ?_))
  have hg : Fit g := ht.resolve_left h
  refine EvQ.call (toIntSS hg) (EvQ.call (specValid g) ?_)
  refine EvQ.call (toIntSS hg) (EvQ.call (implValid g) (EvQ.neg (by simp) ?_))
  exact EvQ.call (toIntSS hg) (EvQ.call (eqIntSS_refl hg rfl) (EvQ.pos rfl (EvQ.ret rfl)))
end Go.Proofs.Ytkhemhmdapggmaa.Pure

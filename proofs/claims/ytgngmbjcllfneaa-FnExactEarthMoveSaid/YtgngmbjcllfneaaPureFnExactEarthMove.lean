/- The program's EarthMove returns what the reference's returns, for all arguments of at most 2^20 values (above, the statement says nothing). No condition is added. -/
import Derived.Test.YtgngmbjcllfneaaPx13
import Derived.Test.YtgngmbjcllfneaaEarthB
set_option linter.unusedVariables false
namespace Go.Proofs.Ytgngmbjcllfneaa.Pure
open Go.RowKit Go.Proofs.Ytgngmbjcllfneaa.P Go.Proofs.Ytgngmbjcllfneaa.Ev Go.Proofs.Ytgngmbjcllfneaa.Ints Go.Proofs.Ytgngmbjcllfneaa.GridA
theorem FnExactEarthMove : laws_FnExactEarthMove.Pure := by
  intro g a hl hw ha
  refine EvQ.rounds (g := fun k => laws_FnExactEarthMove.f k g a) ?_
  unfold laws_FnExactEarthMove.f
  refine EvQ.bind (szIntSS hl (fun r hr => (hw r hr).1)) (fun t ht => EvQ.ite (fun _ => EvQ.ret rfl) (fun h => ?_))
  have hg : Fit g := ht.resolve_left h
  refine EvQ.call (toIntSS hg) (EvQ.call (specMove g a) ?_)
  refine EvQ.call (toIntSS hg) (EvQ.call (implMove g a) (EvQ.pos rfl ?_))
  exact EvQ.call (toIntSS hg) (EvQ.call (eqIntSS_refl hg rfl) (EvQ.pos rfl (EvQ.ret rfl)))
end Go.Proofs.Ytgngmbjcllfneaa.Pure

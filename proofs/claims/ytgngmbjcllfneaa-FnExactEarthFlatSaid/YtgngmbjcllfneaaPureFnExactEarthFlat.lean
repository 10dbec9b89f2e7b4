/- The program's EarthFlat returns what the reference's returns, for all arguments of at most 2^20 values (above, the statement says nothing). No condition is added. -/
import Derived.Test.YtgngmbjcllfneaaPx19
import Derived.Test.YtgngmbjcllfneaaEarthC
set_option linter.unusedVariables false
namespace Go.Proofs.Ytgngmbjcllfneaa.Pure
open Go.RowKit Go.Proofs.Ytgngmbjcllfneaa.P Go.Proofs.Ytgngmbjcllfneaa.Ev Go.Proofs.Ytgngmbjcllfneaa.Ints Go.Proofs.Ytgngmbjcllfneaa.GridA
theorem FnExactEarthFlat : laws_FnExactEarthFlat.Pure := by
  intro g hl hw
  refine EvQ.rounds (g := fun k => laws_FnExactEarthFlat.f k g) ?_
  unfold laws_FnExactEarthFlat.f
  refine EvQ.bind (szIntSS hl (fun r hr => (hw r hr).1)) (fun t ht => EvQ.ite (fun _ => EvQ.ret rfl) (fun h => ?_))
  have hg : Fit g := ht.resolve_left h
  have hj : EvQ (fun k => laws_FnExactEarthFlat.j0 k g g false) (fun r => r = true) := by
    refine EvQ.step (fun k => by simp only [laws_FnExactEarthFlat.j0]; rfl) ?_
    exact EvQ.neg (by simp) (EvQ.call (toIntSS hg) (EvQ.call (eqIntSS_refl hg rfl) (EvQ.pos rfl (EvQ.ret rfl))))
  by_cases ho : okG g = true
  · obtain ⟨v, hv, hi⟩ := flat_ex ho
    refine EvQ.call (toIntSS hg) (EvQ.call (specFlat ho hv) ?_)
    exact EvQ.call (toIntSS hg) (EvQ.call hi (EvQ.pos rfl hj))
  · refine EvQ.call (toIntSS hg) (EvQ.call (specFlat_no ho) ?_)
    exact EvQ.call (toIntSS hg) (EvQ.call (implFlat_no ho) (EvQ.pos rfl hj))
end Go.Proofs.Ytgngmbjcllfneaa.Pure

/- The program's CrossInner returns what the reference's returns, for all arguments. No condition is added. -/
import Derived.Test.YtgoejfdciejikaaPx16
import Derived.Test.YtgoejfdciejikaaCrossB
set_option linter.unusedVariables false
namespace Go.Proofs.Ytgoejfdciejikaa.Pure
open Go.RowKit Go.Proofs.Ytgoejfdciejikaa.P Go.Proofs.Ytgoejfdciejikaa.Ev Go.Proofs.Ytgoejfdciejikaa.Cr
theorem FnExactCrossInner : laws_FnExactCrossInner.Pure := by
  intro ax ay bx by_ cx cy dx dy _ _ _ _ _ _ _ _
  refine EvQ.rounds (g := fun k => laws_FnExactCrossInner.f k ax ay bx by_ cx cy dx dy) ?_
  unfold laws_FnExactCrossInner.f laws_toPoint.f
  refine EvQ.bindc rfl (EvQ.bindc rfl (EvQ.bindc rfl (EvQ.bindc rfl (EvQ.call (specInner _ _ _ _ _ _ _ _) ?_))))
  refine EvQ.bindc rfl (EvQ.bindc rfl (EvQ.bindc rfl (EvQ.bindc rfl (EvQ.bindc (implInner _ _ _ _ _ _ _ _) (EvQ.neg (by simp) (EvQ.ret rfl))))))
end Go.Proofs.Ytgoejfdciejikaa.Pure

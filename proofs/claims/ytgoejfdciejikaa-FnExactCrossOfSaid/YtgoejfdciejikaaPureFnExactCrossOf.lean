/- The program's CrossOf returns what the reference's returns, for all arguments. No condition is added. -/
import Derived.Test.YtgoejfdciejikaaPx23
import Derived.Test.YtgoejfdciejikaaCrossD
set_option linter.unusedVariables false
namespace Go.Proofs.Ytgoejfdciejikaa.Pure
open Go.RowKit Go.Proofs.Ytgoejfdciejikaa.P Go.Proofs.Ytgoejfdciejikaa.Ev Go.Proofs.Ytgoejfdciejikaa.Cr
theorem FnExactCrossOf : laws_FnExactCrossOf.Pure := by
  intro ax ay bx by_ cx cy dx dy _ _ _ _ _ _ _ _
  refine EvQ.rounds (g := fun k => laws_FnExactCrossOf.f k ax ay bx by_ cx cy dx dy) ?_
  unfold laws_FnExactCrossOf.f laws_toPoint.f
  refine EvQ.bindc rfl (EvQ.bindc rfl (EvQ.bindc rfl (EvQ.bindc rfl (EvQ.call (specOf _ _ _ _ _ _ _ _) ?_))))
  refine EvQ.bindc rfl (EvQ.bindc rfl (EvQ.bindc rfl (EvQ.bindc rfl (EvQ.call (implOf _ _ _ _ _ _ _ _) ?_))))
  refine EvQ.bindc (a := true) (by unfold laws_eqQuo.f; rw [if_pos rfl, if_pos rfl]) (EvQ.pos rfl (EvQ.neg (by simp) (EvQ.ret rfl)))
end Go.Proofs.Ytgoejfdciejikaa.Pure

/- The program's CrossSame returns what the reference's returns, for all arguments. No condition is added. -/
import Derived.Test.YtgoejfdciejikaaPx10
import Derived.Test.YtgoejfdciejikaaCrossB
set_option linter.unusedVariables false
namespace Go.Proofs.Ytgoejfdciejikaa.Pure
open Go.RowKit Go.Proofs.Ytgoejfdciejikaa.P Go.Proofs.Ytgoejfdciejikaa.Ev Go.Proofs.Ytgoejfdciejikaa.Cr
theorem FnExactCrossSame : laws_FnExactCrossSame.Pure := by
  intro ax ay bx by_ cx cy dx dy _ _ _ _ _ _ _ _
  unfold laws_FnExactCrossSame.f laws_toPoint.f
  simp only [Option.bind_some]
  rw [implSame, specSame, Option.bind_some, Option.bind_some, if_neg (by simp)]
end Go.Proofs.Ytgoejfdciejikaa.Pure

import Derived.Test.YtppfoebalhdibaaPx5
import Derived.Test.YtppfoebalhdibaaPx4
import Derived.Test.YtppfoebalhdibaaCrossAtP
set_option linter.unusedVariables false
namespace Go.Proofs.Ytppfoebalhdibaa.Pure
open Go.RowKit Go.Proofs.Ytppfoebalhdibaa.P Go.Proofs.Ytppfoebalhdibaa.Ev Go.Proofs.Ytppfoebalhdibaa.Cr
theorem FnExactCrossAt : laws_FnExactCrossAt.Pure := by
  intro ax ay bx by_ cx cy dx dy _ _ _ _ _ _ _ _
  refine EvQ.rounds (g := fun k => laws_FnExactCrossAt.f k ax ay bx by_ cx cy dx dy) ?_
  unfold laws_FnExactCrossAt.f
  have e : ∀ a b : Int, laws_eqQuo.f a b a b = some true := by intro a b; unfold laws_eqQuo.f; rw [if_pos rfl, if_pos rfl]
  exact EvQ.call (specAt _ _ _ _ _ _ _ _) (EvQ.call (implAt _ _ _ _ _ _ _ _) (EvQ.pos ⟨e _ _, e _ _, rfl⟩ (EvQ.ret rfl)))
end Go.Proofs.Ytppfoebalhdibaa.Pure

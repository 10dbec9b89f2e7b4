import Derived.Test.YtolkcbnolbkgmaaPx7
import Derived.Test.YtolkcbnolbkgmaaCloseA
import Derived.Test.YtolkcbnolbkgmaaTravE
set_option linter.unusedVariables false
namespace Go.Proofs.Ytolkcbnolbkgmaa.Pure
open Go.RowKit Go.Proofs.Ytolkcbnolbkgmaa.P Go.Proofs.Ytolkcbnolbkgmaa.Ev Go.Proofs.Ytolkcbnolbkgmaa.TravA
theorem FnExactTravelClose : laws_FnExactTravelClose.Pure := by
  intro l hl _
  refine EvQ.rounds (g := fun k => laws_FnExactTravelClose.f k l) ?_
  unfold laws_FnExactTravelClose.f
  refine EvQ.bindc (szPointS hl) (EvQ.ite (fun _ => EvQ.ret rfl) (fun h => ?_))
  have hp : l.length ≤ 1048576 := by
    rcases Nat.lt_or_ge 1048576 l.length with h3 | h3
    · rw [if_pos h3] at h; omega
    · exact h3
  have hm : (l.map conv).length ≤ 1048576 := by simpa using hp
  have hn : (closeV (l.map conv)).1.length ≤ 1048576 := closeV_len hm
  refine EvQ.call (toPointS hp) (EvQ.call (specClose hm) ?_)
  refine EvQ.call (toPointS hp) (EvQ.call (implClose hm) ?_)
  refine EvQ.call (eqPointS_refl (by omega) rfl) (EvQ.pos rfl ?_)
  refine EvQ.step (fun k => by simp only [laws_FnExactTravelClose.j0]; rfl) ?_
  refine EvQ.neg (by simp) ?_
  refine EvQ.call (toPointS hp) (EvQ.call (eqPointS_refl (by omega) rfl) (EvQ.pos rfl ?_))
  refine EvQ.call (markPointS (by omega)) (EvQ.neg (by simp only []; omega) ?_)
  refine EvQ.call (eqPointS_refl (by omega) rfl) (EvQ.pos rfl ?_)
  refine EvQ.step (fun k => by simp only [laws_FnExactTravelClose.j1]; rfl) ?_
  refine EvQ.neg (by simp) ?_
  refine EvQ.call (markPointS (by omega)) ?_
  refine EvQ.call (heldPointS (by omega)) (EvQ.neg (by omega) (EvQ.pos rfl ?_))
  refine EvQ.call (toPointS hp) (EvQ.call (implClose hm) (EvQ.call (eqPointS_refl (by omega) rfl) (EvQ.pos rfl ?_)))
  refine EvQ.step (fun k => by simp only [laws_FnExactTravelClose.j2]; rfl) ?_
  refine EvQ.neg (by simp) ?_
  exact EvQ.call (heldPointS (by omega)) (EvQ.neg (by omega) (EvQ.pos rfl (EvQ.ret rfl)))
end Go.Proofs.Ytolkcbnolbkgmaa.Pure

/- The program's TravelPoints returns what the reference's returns, for all arguments of at most 2^20 values (above, the statement says nothing), and its result shares no memory. No condition is added. -/
import Derived.Test.YtkafhhiplimniaaPx23
import Derived.Test.YtkafhhiplimniaaTravD
import Derived.Test.YtkafhhiplimniaaTravE
set_option linter.unusedVariables false
namespace Go.Proofs.Ytkafhhiplimniaa.Pure
open Go.RowKit Go.Proofs.Ytkafhhiplimniaa.P Go.Proofs.Ytkafhhiplimniaa.Ev Go.Proofs.Ytkafhhiplimniaa.TravA
theorem FnExactTravelPoints : laws_FnExactTravelPoints.Pure := by
  intro x y l _ _ hl _
  refine EvQ.rounds (g := fun k => laws_FnExactTravelPoints.f k x y l) ?_
  unfold laws_FnExactTravelPoints.f
  refine EvQ.bindc (szPointS hl) (EvQ.ite (fun _ => EvQ.ret rfl) (fun h => ?_))
  have hp : l.length ≤ 1048576 := by
    rcases Nat.lt_or_ge 1048576 l.length with h3 | h3
    · rw [if_pos h3] at h; omega
    · exact h3
  have hm : (l.map conv).length ≤ 1048576 := by simpa using hp
  have hn : (ptsV (x, y).1 (x, y).2 (l.map conv)).1.length ≤ 1048577 := ptsV_len _ _ hm
  have hn2 : (ptsV x y (l.map conv)).1.length ≤ 1048577 := ptsV_len _ _ hm
  refine EvQ.bindc rfl (EvQ.call (toPointS hp) (EvQ.call (specPoints _ _ hm) ?_))
  refine EvQ.call (toPointS hp) (EvQ.bindc rfl (EvQ.call (implPoints _ _ hm) ?_))
  refine EvQ.call (eqPointS_refl (by omega) rfl) (EvQ.pos rfl ?_)
  refine EvQ.step (fun k => by simp only [laws_FnExactTravelPoints.j0]; rfl) ?_
  refine EvQ.neg (by simp) ?_
  refine EvQ.call (toPointS hp) (EvQ.call (eqPointS_refl (by omega) rfl) (EvQ.pos rfl ?_))
  refine EvQ.call (markPointS (by omega)) (EvQ.neg (by simp only []; omega) ?_)
  refine EvQ.call (eqPointS_refl (by omega) rfl) (EvQ.pos rfl ?_)
  refine EvQ.step (fun k => by simp only [laws_FnExactTravelPoints.j1]; rfl) ?_
  refine EvQ.neg (by simp) ?_
  refine EvQ.call (markPointS (by omega)) ?_
  refine EvQ.call (heldPointS (by omega)) (EvQ.neg (by omega) (EvQ.pos rfl ?_))
  refine EvQ.bindc rfl (EvQ.call (toPointS hp) (EvQ.call (implPoints _ _ hm) (EvQ.call (eqPointS_refl (by omega) rfl) (EvQ.pos rfl ?_))))
  refine EvQ.step (fun k => by simp only [laws_FnExactTravelPoints.j2]; rfl) ?_
  refine EvQ.neg (by simp) ?_
  exact EvQ.call (heldPointS (by omega)) (EvQ.neg (by omega) (EvQ.pos rfl (EvQ.ret rfl)))
end Go.Proofs.Ytkafhhiplimniaa.Pure

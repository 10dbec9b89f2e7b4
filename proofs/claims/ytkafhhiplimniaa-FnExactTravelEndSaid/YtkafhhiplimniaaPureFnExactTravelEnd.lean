/- The program's TravelEnd returns what the reference's returns, for all arguments of at most 2^20 values (above, the statement says nothing). No condition is added. -/
import Derived.Test.YtkafhhiplimniaaPx21
import Derived.Test.YtkafhhiplimniaaTravD
set_option linter.unusedVariables false
namespace Go.Proofs.Ytkafhhiplimniaa.Pure
open Go.RowKit Go.Proofs.Ytkafhhiplimniaa.P Go.Proofs.Ytkafhhiplimniaa.Ev Go.Proofs.Ytkafhhiplimniaa.TravA
theorem FnExactTravelEnd : laws_FnExactTravelEnd.Pure := by
  intro x y l _ _ hl _
  refine EvQ.rounds (g := fun k => laws_FnExactTravelEnd.f k x y l) ?_
  unfold laws_FnExactTravelEnd.f
  refine EvQ.bindc (szPointS hl) (EvQ.ite (fun _ => EvQ.ret rfl) (fun h => ?_))
  have hp : l.length ≤ 1048576 := by
    rcases Nat.lt_or_ge 1048576 l.length with h3 | h3
    · rw [if_pos h3] at h; omega
    · exact h3
  have hm : (l.map conv).length ≤ 1048576 := by simpa using hp
  refine EvQ.bindc rfl (EvQ.call (toPointS hp) (EvQ.call (specEnd _ _ hm) ?_))
  refine EvQ.call (toPointS hp) (EvQ.bindc rfl (EvQ.call (implEnd _ _ hm) ?_))
  refine EvQ.bindc (eqPoint_refl ⟨_, _⟩) (EvQ.pos rfl ?_)
  refine EvQ.step (fun k => by simp only [laws_FnExactTravelEnd.j0]; rfl) ?_
  refine EvQ.neg (by simp) ?_
  exact EvQ.call (toPointS hp) (EvQ.call (eqPointS_refl (by omega) rfl) (EvQ.pos rfl (EvQ.ret rfl)))
end Go.Proofs.Ytkafhhiplimniaa.Pure

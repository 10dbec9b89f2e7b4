/- The program's TravelLength returns what the reference's returns, for all arguments of at most 2^20 values (above, the statement says nothing). No condition is added. -/
import Derived.Test.YtkafhhiplimniaaPx11
import Derived.Test.YtkafhhiplimniaaTravB
set_option linter.unusedVariables false
namespace Go.Proofs.Ytkafhhiplimniaa.Pure
open Go.RowKit Go.Proofs.Ytkafhhiplimniaa.P Go.Proofs.Ytkafhhiplimniaa.Ev Go.Proofs.Ytkafhhiplimniaa.TravA
theorem FnExactTravelLength : laws_FnExactTravelLength.Pure := by
  intro l hl _
  refine EvQ.rounds (g := fun k => laws_FnExactTravelLength.f k l) ?_
  unfold laws_FnExactTravelLength.f
  refine EvQ.bindc (szPointS hl) (EvQ.ite (fun _ => EvQ.ret rfl) (fun h => ?_))
  have hp : l.length ≤ 1048576 := by
    rcases Nat.lt_or_ge 1048576 l.length with h3 | h3
    · rw [if_pos h3] at h; omega
    · exact h3
  have hm : (l.map conv).length ≤ 1048576 := by simpa using hp
  refine EvQ.call (toPointS hp) (EvQ.call (specLength hm) ?_)
  refine EvQ.call (toPointS hp) (EvQ.call (implLength hm) (EvQ.pos rfl ?_))
  exact EvQ.call (toPointS hp) (EvQ.call (eqPointS_refl (by omega) rfl) (EvQ.pos rfl (EvQ.ret rfl)))
end Go.Proofs.Ytkafhhiplimniaa.Pure

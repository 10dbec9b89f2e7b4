/- Chapter 34, plain: how far a crossing lies, and where. No program in sight. -/
import Derived.Test.YtgoejfdciejikaaCrossC
import Derived.Test.YtgoejfdciejikaaPx21
import Derived.Test.YtgoejfdciejikaaPx19
set_option linter.unusedVariables false
set_option linter.unusedSimpArgs false
namespace Go.Proofs.Ytgoejfdciejikaa.Cr
open Go.RowKit Go.Proofs.Ytgoejfdciejikaa.P Go.Proofs.YtgoejfdciejikaaW.PrintWords Go.Proofs.YtgoejfdciejikaaW.PrintLast Go.Proofs.YtgoejfdciejikaaW.PrintMore Go.Proofs.Ytgoejfdciejikaa.Ev
def ofV (ax ay bx by_ cx cy dx dy : Int) : Int × Int × Bool := if lnOk ax ay bx by_ cx cy dx dy = true then quoV (pP ax ay bx by_ cx cy dx dy) (pD ax ay bx by_ cx cy dx dy) else (0, 0, false)
theorem implOf (ax ay bx by_ cx cy dx dy : Int) : EvQ (fun k => impl_CrossOf.f k ax ay bx by_ cx cy dx dy) (fun r => r = ofV ax ay bx by_ cx cy dx dy) := by
  unfold impl_CrossOf.f coF ofV
  refine EvQ.ite (fun hl => ?_) (fun hl => EvQ.ret (by rw [if_neg hl]))
  rw [if_pos hl, alI_eq ((lnOk_iff _ _ _ _ _ _ _ _).1 hl), ← quoV_nrm]
  exact implQuoOf _ _
theorem quoV_0 (a : Int) : quoV a 0 = (0, 0, false) := by unfold quoV; rw [if_neg (by simp)]
theorem specOf (ax ay bx by_ cx cy dx dy : Int) : EvQ (fun k => spec_CrossOf.f k ax ay bx by_ cx cy dx dy) (fun r => r = ofV ax ay bx by_ cx cy dx dy) := by
  unfold spec_CrossOf.f ofV
  refine EvQ.bindc (l34Ok _ _ _ _ _ _ _ _) (EvQ.ite (fun hl => ?_) (fun hl => EvQ.ret (by rw [if_neg hl])))
  rw [if_pos hl]
  refine EvQ.bindc (l34Parts ((lnOk_iff _ _ _ _ _ _ _ _).1 hl)) (EvQ.ite (fun h0 => EvQ.ret ?_) (fun h0 => EvQ.call (specQuoOf _ _) (EvQ.ret rfl)))
  have h0 : pD ax ay bx by_ cx cy dx dy = 0 := h0
  rw [h0, quoV_0]
end Go.Proofs.Ytgoejfdciejikaa.Cr

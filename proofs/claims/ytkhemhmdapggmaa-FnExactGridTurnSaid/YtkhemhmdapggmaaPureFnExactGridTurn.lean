/- The program's GridTurn returns what the reference's returns, for all arguments of at most 2^20 values (above, the statement says nothing), and its result shares no memory. No condition is added. -/
import Derived.Test.YtkhemhmdapggmaaPx26
import Derived.Test.YtkhemhmdapggmaaGridT
import Derived.Test.YtkhemhmdapggmaaGridG
set_option linter.unusedVariables false
namespace Go.Proofs.Ytkhemhmdapggmaa.Pure
open Go.RowKit Go.Proofs.Ytkhemhmdapggmaa.P Go.Proofs.Ytkhemhmdapggmaa.Ev Go.Proofs.Ytkhemhmdapggmaa.Ints Go.Proofs.Ytkhemhmdapggmaa.Cr Go.Proofs.Ytkhemhmdapggmaa.Marks
theorem turn_fit (g : List (List Int)) : Fit (turnV g).1 := by
  unfold turnV
  split
  · rename_i h
    obtain ⟨h1, h2, h3⟩ := okG_of h
    unfold Fit
    constructor
    · simp only []; rw [tr_length]; omega
    · intro r hr
      unfold tr at hr
      obtain ⟨j, _, rfl⟩ := List.mem_map.1 hr
      rw [col_length]; omega
  · exact ⟨by simp, by simp⟩
theorem FnExactGridTurn : laws_FnExactGridTurn.Pure := by
  intro g hl hw
  refine EvQ.rounds (g := fun k => laws_FnExactGridTurn.f k g) ?_
  unfold laws_FnExactGridTurn.f
  refine EvQ.bind (szIntSS hl (fun r hr => (hw r hr).1)) (fun s hs => EvQ.ite (fun _ => EvQ.ret rfl) (fun h => ?_))
  have hg : Fit g := hs.resolve_left h
  have ht := turn_fit g
  have b1 := tot_bound hg g.length (Nat.le_refl _)
  have b2 := tot_bound ht _ (Nat.le_refl _)
  rw [List.take_length] at b1 b2
  refine EvQ.call (toIntSS hg) (EvQ.call (specTurn g) (EvQ.call (implTurn g) (EvQ.call (eqIntSS_refl ht rfl) (EvQ.pos ⟨rfl, rfl⟩ ?_))))
  refine EvQ.call (eqIntSS_refl hg rfl) (EvQ.pos rfl (EvQ.call (markSS hg) (EvQ.pos (by simp only []; omega) ?_)))
  refine EvQ.call (markSS ht) (EvQ.call (heldSS ht) (EvQ.pos ⟨by omega, rfl⟩ (EvQ.ret rfl)))
end Go.Proofs.Ytkhemhmdapggmaa.Pure

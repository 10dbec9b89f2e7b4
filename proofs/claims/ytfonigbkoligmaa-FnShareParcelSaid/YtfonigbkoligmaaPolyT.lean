import Derived.Test.YtfonigbkoligmaaPolyS
import Derived.Test.YtfonigbkoligmaaPx9
set_option linter.unusedVariables false
set_option linter.unusedSimpArgs false
namespace Go.Proofs.Ytfonigbkoligmaa.Cr
open Go.RowKit Go.Proofs.Ytfonigbkoligmaa.P Go.Proofs.YtfonigbkoligmaaW.PrintWords Go.Proofs.YtfonigbkoligmaaW.PrintLast Go.Proofs.YtfonigbkoligmaaW.PrintMore Go.Proofs.Ytfonigbkoligmaa.Ev
theorem splitS {l : PtL} {i j : Int} (hl : l.length ≤ 100) (hi : -1000 ≤ i ∧ i ≤ 1000) (hj : -1000 ≤ j ∧ j ≤ 1000) : EvQ (fun k => spec_ParcelSplit.f k l i j) (fun r => r = splitV l i j) := by
  have hno : ∀ b : Bool, b = true → ¬ (prB l = true ∧ 0 ≤ i ∧ i < j ∧ j < (l.length : Int)) → EvQ (fun k => spec_ParcelSplit.j0 k l i j b) (fun r => r = splitV l i j) := by
    rintro _ rfl hn
    refine EvQ.step (fun k => by simp only [spec_ParcelSplit.j0]; rfl) ?_
    refine EvQ.pos trivial (EvQ.ret ?_)
    unfold splitV
    rw [if_neg (fun h => hn ⟨h.1, h.2.1, h.2.2.1, h.2.2.2.1⟩)]
  unfold spec_ParcelSplit.f
  rw [w64 (n := (l.length : Int) - 1) (by omega) (by omega), w64 (n := j - 1) (by omega) (by omega)]
  refine EvQ.call (specParcel (by omega)) (EvQ.ite (fun hp => ?_) (fun hp => hno _ rfl (fun h => hp h.1)))
  refine EvQ.bindc (in_eq _ _ _) (EvQ.ite (fun h0 => ?_) (fun h0 => hno _ rfl (fun h => h0 (by simp; omega))))
  refine EvQ.bindc (in_eq _ _ _) ?_
  by_cases h2 : 0 ≤ i ∧ i ≤ j - 1
  · have h0 : 0 ≤ j ∧ j ≤ (l.length : Int) - 1 := by simpa using h0
    rw [decide_eq_true h2]
    refine EvQ.step (fun k => by simp only [spec_ParcelSplit.j0]; rfl) ?_
    rw [w64 (n := j + 1) (by omega) (by omega), w64 (n := i + 1) (by omega) (by omega)]
    refine EvQ.neg (by simp) (EvQ.bindc rfl ?_)
    refine EvQ.pos (by omega) (EvQ.pos (by omega) (EvQ.pos (by omega) (EvQ.bindc rfl (EvQ.pos (by simp; omega) (EvQ.bindc rfl (EvQ.bindc rfl ?_))))))
    refine EvQ.pos (by omega) (EvQ.pos (by omega) (EvQ.bindc rfl (EvQ.pos (by simp; omega) (EvQ.bindc rfl ?_))))
    refine EvQ.pos (by omega) (EvQ.pos (by omega) (EvQ.bindc rfl (EvQ.pos (by simp; omega) (EvQ.bindc rfl ?_))))
    simp only [List.nil_append]
    have ea : (l.take (j + 1).toNat).drop i.toNat = partA l i.toNat j.toNat := by unfold partA; rw [show (j + 1).toNat = j.toNat + 1 by omega]
    have eb : l.drop j.toNat ++ l.take (i + 1).toNat = partB l i.toNat j.toNat := by unfold partB; rw [show (i + 1).toNat = i.toNat + 1 by omega]
    rw [ea, eb]
    have la : (partA l i.toNat j.toNat).length ≤ 1000 := by unfold partA; simp; omega
    have lb : (partB l i.toNat j.toNat).length ≤ 1000 := by unfold partB; simp; omega
    have hr : 0 ≤ i ∧ i < j ∧ j < (l.length : Int) := by omega
    unfold splitV
    refine EvQ.call (specParcel la) (EvQ.ite (fun ha => EvQ.call (specParcel lb) (EvQ.ite (fun hb => EvQ.ret ?_) (fun hb => EvQ.ret ?_))) (fun ha => EvQ.ret ?_))
    · rw [if_pos ⟨hp, hr.1, hr.2.1, hr.2.2, ha, hb⟩]
    · rw [if_neg (fun h => hb h.2.2.2.2.2)]
    · rw [if_neg (fun h => ha h.2.2.2.2.1)]
  · rw [decide_eq_false h2]
    exact hno _ rfl (fun h => h2 (by omega))
end Go.Proofs.Ytfonigbkoligmaa.Cr

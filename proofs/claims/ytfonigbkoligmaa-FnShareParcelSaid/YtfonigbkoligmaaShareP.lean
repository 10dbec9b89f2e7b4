import Derived.Test.YtfonigbkoligmaaPolyU
import Derived.Test.YtfonigbkoligmaaPolyD
import Derived.Test.YtfonigbkoligmaaPolyT
import Derived.Test.YtfonigbkoligmaaQuoS
import Derived.Test.YtfonigbkoligmaaPx10
set_option linter.unusedVariables false
set_option linter.unusedSimpArgs false
namespace Go.Proofs.Ytfonigbkoligmaa.Cr
open Go.RowKit Go.Proofs.Ytfonigbkoligmaa.P Go.Proofs.YtfonigbkoligmaaW.PrintWords Go.Proofs.YtfonigbkoligmaaW.PrintLast Go.Proofs.YtfonigbkoligmaaW.PrintMore Go.Proofs.Ytfonigbkoligmaa.Ev
def shV (l : List S33) (i j : Int) : Int × Int × Bool := if (splitV l i j).2.2 = true then quoV (area (splitV l i j).1) (area l) else (0, 0, false)
theorem splitC {l : List S33} {i j : Int} (hs : (splitV l i j).2.2 = true) : (prB l = true ∧ 0 ≤ i ∧ i < j ∧ j < (l.length : Int) ∧ prB (partA l i.toNat j.toNat) = true ∧ prB (partB l i.toNat j.toNat) = true) ∧ splitV l i j = (partA l i.toNat j.toNat, partB l i.toNat j.toNat, true) := by
  have hc : prB l = true ∧ 0 ≤ i ∧ i < j ∧ j < (l.length : Int) ∧ prB (partA l i.toNat j.toNat) = true ∧ prB (partB l i.toNat j.toNat) = true := by
    unfold splitV at hs
    split at hs
    · assumption
    · cases hs
  exact ⟨hc, by unfold splitV; rw [if_pos hc]⟩
theorem shareS {l : List S33} {i j : Int} (hl : l.length ≤ 100) (hi : -1000 ≤ i ∧ i ≤ 1000) (hj : -1000 ≤ j ∧ j ≤ 1000) : EvQ (fun k => spec_ParcelShare.f k l i j) (fun r => r = shV l i j) := by
  unfold spec_ParcelShare.f
  refine EvQ.call (splitS hl hi hj) ?_
  unfold shV
  by_cases hs : (splitV l i j).2.2 = true
  · rw [if_pos hs]
    refine EvQ.pos hs ?_
    obtain ⟨hc, e⟩ := splitC hs
    rw [e]
    refine EvQ.call (specArea (okB_vd (prB_ok hc.2.2.2.2.1))) (EvQ.call (specArea (okB_vd (prB_ok hc.1))) ?_)
    exact EvQ.call (specQuoOf _ _) (EvQ.ret rfl)
  · rw [if_neg hs]
    exact EvQ.neg hs (EvQ.ret rfl)
theorem begunR {l : List S33} {j : Nat} (h : j ≤ l.length) (hl : l.length ≤ 100) : laws_begunAt.f l (j : Int) = some (rotL l j) := by
  unfold laws_begunAt.f rotL
  simp only [Option.bind_some, Int.toNat_natCast, List.nil_append]
  rw [if_pos (by omega), if_pos (by omega), if_pos (by rw [List.length_drop]; simp; omega), if_pos (by rw [List.length_drop, List.length_take]; omega)]
theorem rot_parts {l : List S33} {i j : Nat} (hij : i < j) (hj : j < l.length) : partA (rotL l j) 0 (l.length - j + i) = partB l i j ∧ partB (rotL l j) 0 (l.length - j + i) = partA l i j := by
  constructor
  · unfold partA partB rotL
    rw [List.drop_zero, List.take_append, List.take_of_length_le (by simp; omega), List.length_drop, List.take_take]
    congr 2
    omega
  · unfold partA partB rotL
    have e1 : (l.drop j).take 1 = [l[j]] := by rw [List.drop_eq_getElem_cons hj]; rfl
    rw [List.drop_append, List.drop_eq_nil_of_le (by rw [List.length_drop]; omega), List.nil_append, List.length_drop, List.take_append, List.length_drop, e1, show 0 + 1 - (l.length - j) = 0 by omega, List.take_zero, List.append_nil, List.take_succ_eq_append_getElem hj, List.drop_append_of_le_length (by simp; omega), show l.length - j + i - (l.length - j) = i by omega]
end Go.Proofs.Ytfonigbkoligmaa.Cr

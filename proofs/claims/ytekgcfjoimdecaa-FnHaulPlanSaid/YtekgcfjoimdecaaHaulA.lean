/- Chapter 43, plain: the curve of the reference. No program in sight. -/
import Derived.Test.YtekgcfjoimdecaaHaulA0
import Derived.Test.YtekgcfjoimdecaaPx6
set_option linter.unusedVariables false
set_option linter.unusedSimpArgs false
namespace Go.Proofs.Ytekgcfjoimdecaa.HaulA
open Go.RowKit Go.Proofs.Ytekgcfjoimdecaa.P Go.Proofs.YtekgcfjoimdecaaW.PrintWords Go.Proofs.YtekgcfjoimdecaaW.PrintLast Go.Proofs.YtekgcfjoimdecaaW.PrintMore Go.Proofs.Ytekgcfjoimdecaa.Ev
theorem specCurveLoop {l : List Int} (hl : okS l = true) : EvQ (fun k => spec_HaulCurve.l0 k l [] 0 0) (fun r => r = (pre 0 l, true)) := by
  have h12 := (okS_of hl).2.1
  refine EvQ.loop (σ := List Int × Int) (g := fun k i s => spec_HaulCurve.l0 k l s.1 s.2 i) l.length (fun i s => s.1 = pre 0 (l.take i) ∧ s.2 = (l.take i).sum) ?_ ?_ 0 ([], 0) (by omega) (by simp [pre])
  · rintro i ⟨a, b⟩ hi ⟨rfl, rfl⟩ ih
    have hb := take_sum_bound hl i
    have hm := mem_bound hl hi
    refine EvQ.step (fun k => by simp only [spec_HaulCurve.l0]; rfl) ?_
    refine EvQ.pos (by omega) (EvQ.pos (by omega) (EvQ.pos (by rw [pre_length, List.length_take]; omega) ?_))
    rw [rd_get hi, w64 (by omega) (by omega), w64 (n := (i : Int) + 1) (by omega) (by omega)]
    refine ih (_, _) ⟨?_, ?_⟩
    · rw [List.take_succ_eq_append_getElem hi, pre_snoc]; simp
    · exact (sum_take_succ hi).symm
  · rintro ⟨a, b⟩ ⟨rfl, rfl⟩
    refine EvQ.step (fun k => by simp only [spec_HaulCurve.l0]; rfl) ?_
    refine EvQ.neg (by omega) (EvQ.ret (by simp))
theorem specCurve {l : List Int} (hl : Len l) : EvQ (fun k => spec_HaulCurve.f k l) (fun r => r = curve l) := by
  unfold spec_HaulCurve.f curve
  refine EvQ.bindc rfl (EvQ.call (l43Ok hl) ?_)
  by_cases h : okS l = true
  · rw [h]; exact EvQ.pos rfl (specCurveLoop h)
  · refine EvQ.neg h (EvQ.ret (by simp [h]))
end Go.Proofs.Ytekgcfjoimdecaa.HaulA

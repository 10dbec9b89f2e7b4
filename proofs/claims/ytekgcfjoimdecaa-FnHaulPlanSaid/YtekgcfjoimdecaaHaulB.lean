/- Chapter 43, plain: the work of balanced stations. No program in sight. -/
import Derived.Test.YtekgcfjoimdecaaHaulA
import Derived.Test.YtekgcfjoimdecaaPx8
set_option linter.unusedVariables false
set_option linter.unusedSimpArgs false
namespace Go.Proofs.Ytekgcfjoimdecaa.HaulA
open Go.RowKit Go.Proofs.Ytekgcfjoimdecaa.P Go.Proofs.YtekgcfjoimdecaaW.PrintWords Go.Proofs.YtekgcfjoimdecaaW.PrintLast Go.Proofs.YtekgcfjoimdecaaW.PrintMore Go.Proofs.Ytekgcfjoimdecaa.Ev
/-- An absolute value. -/
def ab (x : Int) : Int := if x < 0 then -x else x
theorem ab_nonneg (x : Int) : 0 ≤ ab x := by unfold ab; split <;> omega
theorem size_eq {x : Int} (h : -1000000000000 ≤ x) (h' : x ≤ 1000000000000) : spec_l1Size.f x = some (ab x) := by
  unfold spec_l1Size.f mx ab; rw [w64 (by omega) (by omega)]; congr 1; split <;> split <;> omega
theorem absInt_eq {x : Int} (h : -1000000000000 ≤ x) (h' : x ≤ 1000000000000) : impl_absInt.f x = some (ab x) := by
  unfold impl_absInt.f ab; rw [w64 (by omega) (by omega)]; split <;> rfl
/-- The sum of the absolute values. -/
def abs (l : List Int) : Int := (l.map ab).sum
theorem abs_take_succ {l : List Int} {i : Nat} (h : i < l.length) : abs (l.take (i + 1)) = abs (l.take i) + ab l[i] := by
  unfold abs; rw [List.take_succ_eq_append_getElem h, List.map_append, List.sum_append]; simp only [List.map_cons, List.map_nil, List.sum_cons, List.sum_nil]; omega
theorem abs_bound {l : List Int} {b : Int} (h : ∀ x ∈ l, -b ≤ x ∧ x ≤ b) : 0 ≤ abs l ∧ abs l ≤ b * l.length := by
  have := sum_bound (l := l.map ab) (b := b) (by
    intro x hx
    obtain ⟨y, hy, rfl⟩ := List.mem_map.1 hx
    have := h y hy
    unfold ab; split <;> omega)
  rw [List.length_map] at this
  refine ⟨?_, this.2⟩
  unfold abs
  clear this h
  induction l with
  | nil => simp
  | cons a l ih => have := ab_nonneg a; simp only [List.map_cons, List.sum_cons]; omega
theorem pre_bound {l : List Int} (h : okS l = true) : ∀ x ∈ pre 0 l, -12000 ≤ x ∧ x ≤ 12000 := by
  intro x hx
  obtain ⟨i, hi, rfl⟩ := List.mem_iff_getElem.1 hx
  rw [pre_length] at hi
  rw [pre_get _ _ _ hi]
  have := take_sum_bound h (i + 1)
  omega
/-- What HaulWork tells. -/
def work (l : List Int) : Int := if bal l then abs (pre 0 l) else -1
theorem workAbs_bound {l : List Int} (h : okS l = true) (i : Nat) : 0 ≤ abs ((pre 0 l).take i) ∧ abs ((pre 0 l).take i) ≤ 144000 := by
  have h1 := abs_bound (l := (pre 0 l).take i) (b := 12000) (fun x hx => pre_bound h x (List.mem_of_mem_take hx))
  have h2 : ((pre 0 l).take i).length ≤ 12 := Nat.le_trans (List.length_take_le' ..) (by rw [pre_length]; exact (okS_of h).2.1)
  omega
theorem bal_ok {l : List Int} (h : bal l = true) : okS l = true := by unfold bal at h; simp at h; exact h.1
theorem bal_sum {l : List Int} (h : bal l = true) : l.sum = 0 := by unfold bal at h; simp at h; exact h.2
theorem specWork {l : List Int} (hl : Len l) : EvQ (fun k => spec_HaulWork.f k l) (fun r => r = work l) := by
  unfold spec_HaulWork.f work
  refine EvQ.call (specBalanced hl) ?_
  by_cases h : bal l = true
  · have ho := bal_ok h
    have h12 := (okS_of ho).2.1
    simp only [h, if_true]
    refine EvQ.call (specCurve hl) ?_
    simp only [curve, ho, if_true]
    refine EvQ.loop (σ := Int) (g := fun k i s => spec_HaulWork.l0 k s (pre 0 l) i) (pre 0 l).length (fun i s => s = abs ((pre 0 l).take i)) ?_ ?_ 0 0 (by omega) (by simp [abs])
    · rintro i _ hi rfl ih
      have hb := workAbs_bound ho i
      have hm := pre_bound ho _ (List.getElem_mem hi)
      have hlp := pre_length 0 l
      refine EvQ.step (fun k => by simp only [spec_HaulWork.l0]; rfl) ?_
      refine EvQ.pos (by omega) (EvQ.pos (by omega) ?_)
      rw [rd_get hi]
      refine EvQ.bindc (size_eq (by omega) (by omega)) ?_
      have hab : 0 ≤ ab (pre 0 l)[i] ∧ ab (pre 0 l)[i] ≤ 12000 := by unfold ab; split <;> omega
      rw [w64 (by omega) (by omega), w64 (n := (i : Int) + 1) (by omega) (by omega)]
      exact ih _ (abs_take_succ hi).symm
    · rintro _ rfl
      refine EvQ.step (fun k => by simp only [spec_HaulWork.l0]; rfl) ?_
      exact EvQ.neg (by omega) (EvQ.ret (by simp))
  · simp only [h]
    exact EvQ.neg (by simp) (EvQ.ret (by simp))
theorem implWork {l : List Int} (hl : Len l) : EvQ (fun k => impl_HaulWork.f k l) (fun r => r = work l) := by
  unfold impl_HaulWork.f work
  refine EvQ.call (implBalanced hl) ?_
  by_cases h : bal l = true
  · have ho := bal_ok h
    have h12 := (okS_of ho).2.1
    simp only [h, if_true]
    refine EvQ.call (implCurve hl) ?_
    simp only [curve, ho, if_true]
    refine EvQ.loop (σ := Int) (g := fun k i s => impl_HaulWork.l0 k s (pre 0 l) ((pre 0 l).length : Int) i) (pre 0 l).length (fun i s => s = abs ((pre 0 l).take i)) ?_ ?_ 0 0 (by omega) (by simp [abs])
    · rintro i _ hi rfl ih
      have hb := workAbs_bound ho i
      have hm := pre_bound ho _ (List.getElem_mem hi)
      have hlp := pre_length 0 l
      refine EvQ.step (fun k => by simp only [impl_HaulWork.l0]; rfl) ?_
      refine EvQ.pos (by omega) (EvQ.pos (by omega) (EvQ.pos (by omega) ?_))
      rw [rd_get hi]
      refine EvQ.bindc (absInt_eq (by omega) (by omega)) ?_
      have hab : 0 ≤ ab (pre 0 l)[i] ∧ ab (pre 0 l)[i] ≤ 12000 := by unfold ab; split <;> omega
      rw [w64 (by omega) (by omega), w64 (n := (i : Int) + 1) (by omega) (by omega)]
      exact ih _ (abs_take_succ hi).symm
    · rintro _ rfl
      refine EvQ.step (fun k => by simp only [impl_HaulWork.l0]; rfl) ?_
      exact EvQ.neg (by omega) (EvQ.ret (by simp))
  · simp only [h]
    exact EvQ.neg (by simp) (EvQ.ret (by simp))
end Go.Proofs.Ytekgcfjoimdecaa.HaulA

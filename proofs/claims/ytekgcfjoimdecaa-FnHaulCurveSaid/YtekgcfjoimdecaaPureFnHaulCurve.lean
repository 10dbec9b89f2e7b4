/- A curve ends with the sum: for all codes. No condition is added. -/
import Derived.Test.YtekgcfjoimdecaaPx7
import Derived.Test.YtekgcfjoimdecaaHaulA
import Derived.Test.YtekgcfjoimdecaaDrawStations
import Derived.Test.YtekgcfjoimdecaaPx6
set_option linter.unusedVariables false
namespace Go.Proofs.Ytekgcfjoimdecaa.Pure
open Go.RowKit Go.Proofs.Ytekgcfjoimdecaa.P Go.Proofs.YtekgcfjoimdecaaW.PrintWords Go.Proofs.Ytekgcfjoimdecaa.Ev Go.Proofs.Ytekgcfjoimdecaa.HaulA Go.Proofs.Ytekgcfjoimdecaa.Pick
theorem sameInts_refl {a : List Int} (hl : a.length ≤ 17592186044416) : EvQ (fun k => laws_sameInts.f k a a) (fun r => r = true) := by
  unfold laws_sameInts.f
  refine EvQ.pos rfl ?_
  refine EvQ.loop (σ := Unit) (g := fun k i _ => laws_sameInts.l0 k a a i) a.length (fun i _ => True) ?_ ?_ 0 () (by omega) trivial
  · rintro i _ hi hI ih
    refine EvQ.step (fun k => by simp only [laws_sameInts.l0]; rfl) ?_
    refine EvQ.pos (by omega) (EvQ.pos (by omega) (EvQ.pos (by omega) (EvQ.pos (by simp) ?_)))
    rw [w64i hi (by omega)]
    exact ih () trivial
  · rintro _ hI
    refine EvQ.step (fun k => by simp only [laws_sameInts.l0]; rfl) ?_
    exact EvQ.neg (by omega) (EvQ.ret rfl)
theorem sumOf {l : List Int} (hl : okS l = true) : EvQ (fun k => laws_sumOf.f k l) (fun r => r = l.sum) := by
  have h12 := (okS_of hl).2.1
  unfold laws_sumOf.f
  refine EvQ.loop (σ := Int) (g := fun k i s => laws_sumOf.l0 k l s i) l.length (fun i s => s = (l.take i).sum) ?_ ?_ 0 0 (by omega) (by simp)
  · rintro i _ hi rfl ih
    have hb := take_sum_bound hl i
    have hm := mem_bound hl hi
    refine EvQ.step (fun k => by simp only [laws_sumOf.l0]; rfl) ?_
    refine EvQ.pos (by omega) (EvQ.pos (by omega) ?_)
    rw [rd_get hi, w64 (by omega) (by omega), w64 (n := (i : Int) + 1) (by omega) (by omega)]
    exact ih _ (sum_take_succ hi).symm
  · rintro _ rfl
    refine EvQ.step (fun k => by simp only [laws_sumOf.l0]; rfl) ?_
    exact EvQ.neg (by omega) (EvQ.ret (by simp))
theorem FnHaulCurve : laws_FnHaulCurve.Pure := by
  intro l _ hl1 hwf
  refine EvQ.rounds (g := fun k => laws_FnHaulCurve.f k l) ?_
  unfold laws_FnHaulCurve.f
  refine EvQ.ite (fun _ => EvQ.ret rfl) (fun _ => ?_)
  unfold spec_DrawHaulCurve.f
  refine drawn hwf (fun s hs => ?_)
  have hl : Len s := by unfold Len; omega
  refine EvQ.call (implCurve hl) (EvQ.call (specCurve hl) (EvQ.neg (by simp) ?_))
  have hcl : (curve s).1.length ≤ 6 := by
    unfold curve; split
    · rw [pre_length]; exact hs
    · simp
  refine EvQ.call (sameInts_refl (by omega)) (EvQ.pos rfl ?_)
  refine EvQ.step (fun k => by simp only [laws_FnHaulCurve.j0]; rfl) ?_
  by_cases ho : okS s = true
  · have hc : curve s = (pre 0 s, true) := by simp [curve, ho]
    obtain ⟨h1, h12, _⟩ := okS_of ho
    rw [hc]
    simp only []
    refine EvQ.neg (by simp) ?_
    have hlp := pre_length 0 s
    refine EvQ.loop (σ := Unit) (g := fun k i _ => laws_FnHaulCurve.l0 k s (pre 0 s) i) (pre 0 s).length (fun i _ => 1 ≤ i) ?_ ?_ 1 () (by omega) (by omega)
    · rintro i _ hi hI ih
      have e1 : ((i : Int) - 1) = ((i - 1 : Nat) : Int) := by omega
      have g1 := pre_get 0 s i (by omega)
      have g2 := pre_get 0 s (i - 1) (by omega)
      have hb := take_sum_bound ho (i + 1)
      have hb' := take_sum_bound ho i
      have hs' := sum_take_succ (l := s) (i := i) (by omega)
      refine EvQ.step (fun k => by simp only [laws_FnHaulCurve.l0]; rfl) ?_
      have hw : wrap64 ((i : Int) - 1) = (i : Int) - 1 := w64 (by omega) (by omega)
      rw [hw]
      refine EvQ.pos (by omega) (EvQ.pos (by omega) (EvQ.pos (by omega) (EvQ.pos (by omega) (EvQ.pos (by omega) ?_))))
      rw [e1, rd_get hi, rd_get (by omega), rd_get (by omega), g1, g2, show i - 1 + 1 = i by omega, w64 (by omega) (by omega)]
      refine EvQ.pos (by omega) ?_
      rw [w64 (n := (i : Int) + 1) (by omega) (by omega)]
      exact ih () (by omega)
    · rintro _ hI
      refine EvQ.step (fun k => by simp only [laws_FnHaulCurve.l0]; rfl) ?_
      have hw : wrap64 (((pre 0 s).length : Int) - 1) = ((pre 0 s).length : Int) - 1 := w64 (by omega) (by omega)
      rw [hw, pre_last h1]
      refine EvQ.neg (by omega) (EvQ.pos (by omega) (EvQ.pos (by omega) (EvQ.pos (by omega) (EvQ.pos (by omega) ?_))))
      have g0 := pre_get 0 s 0 (by omega)
      have r0 : rd (pre 0 s) 0 = rd s 0 := by
        have a := rd_get (l := pre 0 s) (i := 0) (by omega)
        have c := rd_get (l := s) (i := 0) (by omega)
        have d := sum_take_succ (l := s) (i := 0) (by omega)
        simp only [Int.natCast_zero] at a c
        rw [a, c, g0, d]; simp
      refine EvQ.pos r0 (EvQ.call (sumOf ho) (EvQ.pos rfl (EvQ.call (implBalanced hl) (EvQ.ret ?_))))
      rw [bal, ho, Bool.true_and, beq_iff_eq]
      rw [Bool.eq_iff_iff]; simp
  · have hc : curve s = ([], false) := by simp [curve, ho]
    rw [hc]
    refine EvQ.pos (by simp) (EvQ.pos (by simp) ?_)
    exact EvQ.call (sameInts_refl (by simp)) (EvQ.ret rfl)
end Go.Proofs.Ytekgcfjoimdecaa.Pure

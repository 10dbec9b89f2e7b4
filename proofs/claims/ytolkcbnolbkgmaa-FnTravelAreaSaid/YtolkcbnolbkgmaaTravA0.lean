import Derived.Test.YtolkcbnolbkgmaaEv
import Derived.Test.YtolkcbnolbkgmaaPx2
import Derived.Test.YtolkcbnolbkgmaaPx4
set_option linter.unusedVariables false
set_option linter.unusedSimpArgs false
namespace Go.Proofs.Ytolkcbnolbkgmaa.TravA
open Go.RowKit Go.Proofs.Ytolkcbnolbkgmaa.P Go.Proofs.YtolkcbnolbkgmaaW.PrintWords Go.Proofs.YtolkcbnolbkgmaaW.PrintLast Go.Proofs.YtolkcbnolbkgmaaW.PrintMore Go.Proofs.Ytolkcbnolbkgmaa.Ev
abbrev Pt := S34
theorem rdP_get {l : List Pt} {i : Nat} (h : i < l.length) : rd_T34 l (i : Int) = l[i] := by
  unfold rd_T34; simp [List.getD_eq_getElem?_getD, h]
theorem in_eq (a b c : Int) : spec_l6In.f a b c = some (decide (b ≤ a ∧ a ≤ c)) := by
  unfold spec_l6In.f
  by_cases h : a ≥ b
  · rw [if_pos h]; congr 1; rw [Bool.eq_iff_iff]; simp; omega
  · rw [if_neg h]; congr 1; symm; rw [decide_eq_false_iff_not]; omega
def okT (p : Pt) : Bool := decide (-20000 ≤ p.f0 ∧ p.f0 ≤ 20000) && decide (-20000 ≤ p.f1 ∧ p.f1 ≤ 20000)
def okTr (l : List Pt) : Bool := decide (1 ≤ l.length ∧ l.length ≤ 12) && l.all okT
theorem okT_of {p : Pt} (h : okT p = true) : (-20000 ≤ p.f0 ∧ p.f0 ≤ 20000) ∧ (-20000 ≤ p.f1 ∧ p.f1 ≤ 20000) := by
  unfold okT at h; simpa only [Bool.and_eq_true, decide_eq_true_eq] using h
theorem okTr_of {l : List Pt} (h : okTr l = true) : (1 ≤ l.length ∧ l.length ≤ 12) ∧ ∀ p ∈ l, okT p = true := by
  unfold okTr at h
  simp only [Bool.and_eq_true, decide_eq_true_eq, List.all_eq_true] at h
  exact h
theorem stepOk (p : Pt) : spec_l2StepOk.f p.f0 p.f1 = some (okT p) := by
  unfold spec_l2StepOk.f okT
  rw [in_eq, Option.bind_some]
  by_cases h : -20000 ≤ p.f0 ∧ p.f0 ≤ 20000
  · rw [if_pos (by simpa using h), in_eq, Option.bind_some, decide_eq_true h, Bool.true_and]
  · rw [if_neg (by simpa using h), decide_eq_false h, Bool.false_and]
theorem stepValid (p : Pt) : impl_stepValid.f p.f0 p.f1 = some (okT p) := by
  unfold impl_stepValid.f inR okT
  rw [show wrap64 (-20000) = -20000 from w64 (by omega) (by omega)]
theorem specValid {l : List Pt} (hl : l.length ≤ 1048576) : EvQ (fun k => spec_TravelValid.f k l) (fun r => r = okTr l) := by
  unfold spec_TravelValid.f
  refine EvQ.loop (σ := Unit) (g := fun k i _ => spec_TravelValid.l0 k l i) l.length (fun i _ => (l.take i).all okT = true) ?_ ?_ 0 () (by omega) (by simp)
  · rintro i _ hi hI ih
    refine EvQ.step (fun k => by simp only [spec_TravelValid.l0]; rfl) ?_
    refine EvQ.pos (by omega) (EvQ.pos (by omega) ?_)
    rw [rdP_get hi]
    refine EvQ.bindc (stepOk _) (EvQ.ite (fun h => ?_) (fun h => EvQ.ret ?_))
    · rw [w64i hi (by omega)]
      exact ih () (all_take_succ hi hI h)
    · unfold okTr; rw [all_false hi (by simpa using h), Bool.and_false]
  · rintro _ hI
    rw [List.take_length] at hI
    refine EvQ.step (fun k => by simp only [spec_TravelValid.l0]; rfl) ?_
    refine EvQ.neg (by omega) (EvQ.bindc (in_eq _ _ _) (EvQ.ret ?_))
    unfold okTr; rw [hI, Bool.and_true, Bool.eq_iff_iff]; simp; omega
theorem implValid {l : List Pt} (hl : l.length ≤ 1048576) : EvQ (fun k => impl_TravelValid.f k l) (fun r => r = okTr l) := by
  have hj : ∀ b : Bool, b = true → okTr l = false → EvQ (fun k => impl_TravelValid.j0 k l b) (fun r => r = okTr l) := by
    rintro _ rfl h
    refine EvQ.step (fun k => by simp only [impl_TravelValid.j0]; rfl) ?_
    exact EvQ.pos (by simp) (EvQ.ret h.symm)
  unfold impl_TravelValid.f
  by_cases h1 : 1 ≤ l.length ∧ l.length ≤ 12
  · refine EvQ.neg (by omega) ?_
    refine EvQ.step (fun k => by simp only [impl_TravelValid.j0]; rfl) ?_
    refine EvQ.neg (by simp; omega) ?_
    refine EvQ.loop (σ := Unit) (g := fun k i _ => impl_TravelValid.l0 k l (l.length : Int) i) l.length (fun i _ => (l.take i).all okT = true) ?_ ?_ 0 () (by omega) (by simp)
    · rintro i _ hi hI ih
      refine EvQ.step (fun k => by simp only [impl_TravelValid.l0]; rfl) ?_
      refine EvQ.pos (by omega) (EvQ.pos (by omega) (EvQ.pos (by omega) ?_))
      rw [rdP_get hi]
      refine EvQ.bindc (stepValid _) (EvQ.ite (fun h => ?_) (fun h => EvQ.ret ?_))
      · rw [w64i hi (by omega)]
        exact ih () (all_take_succ hi hI h)
      · unfold okTr; rw [all_false hi (by simpa using h), Bool.and_false]
    · rintro _ hI
      rw [List.take_length] at hI
      refine EvQ.step (fun k => by simp only [impl_TravelValid.l0]; rfl) ?_
      refine EvQ.neg (by omega) (EvQ.ret ?_)
      unfold okTr; rw [hI, Bool.and_true, decide_eq_true h1]
  · have hf : okTr l = false := by unfold okTr; rw [decide_eq_false h1, Bool.false_and]
    exact EvQ.ite (fun h => hj _ rfl hf) (fun h => hj _ (by simp; omega) hf)
end Go.Proofs.Ytolkcbnolbkgmaa.TravA

import Derived.Test.YtolkcbnolbkgmaaEv
import Derived.Test.YtolkcbnolbkgmaaPx3
import Derived.Test.YtolkcbnolbkgmaaPx5
import Derived.Test.YtolkcbnolbkgmaaPx1
set_option linter.unusedVariables false
set_option linter.unusedSimpArgs false
namespace Go.Proofs.Ytolkcbnolbkgmaa.TravA
open Go.RowKit Go.Proofs.Ytolkcbnolbkgmaa.P Go.Proofs.YtolkcbnolbkgmaaW.PrintWords Go.Proofs.YtolkcbnolbkgmaaW.PrintLast Go.Proofs.YtolkcbnolbkgmaaW.PrintMore Go.Proofs.Ytolkcbnolbkgmaa.Ev
abbrev Pt := S34
abbrev LPt := S49
def conv (h : LPt) : Pt := ⟨h.f0, h.f1⟩
theorem rdLP_get {l : List LPt} {i : Nat} (h : i < l.length) : rd_T49 l (i : Int) = l[i] := by
  unfold rd_T49; simp [List.getD_eq_getElem?_getD, h]
theorem rdP_get {l : List Pt} {i : Nat} (h : i < l.length) : rd_T34 l (i : Int) = l[i] := by
  unfold rd_T34; simp [List.getD_eq_getElem?_getD, h]
theorem toPointS {l : List LPt} (hl : l.length ≤ 1048576) : EvQ (fun k => laws_toPointS.f k l) (fun r => r = l.map conv) := by
  unfold laws_toPointS.f
  refine EvQ.pos (by omega) (EvQ.pos (by omega) ?_)
  refine EvQ.loop (σ := List Pt) (g := fun k i s => laws_toPointS.l0 k l s i) l.length (fun i s => s = (l.map conv).take i ++ List.replicate (l.length - i) z34) ?_ ?_ 0 (List.replicate ((l.length : Int) : Int).toNat z34) (by omega) (by simp)
  · rintro i s hi hs ih
    have hi2 : i < (l.map conv).length := by simpa using hi
    have h1 : ((l.map conv).take i).length = i := by rw [List.length_take]; omega
    have hlen : s.length = l.length := by rw [hs, List.length_append, h1, List.length_replicate]; omega
    refine EvQ.step (fun k => by simp only [laws_toPointS.l0]; rfl) ?_
    refine EvQ.pos (by omega) (EvQ.pos (by omega) ?_)
    rw [rdLP_get hi]
    refine EvQ.bindc rfl (EvQ.pos (by omega) ?_)
    rw [w64i hi (by omega)]
    refine ih _ ?_
    obtain ⟨m, hm⟩ : ∃ m, l.length - i = m + 1 := ⟨l.length - i - 1, by omega⟩
    rw [hs, hm, show l.length - (i + 1) = m by omega, List.replicate_succ, List.set_append, h1]
    simp only [Int.toNat_natCast, Nat.lt_irrefl, if_false, Nat.sub_self, List.set_cons_zero]
    rw [List.take_succ_eq_append_getElem hi2, List.append_assoc]
    simp only [List.getElem_map]
    rfl
  · rintro s hs
    refine EvQ.step (fun k => by simp only [laws_toPointS.l0]; rfl) ?_
    refine EvQ.neg (by omega) (EvQ.ret ?_)
    rw [hs]; simp
    exact List.take_of_length_le (by simp)
theorem eqPoint_refl (a : Pt) : laws_eqPoint.f a.f0 a.f1 a.f0 a.f1 = some true := by simp [laws_eqPoint.f]
theorem eqPointS_refl {a b : List Pt} (hl : a.length ≤ 17592186044416) (h : a = b) : EvQ (fun k => laws_eqPointS.f k a b) (fun r => r = true) := by
  subst h
  unfold laws_eqPointS.f
  refine EvQ.pos rfl ?_
  refine EvQ.loop (σ := Unit) (g := fun k i _ => laws_eqPointS.l0 k a a i) a.length (fun i _ => True) ?_ ?_ 0 () (by omega) trivial
  · rintro i _ hi hI ih
    refine EvQ.step (fun k => by simp only [laws_eqPointS.l0]; rfl) ?_
    refine EvQ.pos (by omega) (EvQ.pos (by omega) (EvQ.pos (by omega) ?_))
    rw [rdP_get hi]
    refine EvQ.bindc (eqPoint_refl _) (EvQ.pos (by simp) ?_)
    rw [w64i hi (by omega)]
    exact ih () trivial
  · rintro _ hI
    refine EvQ.step (fun k => by simp only [laws_eqPointS.l0]; rfl) ?_
    exact EvQ.neg (by omega) (EvQ.ret rfl)
theorem szPointS {l : List LPt} (hl : l.length ≤ maxLen) : laws_szPointS.f l 1048576 = some (if 1048576 < l.length then -1 else 1048576 - (l.length : Int)) := by
  unfold maxLen at hl
  unfold laws_szPointS.f
  rw [w64 (by omega) (by omega)]
  by_cases h : 1048576 < l.length
  · rw [if_pos (by omega), if_pos h]
  · rw [if_neg (by omega), if_neg h]
theorem in_eq (a b c : Int) : spec_l6In.f a b c = some (decide (b ≤ a ∧ a ≤ c)) := by
  unfold spec_l6In.f
  by_cases h : a ≥ b
  · rw [if_pos h]; congr 1; rw [Bool.eq_iff_iff]; simp; omega
  · rw [if_neg h]; congr 1; symm; rw [decide_eq_false_iff_not]; omega
def okT (p : Pt) : Bool := decide (-20000 ≤ p.f0 ∧ p.f0 ≤ 20000) && decide (-20000 ≤ p.f1 ∧ p.f1 ≤ 20000)
def okTr (l : List Pt) : Bool := decide (1 ≤ l.length ∧ l.length ≤ 12) && l.all okT
theorem okT_of {p : Pt} (h : okT p = true) : (-20000 ≤ p.f0 ∧ p.f0 ≤ 20000) ∧ (-20000 ≤ p.f1 ∧ p.f1 ≤ 20000) := by
  unfold okT at h; simpa only [Bool.and_eq_true, decide_eq_true_eq] using h
theorem okTr_of {l : List Pt} (h : okTr l = true) : (1 ≤ l.length ∧ l.length ≤ 12) ∧ ∀ p ∈ l, okT p = true := by
  unfold okTr at h
  simp only [Bool.and_eq_true, decide_eq_true_eq, List.all_eq_true] at h
  exact h
theorem stepOk (p : Pt) : spec_l2StepOk.f p.f0 p.f1 = some (okT p) := by
  unfold spec_l2StepOk.f okT
  rw [in_eq, Option.bind_some]
  by_cases h : -20000 ≤ p.f0 ∧ p.f0 ≤ 20000
  · rw [if_pos (by simpa using h), in_eq, Option.bind_some, decide_eq_true h, Bool.true_and]
  · rw [if_neg (by simpa using h), decide_eq_false h, Bool.false_and]
theorem stepValid (p : Pt) : impl_stepValid.f p.f0 p.f1 = some (okT p) := by
  unfold impl_stepValid.f inR okT
  rw [show wrap64 (-20000) = -20000 from w64 (by omega) (by omega)]
theorem specValid {l : List Pt} (hl : l.length ≤ 1048576) : EvQ (fun k => spec_TravelValid.f k l) (fun r => r = okTr l) := by
  unfold spec_TravelValid.f
  refine EvQ.loop (σ := Unit) (g := fun k i _ => spec_TravelValid.l0 k l i) l.length (fun i _ => (l.take i).all okT = true) ?_ ?_ 0 () (by omega) (by simp)
  · rintro i _ hi hI ih
    refine EvQ.step (fun k => by simp only [spec_TravelValid.l0]; rfl) ?_
    refine EvQ.pos (by omega) (EvQ.pos (by omega) ?_)
    rw [rdP_get hi]
    refine EvQ.bindc (stepOk _) (EvQ.ite (fun h => ?_) (fun h => EvQ.ret ?_))
    · rw [w64i hi (by omega)]
      exact ih () (all_take_succ hi hI h)
    · unfold okTr; rw [all_false hi (by simpa using h), Bool.and_false]
  · rintro _ hI
    rw [List.take_length] at hI
    refine EvQ.step (fun k => by simp only [spec_TravelValid.l0]; rfl) ?_
    refine EvQ.neg (by omega) (EvQ.bindc (in_eq _ _ _) (EvQ.ret ?_))
    unfold okTr; rw [hI, Bool.and_true, Bool.eq_iff_iff]; simp; omega
theorem implValid {l : List Pt} (hl : l.length ≤ 1048576) : EvQ (fun k => impl_TravelValid.f k l) (fun r => r = okTr l) := by
  have hj : ∀ b : Bool, b = true → okTr l = false → EvQ (fun k => impl_TravelValid.j0 k l b) (fun r => r = okTr l) := by
    rintro _ rfl h
    refine EvQ.step (fun k => by simp only [impl_TravelValid.j0]; rfl) ?_
    exact EvQ.pos (by simp) (EvQ.ret h.symm)
  unfold impl_TravelValid.f
  by_cases h1 : 1 ≤ l.length ∧ l.length ≤ 12
  · refine EvQ.neg (by omega) ?_
    refine EvQ.step (fun k => by simp only [impl_TravelValid.j0]; rfl) ?_
    refine EvQ.neg (by simp; omega) ?_
    refine EvQ.loop (σ := Unit) (g := fun k i _ => impl_TravelValid.l0 k l (l.length : Int) i) l.length (fun i _ => (l.take i).all okT = true) ?_ ?_ 0 () (by omega) (by simp)
    · rintro i _ hi hI ih
      refine EvQ.step (fun k => by simp only [impl_TravelValid.l0]; rfl) ?_
      refine EvQ.pos (by omega) (EvQ.pos (by omega) (EvQ.pos (by omega) ?_))
      rw [rdP_get hi]
      refine EvQ.bindc (stepValid _) (EvQ.ite (fun h => ?_) (fun h => EvQ.ret ?_))
      · rw [w64i hi (by omega)]
        exact ih () (all_take_succ hi hI h)
      · unfold okTr; rw [all_false hi (by simpa using h), Bool.and_false]
    · rintro _ hI
      rw [List.take_length] at hI
      refine EvQ.step (fun k => by simp only [impl_TravelValid.l0]; rfl) ?_
      refine EvQ.neg (by omega) (EvQ.ret ?_)
      unfold okTr; rw [hI, Bool.and_true, decide_eq_true h1]
  · have hf : okTr l = false := by unfold okTr; rw [decide_eq_false h1, Bool.false_and]
    exact EvQ.ite (fun h => hj _ rfl hf) (fun h => hj _ (by simp; omega) hf)
end Go.Proofs.Ytolkcbnolbkgmaa.TravA

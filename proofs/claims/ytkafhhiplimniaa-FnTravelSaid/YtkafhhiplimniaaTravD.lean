/- Chapter 33, plain: the points of a traverse. No program in sight. -/
import Derived.Test.YtkafhhiplimniaaTravA
import Derived.Test.YtkafhhiplimniaaPx19
import Derived.Test.YtkafhhiplimniaaPx15
import Derived.Test.YtkafhhiplimniaaPx20
import Derived.Test.YtkafhhiplimniaaPx16
set_option linter.unusedVariables false
set_option linter.unusedSimpArgs false
namespace Go.Proofs.Ytkafhhiplimniaa.TravA
open Go.RowKit Go.Proofs.Ytkafhhiplimniaa.P Go.Proofs.YtkafhhiplimniaaW.PrintWords Go.Proofs.YtkafhhiplimniaaW.PrintLast Go.Proofs.YtkafhhiplimniaaW.PrintMore Go.Proofs.Ytkafhhiplimniaa.Ev
/-- A point in range. -/
def okP (x y : Int) : Bool := decide (-10000 ≤ x ∧ x ≤ 10000) && decide (-10000 ≤ y ∧ y ≤ 10000)
theorem okP_iff {x y : Int} : okP x y = true ↔ (-10000 ≤ x ∧ x ≤ 10000) ∧ (-10000 ≤ y ∧ y ≤ 10000) := by
  unfold okP; simp only [Bool.and_eq_true, decide_eq_true_eq]
theorem inR_P (x y : Int) : inR x y 10000 = okP x y := by
  unfold inR okP
  rw [show wrap64 (-10000) = -10000 from w64 (by omega) (by omega)]
theorem inR_T (x y : Int) : inR x y 20000 = okT ⟨x, y⟩ := by
  unfold inR okT
  rw [show wrap64 (-20000) = -20000 from w64 (by omega) (by omega)]
theorem pointValid (x y : Int) : spec_PointValid.f x y = some (okP x y) := by
  unfold spec_PointValid.f okP
  rw [in_eq, Option.bind_some]
  by_cases h : -10000 ≤ x ∧ x ≤ 10000
  · rw [if_pos (by simpa using h), in_eq, Option.bind_some, decide_eq_true h, Bool.true_and]
  · rw [if_neg (by simpa using h), decide_eq_false h, Bool.false_and]
/-- A step from a point, as both texts tell it. -/
theorem mv_eq (x y : Int) (p : Pt) : mvP x y p.f0 p.f1 = if okP x y = true ∧ okT p = true ∧ okP (wrap64 (x + p.f0)) (wrap64 (y + p.f1)) = true then (wrap64 (x + p.f0), wrap64 (y + p.f1), true) else (0, 0, false) := by
  unfold mvP; rw [inR_P, inR_P, inR_T]
theorem specMove (x y : Int) (p : Pt) : EvQ (fun k => spec_PointMove.f k x y p.f0 p.f1) (fun r => r = mvP x y p.f0 p.f1) := by
  unfold spec_PointMove.f
  rw [mv_eq]
  refine EvQ.bindc (pointValid _ _) (EvQ.ite (fun h1 => EvQ.bindc (stepOk p) ?_) (fun h1 => ?_))
  · refine EvQ.step (fun k => by simp only [spec_PointMove.j0]; rfl) ?_
    refine EvQ.ite (fun h2 => EvQ.ret ?_) (fun h2 => EvQ.bindc (pointValid _ _) (EvQ.ite (fun h3 => EvQ.ret ?_) (fun h3 => EvQ.ret ?_)))
    · rw [if_neg (by rintro ⟨_, h, _⟩; rw [h] at h2; simp at h2)]
    · rw [if_pos ⟨h1, by simpa using h2, h3⟩]
    · rw [if_neg (by rintro ⟨_, _, h⟩; exact h3 h)]
  · refine EvQ.step (fun k => by simp only [spec_PointMove.j0]; rfl) ?_
    refine EvQ.pos (by simp) (EvQ.ret ?_)
    rw [if_neg (by rintro ⟨h, _⟩; exact h1 h)]
/-- What both texts tell. -/
def ptsV (x y : Int) (l : List Pt) : List Pt × Bool := if okP x y && okTr l then (if wkOk l x y l.length = true then (wkP l x y l.length, true) else ([], false)) else ([], false)
theorem ptsV_len (x y : Int) {l : List Pt} (hl : l.length ≤ 1048576) : (ptsV x y l).1.length ≤ 1048577 := by
  unfold ptsV; split
  · split
    · rw [wkP_length]; omega
    · simp
  · simp
theorem implPoints {l : List Pt} (x y : Int) (hl : l.length ≤ 1048576) : EvQ (fun k => impl_TravelPoints.f k x y l) (fun r => r = ptsV x y l) := by
  unfold impl_TravelPoints.f ptsV
  rw [inR_P]
  refine EvQ.ite (fun h0 => EvQ.call (implValid hl) (EvQ.ite (fun h => ?_) (fun h => EvQ.ret (by simp [h])))) (fun h0 => EvQ.ret (by simp [h0]))
  rw [h0, h]
  have h1 := (okTr_of h).1
  refine EvQ.pos (by omega) (EvQ.ite (fun h => EvQ.ret (by simp [h])) (fun h => EvQ.ret (by simp [h])))
theorem wkP_last (l : List Pt) (x y : Int) : ∀ n, rd_T30 (wkP l x y n) (n : Int) = ⟨(wkA l x y n).1, (wkA l x y n).2⟩
  | 0 => rfl
  | n + 1 => by
    unfold wkP rd_T30
    rw [Int.toNat_natCast, List.getD_eq_getElem?_getD, List.getElem?_append_right (by rw [wkP_length]; exact Nat.le_refl _), wkP_length]
    simp
theorem specPoints {l : List Pt} (x y : Int) (hl : l.length ≤ 1048576) : EvQ (fun k => spec_TravelPoints.f k x y l) (fun r => r = ptsV x y l) := by
  have hj : ∀ b : Bool, b = true → (okP x y && okTr l) = false → EvQ (fun k => spec_TravelPoints.j0 k l b x y) (fun r => r = ptsV x y l) := by
    rintro _ rfl h
    refine EvQ.step (fun k => by simp only [spec_TravelPoints.j0]; rfl) ?_
    exact EvQ.pos (by simp) (EvQ.ret (by unfold ptsV; rw [h]; rfl))
  unfold spec_TravelPoints.f
  refine EvQ.call (specValid hl) (EvQ.ite (fun h => EvQ.bindc (pointValid x y) ?_) (fun h => hj _ rfl (by simp [h])))
  cases h0 : okP x y with
  | false => exact hj _ rfl (by simp [h0])
  | true =>
    refine EvQ.step (fun k => by simp only [spec_TravelPoints.j0]; rfl) ?_
    refine EvQ.neg (by simp) ?_
    have hv : ptsV x y l = if wkOk l x y l.length = true then (wkP l x y l.length, true) else ([], false) := by unfold ptsV; rw [h0, h]; rfl
    refine EvQ.loop (σ := List Pt) (g := fun k i s => spec_TravelPoints.l0 k l s i) l.length (fun i s => s = wkP l x y i ∧ wkOk l x y i = true) ?_ ?_ 0 [(⟨x, y⟩ : Pt)] (by omega) ⟨rfl, rfl⟩
    · rintro i s hi ⟨rfl, hk⟩ ih
      refine EvQ.step (fun k => by simp only [spec_TravelPoints.l0]; rfl) ?_
      refine EvQ.pos (by omega) (EvQ.pos (by omega) (EvQ.pos (by rw [wkP_length]; omega) ?_))
      rw [wkP_last]
      have hs := wk_succ l x y i
      refine EvQ.call (specMove _ _ (rd_T30 l (i : Int))) (EvQ.ite (fun h1 => ?_) (fun h1 => EvQ.ret ?_))
      · refine EvQ.pos (by rw [wkP_length]; omega) ?_
        rw [w64i hi (by omega), ← hs.2.2]
        exact ih _ ⟨rfl, by rw [hs.2.1, hk, h1]; rfl⟩
      · rw [hv, if_neg]
        rw [wkOk_mono (n := i + 1) (by omega) (by rw [hs.2.1, Bool.eq_false_iff.2 h1, Bool.and_false])]
        simp
    · rintro s ⟨rfl, hk⟩
      refine EvQ.step (fun k => by simp only [spec_TravelPoints.l0]; rfl) ?_
      exact EvQ.neg (by omega) (EvQ.ret (by rw [hv, if_pos hk]))
def endV (x y : Int) (l : List Pt) : Int × Int × Bool := if (ptsV x y l).2 = true then ((wkA l x y l.length).1, (wkA l x y l.length).2, true) else (0, 0, false)
theorem ptsV_true {x y : Int} {l : List Pt} (h : (ptsV x y l).2 = true) : okP x y = true ∧ okTr l = true ∧ wkOk l x y l.length = true ∧ ptsV x y l = (wkP l x y l.length, true) := by
  unfold ptsV at h ⊢
  split at h
  · rename_i h1
    split at h
    · rename_i h2
      simp only [Bool.and_eq_true] at h1
      rw [if_pos (by simp [h1]), if_pos h2]; exact ⟨h1.1, h1.2, h2, rfl⟩
    · simp at h
  · simp at h
theorem end_of {x y : Int} {l : List Pt} {g : Nat → Option (Int × Int × Bool)} {f : Nat → Option (List Pt × Bool)} (hl : l.length ≤ 1048576) (hf : EvQ f (fun r => r = ptsV x y l))
    (hg : ∀ k, g k = (f k).bind fun bt => (if bt.2 = true then (if 0 ≤ (wrap64 ((bt.1.length : Int) - 1)) then (if (wrap64 ((bt.1.length : Int) - 1)) < (bt.1.length : Int) then (some ((rd_T30 bt.1 (wrap64 ((bt.1.length : Int) - 1))).f0, (rd_T30 bt.1 (wrap64 ((bt.1.length : Int) - 1))).f1, true)) else (none)) else (none)) else (some (0, 0, false)))) : EvQ g (fun r => r = endV x y l) := by
  refine EvQ.congr hg (EvQ.call hf ?_)
  unfold endV
  refine EvQ.ite (fun h => ?_) (fun h => EvQ.ret (by simp [h]))
  obtain ⟨_, h1, _, h2⟩ := ptsV_true h
  rw [h2] at h ⊢
  simp only [wkP_length]
  have hw : wrap64 (((l.length + 1 : Nat) : Int) - 1) = (l.length : Int) := by rw [w64 (by omega) (by omega)]; omega
  rw [hw, wkP_last]
  exact EvQ.pos (by omega) (EvQ.pos (by omega) (EvQ.ret (by simp)))
theorem implEnd {l : List Pt} (x y : Int) (hl : l.length ≤ 1048576) : EvQ (fun k => impl_TravelEnd.f k x y l) (fun r => r = endV x y l) := end_of hl (implPoints x y hl) (fun k => rfl)
theorem specEnd {l : List Pt} (x y : Int) (hl : l.length ≤ 1048576) : EvQ (fun k => spec_TravelEnd.f k x y l) (fun r => r = endV x y l) := end_of hl (specPoints x y hl) (fun k => rfl)
end Go.Proofs.Ytkafhhiplimniaa.TravA

/- Points of a way are joined by its steps: the law holds for every code of bytes. No condition is added. -/
import Derived.Test.YtkafhhiplimniaaPx34
import Derived.Test.YtkafhhiplimniaaTravF
import Derived.Test.YtkafhhiplimniaaDrawFrom
set_option linter.unusedVariables false
set_option linter.unusedSimpArgs false
namespace Go.Proofs.Ytkafhhiplimniaa.Pure
open Go.RowKit Go.Proofs.Ytkafhhiplimniaa.P Go.Proofs.YtkafhhiplimniaaW.PrintWords Go.Proofs.Ytkafhhiplimniaa.Ev Go.Proofs.Ytkafhhiplimniaa.TravA Go.Proofs.Ytkafhhiplimniaa.Pick
theorem wkP_rd (l : List Pt) (x y : Int) {i : Nat} : ∀ {n : Nat}, i ≤ n → rd_T30 (wkP l x y n) (i : Int) = ⟨(wkA l x y i).1, (wkA l x y i).2⟩
  | n, h => by
    by_cases e : i = n
    · subst e; exact wkP_last l x y i
    · obtain ⟨m, rfl⟩ : ∃ m, n = m + 1 := ⟨n - 1, by omega⟩
      have ih := wkP_rd l x y (i := i) (n := m) (by omega)
      rw [← ih]
      rw [show wkP l x y (m + 1) = wkP l x y m ++ [⟨(wkA l x y (m + 1)).1, (wkA l x y (m + 1)).2⟩] from rfl]
      unfold rd_T30
      rw [Int.toNat_natCast, List.getD_eq_getElem?_getD, List.getD_eq_getElem?_getD, List.getElem?_append_left (by rw [wkP_length]; omega)]
theorem implStep {x y a b : Int} (h1 : okP x y = true) (h2 : okP a b = true) : impl_PointStep.f x y a b = some (a - x, b - y, true) := by
  have b1 := okP_iff.1 h1
  have b2 := okP_iff.1 h2
  unfold impl_PointStep.f stP
  rw [inR_P, inR_P, if_pos ⟨h1, h2⟩, w64 (by omega) (by omega), w64 (by omega) (by omega)]
theorem FnTravelPoints : laws_FnTravelPoints.Pure := by
  intro c _ _ hw
  refine EvQ.rounds (g := fun k => laws_FnTravelPoints.f k c) ?_
  unfold laws_FnTravelPoints.f
  refine EvQ.ite (fun _ => EvQ.ret rfl) (fun _ => ?_)
  unfold spec_DrawTravelPoints.f
  refine drawnFrom hw (fun x y l _ _ h6 => ?_)
  have hl : l.length ≤ 1048576 := by omega
  simp only []
  refine EvQ.call (implPoints x y hl) (EvQ.call (specPoints x y hl) (EvQ.neg (by simp) ?_))
  have hpl := ptsV_len x y hl
  refine EvQ.call (samePoints_refl (by omega)) (EvQ.pos rfl ?_)
  refine EvQ.step (fun k => by simp only [laws_FnTravelPoints.j0]; rfl) ?_
  refine EvQ.ite (fun _ => EvQ.pos (by simp) (EvQ.call (samePoints_refl (by omega)) (EvQ.ret rfl))) (fun h => ?_)
  have h : (ptsV x y l).2 = true := by simpa using h
  obtain ⟨h0, h1, h2, h3⟩ := ptsV_true h
  rw [h3]
  simp only []
  have hT := (okTr_of h1).2
  have hk : ∀ i, i ≤ l.length → wkOk l x y i = true := by
    intro i hi
    cases e : wkOk l x y i with
    | true => rfl
    | false => rw [wkOk_mono hi e] at h2; cases h2
  refine EvQ.loop (σ := Unit) (g := fun k i _ => laws_FnTravelPoints.l0 k l (wkP l x y l.length) i x y) l.length (fun i _ => True) ?_ ?_ 0 () (by omega) trivial
  · rintro i _ hi _ ih
    refine EvQ.step (fun k => by simp only [laws_FnTravelPoints.l0]; rfl) ?_
    have e1 : wrap64 ((i : Int) + 1) = ((i + 1 : Nat) : Int) := by rw [w64 (by omega) (by omega)]; rfl
    rw [e1, wkP_length, wkP_rd l x y (by omega), wkP_rd l x y (i := i + 1) (by omega), rdP_get hi]
    obtain ⟨a1, a2⟩ := wk_of h0 hT i (by omega) (hk i (by omega))
    obtain ⟨b1, b2⟩ := wk_of h0 hT (i + 1) (by omega) (hk (i + 1) (by omega))
    have a3 := a1 i (Nat.le_refl _)
    have b3 := b1 (i + 1) (Nat.le_refl _)
    unfold okAt at a3 b3
    rw [a2, b2]
    simp only []
    refine EvQ.pos (by omega) (EvQ.pos (by omega) (EvQ.pos (by omega) (EvQ.pos (by omega) (EvQ.pos (by omega) (EvQ.bindc (implStep a3 b3) (EvQ.pos (by simp) (EvQ.neg ?_ (ih () trivial))))))))
    rw [gx_succ hi, gy_succ hi]
    simp; omega
  · rintro _ _
    refine EvQ.step (fun k => by simp only [laws_FnTravelPoints.l0]; rfl) ?_
    refine EvQ.neg (by omega) (EvQ.call (implEnd x y hl) ?_)
    have he : endV x y l = ((wkA l x y l.length).1, (wkA l x y l.length).2, true) := by unfold endV; rw [if_pos h]
    rw [he, wkP_length, wkP_rd l x y (Nat.le_refl _), show rd_T30 (wkP l x y l.length) 0 = ⟨x, y⟩ from wkP_rd l x y (i := 0) (Nat.zero_le _)]
    rw [w64 (n := (l.length : Int) + 1) (by omega) (by omega)]
    exact EvQ.pos (by simp) (EvQ.pos (by omega) (EvQ.pos (by omega) (EvQ.pos (by simp) (EvQ.pos (by omega) (EvQ.pos (by simp) (EvQ.ret (by simp)))))))
end Go.Proofs.Ytkafhhiplimniaa.Pure

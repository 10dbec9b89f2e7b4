/- How far a crossing lies tells it: the law holds for every code of bytes. No condition is added. -/
import Derived.Test.YtgoejfdciejikaaPx37
import Derived.Test.YtgoejfdciejikaaCrossOfP
import Derived.Test.YtgoejfdciejikaaDrawLines
set_option linter.unusedVariables false
set_option linter.unusedSimpArgs false
namespace Go.Proofs.Ytgoejfdciejikaa.Pure
open Go.RowKit Go.Proofs.Ytgoejfdciejikaa.P Go.Proofs.YtgoejfdciejikaaW.PrintWords Go.Proofs.Ytgoejfdciejikaa.Ev Go.Proofs.Ytgoejfdciejikaa.Cr Go.Proofs.Ytgoejfdciejikaa.Pick
theorem FnCrossOf : laws_FnCrossOf.Pure := by
  intro c _ _ hw
  refine EvQ.rounds (g := fun k => laws_FnCrossOf.f k c) ?_
  unfold laws_FnCrossOf.f
  refine EvQ.ite (fun _ => EvQ.ret rfl) (fun _ => ?_)
  unfold spec_DrawCrossOf.f
  obtain ⟨b, hb, hb2⟩ := openQ hw
  refine EvQ.bind (P := fun _ => True) (EvQ.bindc hb (EvQ.bind (lines hb2 (by simp) (by simp)) (fun _ _ => EvQ.ret trivial))) ?_
  rintro ⟨ax, ay, bx, by_, cx, cy, dx, dy⟩ _
  simp only []
  refine EvQ.call (implOf _ _ _ _ _ _ _ _) (EvQ.call (specOf _ _ _ _ _ _ _ _) (EvQ.neg (by simp) (EvQ.neg (by simp) ?_)))
  refine EvQ.step (fun k => by simp only [laws_FnCrossOf.j0]; rfl) ?_
  refine EvQ.ite (fun _ => EvQ.pos (by simp) (EvQ.ret (by simp))) (fun h => ?_)
  have h : (ofV ax ay bx by_ cx cy dx dy).2.2 = true := by simpa using h
  obtain ⟨hl, t, l, hq, hv⟩ := of_true h
  obtain ⟨h0, e1, q1⟩ := quoV_true hq
  have ql := okQ_iff.1 q1
  have ba := okP_iff.1 hl.a
  have bb := okP_iff.1 hl.b
  have w1 : wrap64 (bx - ax) = bx - ax := w64 (by omega) (by omega)
  have hj1 : EvQ (fun k => laws_FnCrossOf.j1 k false ax ay bx by_ cx cy dx dy t l) (fun r => r = true) := by
    refine EvQ.step (fun k => by simp only [laws_FnCrossOf.j1]; rfl) ?_
    refine EvQ.neg (by simp) (EvQ.call (implAt _ _ _ _ _ _ _ _) (EvQ.bindc rfl (EvQ.call (implTimes _ _ _ _) (EvQ.bindc rfl (EvQ.call (implAdd _ _ _ _) ?_)))))
    refine EvQ.ite (fun hs => EvQ.ite (fun ht => EvQ.ite (fun hr => EvQ.ret ?_) (fun _ => EvQ.ret rfl)) (fun _ => EvQ.ret rfl)) (fun _ => EvQ.ret rfl)
    obtain ⟨T, L, V, M, hx, hat⟩ := at_first hs
    obtain ⟨vt, vl, hm, hmv⟩ := mul_true ht
    rw [hmv] at hr ⊢
    obtain ⟨_, _, r1, r2, hsum, hsv⟩ := sum_true hr
    rw [hat, hsv]
    obtain ⟨_, e2, _⟩ := quoV_true hm
    rw [w1] at e2
    have key : (ax * pD ax ay bx by_ cx cy dx dy + pP ax ay bx by_ cx cy dx dy * (bx - ax)) * (vl * 1) = (vt * 1 + ax * vl) * pD ax ay bx by_ cx cy dx dy := by
      generalize pD ax ay bx by_ cx cy dx dy = D at *
      generalize pP ax ay bx by_ cx cy dx dy = Q at *
      refine Int.eq_of_mul_eq_mul_right (show l ≠ 0 by omega) ?_
      calc (ax * D + Q * (bx - ax)) * (vl * 1) * l = ax * D * vl * l + (l * Q) * (bx - ax) * vl := by grind
        _ = ax * D * vl * l + (t * D) * (bx - ax) * vl := by rw [e1]
        _ = ax * D * vl * l + (vl * (t * (bx - ax))) * D := by grind
        _ = ax * D * vl * l + (vt * (l * 1)) * D := by rw [e2]
        _ = (vt * 1 + ax * vl) * D * l := by grind
    obtain ⟨f1, f2⟩ := quo_uniq hx hsum key
    simp [f1, f2]
  have hbk : ofV bx by_ ax ay cx cy dx dy = quoV (pP ax ay bx by_ cx cy dx dy - pD ax ay bx by_ cx cy dx dy) (-pD ax ay bx by_ cx cy dx dy) := by
    have g1 : pD bx by_ ax ay cx cy dx dy = -pD ax ay bx by_ cx cy dx dy := by unfold pD cr; grind
    have g2 : pP bx by_ ax ay cx cy dx dy = pP ax ay bx by_ cx cy dx dy - pD ax ay bx by_ cx cy dx dy := by unfold pP pD cr; grind
    unfold ofV
    rw [if_pos ((lnOk_iff _ _ _ _ _ _ _ _).2 hl.back), g1, g2]
  refine EvQ.call (implOf _ _ _ _ _ _ _ _) (EvQ.call (implAdd _ _ _ _) ?_)
  rw [hv]
  refine EvQ.ite (fun hp => EvQ.ite (fun hr => ?_) (fun _ => hj1)) (fun _ => hj1)
  obtain ⟨_, x1, x2, hq2, hv2⟩ := of_true hp
  rw [hv2] at hbk hr ⊢
  obtain ⟨_, e3, q3⟩ := quoV_true hbk.symm
  obtain ⟨_, _, y1, y2, hsum, hsv⟩ := sum_true hr
  have qx := okQ_iff.1 q3
  simp only [] at hsum hsv
  have hone : t * x2 + x1 * l = l * x2 := by
    generalize pD ax ay bx by_ cx cy dx dy = D at *
    generalize pP ax ay bx by_ cx cy dx dy = Q at *
    refine Int.eq_of_mul_eq_mul_right h0 ?_
    calc (t * x2 + x1 * l) * D = (t * D) * x2 - l * (x1 * -D) := by grind
      _ = (l * Q) * x2 - l * (x2 * (Q - D)) := by rw [e1, e3]
      _ = l * x2 * D := by grind
  have hlp : 0 < l * x2 := Int.mul_pos (by omega) (by omega)
  have hlb := prod_le (B := 1000000000) (C := 1000000000) (show -1000000000 ≤ l ∧ l ≤ 1000000000 by omega) (show -1000000000 ≤ x2 ∧ x2 ≤ 1000000000 by omega) (by omega) (by omega)
  rw [hone, quoV_self hlp (by omega)] at hsum
  simp only [Prod.mk.injEq, and_true] at hsum
  obtain ⟨rfl, rfl⟩ := hsum
  refine EvQ.bindc rfl ?_
  rw [hsv]
  exact hj1
end Go.Proofs.Ytgoejfdciejikaa.Pure

/- Inner crossings lie between: the law holds for every code of bytes. No condition is added. -/
import Derived.Test.YtgoejfdciejikaaPx29
import Derived.Test.YtgoejfdciejikaaCrossD
import Derived.Test.YtgoejfdciejikaaCrossF
import Derived.Test.YtgoejfdciejikaaDrawLines
set_option linter.unusedVariables false
set_option linter.unusedSimpArgs false
namespace Go.Proofs.Ytgoejfdciejikaa.Pure
open Go.RowKit Go.Proofs.Ytgoejfdciejikaa.P Go.Proofs.YtgoejfdciejikaaW.PrintWords Go.Proofs.Ytgoejfdciejikaa.Ev Go.Proofs.Ytgoejfdciejikaa.Cr Go.Proofs.Ytgoejfdciejikaa.Pick
theorem FnCrossInner : laws_FnCrossInner.Pure := by
  intro c _ _ hw
  refine EvQ.rounds (g := fun k => laws_FnCrossInner.f k c) ?_
  unfold laws_FnCrossInner.f
  refine EvQ.ite (fun _ => EvQ.ret rfl) (fun _ => ?_)
  unfold spec_DrawCrossInner.f
  obtain ⟨b, hb, hb2⟩ := openQ hw
  refine EvQ.bind (P := fun _ => True) (EvQ.bindc hb (EvQ.bind (lines hb2 (by simp) (by simp)) (fun _ _ => EvQ.ret trivial))) ?_
  rintro ⟨ax, ay, bx, by_, cx, cy, dx, dy⟩ _
  simp only []
  refine EvQ.bindc (implInner _ _ _ _ _ _ _ _) (EvQ.call (specInner _ _ _ _ _ _ _ _) (EvQ.neg (by simp) ?_))
  refine EvQ.step (fun k => by simp only [laws_FnCrossInner.j0]; rfl) ?_
  refine EvQ.ite (fun _ => EvQ.ret (by simp)) (fun h => ?_)
  have h : inner ax ay bx by_ cx cy dx dy = true := by simpa using h
  obtain ⟨hl, h0, hP, hQ⟩ := inner_iff.1 h
  have ho : ofV ax ay bx by_ cx cy dx dy = quoV (pP ax ay bx by_ cx cy dx dy) (pD ax ay bx by_ cx cy dx dy) := by unfold ofV; rw [if_pos ((lnOk_iff _ _ _ _ _ _ _ _).2 hl)]
  have hz : ofV cx cy dx dy ax ay bx by_ = quoV (-pQ ax ay bx by_ cx cy dx dy) (-pD ax ay bx by_ cx cy dx dy) := by unfold ofV; rw [if_pos ((lnOk_iff _ _ _ _ _ _ _ _).2 hl.swap), pD_swap, pP_swap]
  refine EvQ.call (implOf _ _ _ _ _ _ _ _) (EvQ.call (implOf _ _ _ _ _ _ _ _) ?_)
  have ba := okP_iff.1 hl.a
  have bb := okP_iff.1 hl.b
  have w1 : wrap64 (wrap64 (2 * bx) - ax) = 2 * bx - ax := by rw [w64 (n := 2 * bx) (by omega) (by omega), w64 (by omega) (by omega)]
  have w2 : wrap64 (wrap64 (2 * by_) - ay) = 2 * by_ - ay := by rw [w64 (n := 2 * by_) (by omega) (by omega), w64 (by omega) (by omega)]
  have hj2 : ∀ (x y : Bool) (t l : Int), x = true → (y = false → (ofV ax ay bx by_ cx cy dx dy = (t, l, true) ∧ okP (2 * bx - ax) (2 * by_ - ay) = true)) → EvQ (fun k => laws_FnCrossInner.j2 k x y ax ay bx by_ cx cy dx dy t l (wrap64 (wrap64 (2 * bx) - ax)) (wrap64 (wrap64 (2 * by_) - ay))) (fun r => r = true) := by
    rintro _ y t l rfl hy
    refine EvQ.step (fun k => by simp only [laws_FnCrossInner.j2]; rfl) ?_
    refine EvQ.ite (fun _ => EvQ.pos trivial (EvQ.bindc (implInner _ _ _ _ _ _ _ _) (EvQ.ret (inner_swap h)))) (fun hn => ?_)
    obtain ⟨hx, he⟩ := hy (by simpa using hn)
    refine EvQ.pos trivial (EvQ.bindc (implInner _ _ _ _ _ _ _ _) (EvQ.pos (inner_swap h) ?_))
    rw [w1, w2]
    refine EvQ.bindc (implInner _ _ _ _ _ _ _ _) (EvQ.bindc rfl (EvQ.ret ?_))
    rw [ho] at hx
    have h1 := quo_one hx
    have hin : inner bx by_ (2 * bx - ax) (2 * by_ - ay) cx cy dx dy = true ↔ pP ax ay bx by_ cx cy dx dy = pD ax ay bx by_ cx cy dx dy := by
      have e1 : pD bx by_ (2 * bx - ax) (2 * by_ - ay) cx cy dx dy = pD ax ay bx by_ cx cy dx dy := by unfold pD cr; grind
      have e2 : pP bx by_ (2 * bx - ax) (2 * by_ - ay) cx cy dx dy = pP ax ay bx by_ cx cy dx dy - pD ax ay bx by_ cx cy dx dy := by unfold pP pD cr; grind
      have e3 : pQ bx by_ (2 * bx - ax) (2 * by_ - ay) cx cy dx dy = pQ ax ay bx by_ cx cy dx dy := by unfold pQ cr; grind
      rw [inner_iff, e1, e2, e3]
      constructor
      · rintro ⟨_, _, h2, _⟩; unfold Bt at h2 hP; omega
      · intro h2
        exact ⟨⟨hl.b, he, hl.c, hl.d, by have := hl.ab; omega, hl.cd⟩, h0, by unfold Bt at hP ⊢; omega, hQ⟩
    have e5 : inner bx by_ (2 * bx - ax) (2 * by_ - ay) cx cy dx dy = (t == 1 && l == 1) := by
      rw [Bool.eq_iff_iff, hin, ← h1]; simp
    rw [e5]; simp
  have hj1 : ∀ (x : Bool) (t l : Int), x = true → EvQ (fun k => laws_FnCrossInner.j1 k (ofV ax ay bx by_ cx cy dx dy).2.2 x ax ay bx by_ cx cy dx dy (ofV ax ay bx by_ cx cy dx dy).1 (ofV ax ay bx by_ cx cy dx dy).2.1) (fun r => r = true) := by
    rintro _ t l rfl
    refine EvQ.step (fun k => by simp only [laws_FnCrossInner.j1]; rfl) ?_
    refine EvQ.ite (fun ht => ?_) (fun ht => hj2 _ _ _ _ rfl (fun h => by cases h))
    rw [w1, w2]
    refine EvQ.bindc (implPointValid _ _) ?_
    rw [← w1, ← w2]
    refine hj2 _ _ _ _ rfl (fun hy => ⟨?_, ?_⟩)
    · rw [← ht]
    · rw [w1, w2] at hy; simpa using hy
  generalize hx : ofV ax ay bx by_ cx cy dx dy = x at *
  generalize hy : ofV cx cy dx dy ax ay bx by_ = y at *
  obtain ⟨t, l, p⟩ := x
  obtain ⟨t2, l2, q⟩ := y
  simp only []
  have hy2 : q = true → t2 ≥ 0 ∧ t2 ≤ l2 := by
    rintro rfl
    exact quo_bt hz.symm (Bt.neg.2 hQ)
  cases p with
  | true =>
    have hx2 := quo_bt ho.symm hP
    refine EvQ.pos rfl (EvQ.pos hx2.1 (EvQ.pos hx2.2 ?_))
    refine EvQ.ite (fun hq => EvQ.pos (hy2 hq).1 (hj1 _ 0 0 (by simpa using (hy2 hq).2))) (fun hq => hj1 _ 0 0 rfl)
  | false =>
    refine EvQ.neg (by simp) ?_
    refine EvQ.ite (fun hq => EvQ.pos (hy2 hq).1 (hj1 _ 0 0 (by simpa using (hy2 hq).2))) (fun hq => hj1 _ 0 0 rfl)
end Go.Proofs.Ytgoejfdciejikaa.Pure

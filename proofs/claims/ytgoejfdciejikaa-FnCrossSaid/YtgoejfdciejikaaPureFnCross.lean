/- A crossing is on both lines: the law holds for every code of bytes. No condition is added. -/
import Derived.Test.YtgoejfdciejikaaPx33
import Derived.Test.YtgoejfdciejikaaCrossAtP
import Derived.Test.YtgoejfdciejikaaDrawLines
set_option linter.unusedVariables false
set_option linter.unusedSimpArgs false
namespace Go.Proofs.Ytgoejfdciejikaa.Pure
open Go.RowKit Go.Proofs.Ytgoejfdciejikaa.P Go.Proofs.YtgoejfdciejikaaW.PrintWords Go.Proofs.Ytgoejfdciejikaa.Ev Go.Proofs.Ytgoejfdciejikaa.Cr Go.Proofs.Ytgoejfdciejikaa.Pick
theorem at_true {ax ay bx by_ cx cy dx dy : Int} (h : (atV ax ay bx by_ cx cy dx dy).2.2.2.2 = true) : Ln ax ay bx by_ cx cy dx dy ∧ ∃ T L V M, atX ax (bx - ax) (pP ax ay bx by_ cx cy dx dy) (pD ax ay bx by_ cx cy dx dy) = (T, L, true) ∧ atX ay (by_ - ay) (pP ax ay bx by_ cx cy dx dy) (pD ax ay bx by_ cx cy dx dy) = (V, M, true) ∧ atV ax ay bx by_ cx cy dx dy = (T, L, V, M, true) := by
  unfold atV at h ⊢
  split at h
  · rename_i hl
    rw [if_pos hl]
    refine ⟨(lnOk_iff _ _ _ _ _ _ _ _).1 hl, ?_⟩
    generalize atX ax (bx - ax) (pP ax ay bx by_ cx cy dx dy) (pD ax ay bx by_ cx cy dx dy) = x at *
    generalize atX ay (by_ - ay) (pP ax ay bx by_ cx cy dx dy) (pD ax ay bx by_ cx cy dx dy) = y at *
    obtain ⟨T, L, p⟩ := x
    obtain ⟨V, M, q⟩ := y
    unfold both at h ⊢
    cases p with
    | false => simp at h
    | true =>
      cases q with
      | false => simp at h
      | true => exact ⟨T, L, V, M, rfl, rfl, by simp⟩
  · simp at h
/-- On a line: the products agree, with Go's wraps. -/
theorem online {a b sx sy P D T L V M : Int} (ha : -10000 ≤ a ∧ a ≤ 10000) (hb : -10000 ≤ b ∧ b ≤ 10000) (hsx : -20000 ≤ sx ∧ sx ≤ 20000) (hsy : -20000 ≤ sy ∧ sy ≤ 20000) (hD : D ≠ 0) (h1 : T * D = L * (a * D + P * sx)) (h2 : V * D = M * (b * D + P * sy)) (q1 : okQ T L = true) (q2 : okQ V M = true) :
    wrap64 (wrap64 (sx * wrap64 (V - wrap64 (b * M))) * L) = wrap64 (wrap64 (sy * wrap64 (T - wrap64 (a * L))) * M) := by
  have o1 := okQ_iff.1 q1
  have o2 := okQ_iff.1 q2
  have p1 := prod_le (B := 10000) (C := 1000000000) hb (show -1000000000 ≤ M ∧ M ≤ 1000000000 by omega) (by omega) (by omega)
  have p2 := prod_le (B := 10000) (C := 1000000000) ha (show -1000000000 ≤ L ∧ L ≤ 1000000000 by omega) (by omega) (by omega)
  rw [w64 (n := b * M) (by omega) (by omega), w64 (n := a * L) (by omega) (by omega), w64 (n := V - b * M) (by omega) (by omega), w64 (n := T - a * L) (by omega) (by omega)]
  have p3 := prod_le (B := 20000) (C := 20000000000000) hsx (show -20000000000000 ≤ V - b * M ∧ V - b * M ≤ 20000000000000 by omega) (by omega) (by omega)
  have p4 := prod_le (B := 20000) (C := 20000000000000) hsy (show -20000000000000 ≤ T - a * L ∧ T - a * L ≤ 20000000000000 by omega) (by omega) (by omega)
  rw [w64 (n := sx * (V - b * M)) (by omega) (by omega), w64 (n := sy * (T - a * L)) (by omega) (by omega)]
  congr 1
  refine Int.eq_of_mul_eq_mul_right hD ?_
  have e1 : (T - a * L) * D = L * (P * sx) := by grind
  have e2 : (V - b * M) * D = M * (P * sy) := by grind
  calc sx * (V - b * M) * L * D = sx * L * ((V - b * M) * D) := by grind
    _ = sx * L * (M * (P * sy)) := by rw [e2]
    _ = sy * M * (L * (P * sx)) := by grind
    _ = sy * M * ((T - a * L) * D) := by rw [e1]
    _ = sy * (T - a * L) * M * D := by grind
theorem FnCross : laws_FnCross.Pure := by
  intro c _ _ hw
  refine EvQ.rounds (g := fun k => laws_FnCross.f k c) ?_
  unfold laws_FnCross.f
  refine EvQ.ite (fun _ => EvQ.ret rfl) (fun _ => ?_)
  unfold spec_DrawCrossAt.f
  obtain ⟨b, hb, hb2⟩ := openQ hw
  refine EvQ.bind (P := fun _ => True) (EvQ.bindc hb (EvQ.bind (lines hb2 (by simp) (by simp)) (fun _ _ => EvQ.ret trivial))) ?_
  rintro ⟨ax, ay, bx, by_, cx, cy, dx, dy⟩ _
  simp only []
  refine EvQ.call (implAt _ _ _ _ _ _ _ _) (EvQ.call (specAt _ _ _ _ _ _ _ _) (EvQ.neg (by simp) (EvQ.neg (by simp) (EvQ.neg (by simp) ?_))))
  refine EvQ.step (fun k => by simp only [laws_FnCross.j0]; rfl) ?_
  refine EvQ.ite (fun _ => EvQ.pos (by simp) (EvQ.pos (by simp) (EvQ.ret (by simp)))) (fun h => ?_)
  have h : (atV ax ay bx by_ cx cy dx dy).2.2.2.2 = true := by simpa using h
  obtain ⟨hl, T, L, V, M, hx, hy, hv⟩ := at_true h
  obtain ⟨h0, e1, q1⟩ := quoV_true hx
  obtain ⟨_, e2, q2⟩ := quoV_true hy
  have hsw : atV cx cy dx dy ax ay bx by_ = (T, L, V, M, true) := by
    unfold atV
    rw [if_pos ((lnOk_iff _ _ _ _ _ _ _ _).2 hl.swap), pD_swap, pP_swap]
    have f1 : atX cx (dx - cx) (-pQ ax ay bx by_ cx cy dx dy) (-pD ax ay bx by_ cx cy dx dy) = (T, L, true) := by
      rw [← hx]; unfold atX
      rw [Int.mul_neg, Int.neg_mul, ← Int.neg_add, quoV_neg]
      congr 1; unfold pP pQ pD cr; grind
    have f2 : atX cy (dy - cy) (-pQ ax ay bx by_ cx cy dx dy) (-pD ax ay bx by_ cx cy dx dy) = (V, M, true) := by
      rw [← hy]; unfold atX
      rw [Int.mul_neg, Int.neg_mul, ← Int.neg_add, quoV_neg]
      congr 1; unfold pP pQ pD cr; grind
    rw [f1, f2]; rfl
  have hbk : atV bx by_ ax ay cx cy dx dy = (T, L, V, M, true) := by
    have g1 : pD bx by_ ax ay cx cy dx dy = -pD ax ay bx by_ cx cy dx dy := by unfold pD cr; grind
    have g2 : pP bx by_ ax ay cx cy dx dy = pP ax ay bx by_ cx cy dx dy - pD ax ay bx by_ cx cy dx dy := by unfold pP pD cr; grind
    unfold atV
    rw [if_pos ((lnOk_iff _ _ _ _ _ _ _ _).2 hl.back), g1, g2]
    have f1 : atX bx (ax - bx) (pP ax ay bx by_ cx cy dx dy - pD ax ay bx by_ cx cy dx dy) (-pD ax ay bx by_ cx cy dx dy) = (T, L, true) := by
      rw [← hx]; unfold atX
      rw [← quoV_neg]; congr 1 <;> grind
    have f2 : atX by_ (ay - by_) (pP ax ay bx by_ cx cy dx dy - pD ax ay bx by_ cx cy dx dy) (-pD ax ay bx by_ cx cy dx dy) = (V, M, true) := by
      rw [← hy]; unfold atX
      rw [← quoV_neg]; congr 1 <;> grind
    rw [f1, f2]; rfl
  refine EvQ.call (implAt _ _ _ _ _ _ _ _) (EvQ.call (implAt _ _ _ _ _ _ _ _) ?_)
  rw [hsw, hbk, hv]
  simp only []
  have ha := okP_iff.1 hl.a; have hb := okP_iff.1 hl.b; have hc := okP_iff.1 hl.c; have hd := okP_iff.1 hl.d
  have k1 : cx * pD ax ay bx by_ cx cy dx dy + pQ ax ay bx by_ cx cy dx dy * (dx - cx) = ax * pD ax ay bx by_ cx cy dx dy + pP ax ay bx by_ cx cy dx dy * (bx - ax) := by unfold pP pQ pD cr; grind
  have k2 : cy * pD ax ay bx by_ cx cy dx dy + pQ ax ay bx by_ cx cy dx dy * (dy - cy) = ay * pD ax ay bx by_ cx cy dx dy + pP ax ay bx by_ cx cy dx dy * (by_ - ay) := by unfold pP pQ pD cr; grind
  rw [(df ha.1 hb.1).2, (df ha.2 hb.2).2, (df hc.1 hd.1).2, (df hc.2 hd.2).2]
  have on1 := online ha.1 ha.2 (df ha.1 hb.1).1 (df ha.2 hb.2).1 h0 e1 e2 q1 q2
  have on2 := online hc.1 hc.2 (df hc.1 hd.1).1 (df hc.2 hd.2).1 h0 (by rw [k1]; exact e1) (by rw [k2]; exact e2) q1 q2
  exact EvQ.pos trivial (EvQ.pos trivial (EvQ.pos (by simp) (EvQ.pos (by simp) (EvQ.pos (by simp) (EvQ.pos (by simp) (EvQ.pos on1 (EvQ.ret (by simpa using on2))))))))
end Go.Proofs.Ytgoejfdciejikaa.Pure

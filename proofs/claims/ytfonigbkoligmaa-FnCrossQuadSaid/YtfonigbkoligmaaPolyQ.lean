import Derived.Test.YtfonigbkoligmaaPolyA
import Derived.Test.YtfonigbkoligmaaPx10
import Derived.Test.YtfonigbkoligmaaPx9
set_option linter.unusedVariables false
set_option linter.unusedSimpArgs false
namespace Go.Proofs.Ytfonigbkoligmaa.Cr
open Go.RowKit Go.Proofs.Ytfonigbkoligmaa.P Go.Proofs.YtfonigbkoligmaaW.PrintWords Go.Proofs.YtfonigbkoligmaaW.PrintLast Go.Proofs.YtfonigbkoligmaaW.PrintMore Go.Proofs.Ytfonigbkoligmaa.Ev
abbrev q4 (x0 y0 x1 y1 x2 y2 x3 y3 : Int) : List S33 := [⟨x0, y0⟩, ⟨x1, y1⟩, ⟨x2, y2⟩, ⟨x3, y3⟩]
theorem four {i : Nat} (h : i < 4) : i = 0 ∨ i = 1 ∨ i = 2 ∨ i = 3 := by omega
def Turns (x0 y0 x1 y1 x2 y2 x3 y3 : Int) : Prop := (0 < S3 x0 y0 x1 y1 x2 y2 ∧ 0 < S3 x1 y1 x2 y2 x3 y3 ∧ 0 < S3 x2 y2 x3 y3 x0 y0 ∧ 0 < S3 x3 y3 x0 y0 x1 y1) ∨ (S3 x0 y0 x1 y1 x2 y2 < 0 ∧ S3 x1 y1 x2 y2 x3 y3 < 0 ∧ S3 x2 y2 x3 y3 x0 y0 < 0 ∧ S3 x3 y3 x0 y0 x1 y1 < 0)
theorem S3_01 (x y a b : Int) : S3 x y x y a b = 0 := by unfold S3 cr; grind
theorem S3_02 (x y a b : Int) : S3 x y a b x y = 0 := by unfold S3 cr; grind
theorem vd4 {x0 y0 x1 y1 x2 y2 x3 y3 : Int} (h0 : okP x0 y0 = true) (h1 : okP x1 y1 = true) (h2 : okP x2 y2 = true) (h3 : okP x3 y3 = true) : vdB (q4 x0 y0 x1 y1 x2 y2 x3 y3) = true := by
  rw [vdB_iff]
  refine ⟨by simp, by simp, fun i hi => ?_⟩
  rw [inR_P]
  rcases four hi with rfl | rfl | rfl | rfl
  · exact h0
  · exact h1
  · exact h2
  · exact h3
theorem area4 (x0 y0 x1 y1 x2 y2 x3 y3 : Int) : area (q4 x0 y0 x1 y1 x2 y2 x3 y3) = S3 x0 y0 x1 y1 x2 y2 + S3 x2 y2 x3 y3 x0 y0 := by
  show arZ (plX (q4 x0 y0 x1 y1 x2 y2 x3 y3)) (plY (q4 x0 y0 x1 y1 x2 y2 x3 y3)) 4 4 = _
  show 0 + cr x0 y0 x1 y1 + cr x1 y1 x2 y2 + cr x2 y2 x3 y3 + cr x3 y3 x0 y0 = _
  unfold S3 cr; grind
theorem quad_ok {x0 y0 x1 y1 x2 y2 x3 y3 : Int} (h0 : okP x0 y0 = true) (h1 : okP x1 y1 = true) (h2 : okP x2 y2 = true) (h3 : okP x3 y3 = true) (ht : Turns x0 y0 x1 y1 x2 y2 x3 y3) : okB (q4 x0 y0 x1 y1 x2 y2 x3 y3) = true := by
  have n0 : S3 x0 y0 x1 y1 x2 y2 ≠ 0 := by unfold Turns at ht; omega
  have n1 : S3 x1 y1 x2 y2 x3 y3 ≠ 0 := by unfold Turns at ht; omega
  have n2 : S3 x2 y2 x3 y3 x0 y0 ≠ 0 := by unfold Turns at ht; omega
  have n3 : S3 x3 y3 x0 y0 x1 y1 ≠ 0 := by unfold Turns at ht; omega
  have s03 : (0 < S3 x0 y0 x1 y1 x2 y2 ∧ 0 < S3 x3 y3 x0 y0 x1 y1) ∨ (S3 x0 y0 x1 y1 x2 y2 < 0 ∧ S3 x3 y3 x0 y0 x1 y1 < 0) := by unfold Turns at ht; omega
  have s10 : (0 < S3 x1 y1 x2 y2 x3 y3 ∧ 0 < S3 x0 y0 x1 y1 x2 y2) ∨ (S3 x1 y1 x2 y2 x3 y3 < 0 ∧ S3 x0 y0 x1 y1 x2 y2 < 0) := by unfold Turns at ht; omega
  have s21 : (0 < S3 x2 y2 x3 y3 x0 y0 ∧ 0 < S3 x1 y1 x2 y2 x3 y3) ∨ (S3 x2 y2 x3 y3 x0 y0 < 0 ∧ S3 x1 y1 x2 y2 x3 y3 < 0) := by unfold Turns at ht; omega
  have s32 : (0 < S3 x3 y3 x0 y0 x1 y1 ∧ 0 < S3 x2 y2 x3 y3 x0 y0) ∨ (S3 x3 y3 x0 y0 x1 y1 < 0 ∧ S3 x2 y2 x3 y3 x0 y0 < 0) := by unfold Turns at ht; omega
  have d01 : ¬ (x0 = x1 ∧ y0 = y1) := fun h => n0 (by rw [h.1, h.2]; exact S3_01 _ _ _ _)
  have d12 : ¬ (x1 = x2 ∧ y1 = y2) := fun h => n1 (by rw [h.1, h.2]; exact S3_01 _ _ _ _)
  have d23 : ¬ (x2 = x3 ∧ y2 = y3) := fun h => n2 (by rw [h.1, h.2]; exact S3_01 _ _ _ _)
  have d30 : ¬ (x3 = x0 ∧ y3 = y0) := fun h => n3 (by rw [h.1, h.2]; exact S3_01 _ _ _ _)
  have d02 : ¬ (x0 = x2 ∧ y0 = y2) := fun h => n0 (by rw [h.1, h.2]; exact S3_02 _ _ _ _)
  have d13 : ¬ (x1 = x3 ∧ y1 = y3) := fun h => n1 (by rw [h.1, h.2]; exact S3_02 _ _ _ _)
  unfold okB
  rw [vd4 h0 h1 h2 h3, Bool.true_and]
  show smB (plX (q4 x0 y0 x1 y1 x2 y2 x3 y3)) (plY (q4 x0 y0 x1 y1 x2 y2 x3 y3)) 4 = true
  rw [smB_iff]
  have r0 := S3_rot x0 y0 x1 y1 x2 y2
  have r1 := S3_rot x1 y1 x2 y2 x3 y3
  have r2 := S3_rot x2 y2 x3 y3 x0 y0
  have r3 := S3_rot x3 y3 x0 y0 x1 y1
  refine ⟨fun i hi j hj0 hj => ?_, fun i hi => ⟨?_, fun j hj0 hj => ?_⟩⟩
  · have hj3 : j = 1 ∨ j = 2 ∨ j = 3 := by omega
    rcases four hi with rfl | rfl | rfl | rfl <;> rcases hj3 with rfl | rfl | rfl
    · exact fun h => d01 ⟨h.1.symm, h.2.symm⟩
    · exact fun h => d02 ⟨h.1.symm, h.2.symm⟩
    · exact fun h => d30 h
    · exact fun h => d12 ⟨h.1.symm, h.2.symm⟩
    · exact fun h => d13 ⟨h.1.symm, h.2.symm⟩
    · exact fun h => d01 h
    · exact fun h => d23 ⟨h.1.symm, h.2.symm⟩
    · exact fun h => d02 h
    · exact fun h => d12 h
    · exact fun h => d30 ⟨h.1.symm, h.2.symm⟩
    · exact fun h => d13 h
    · exact fun h => d23 h
  · rcases four hi with rfl | rfl | rfl | rfl
    · show (onB x0 y0 x1 y1 x2 y2 || onB x1 y1 x2 y2 x0 y0) = false
      rw [onB_ne h0 h1 h2 n0, onB_ne h1 h2 h0 (by rw [r0]; exact n0)]; rfl
    · show (onB x1 y1 x2 y2 x3 y3 || onB x2 y2 x3 y3 x1 y1) = false
      rw [onB_ne h1 h2 h3 n1, onB_ne h2 h3 h1 (by rw [r1]; exact n1)]; rfl
    · show (onB x2 y2 x3 y3 x0 y0 || onB x3 y3 x0 y0 x2 y2) = false
      rw [onB_ne h2 h3 h0 n2, onB_ne h3 h0 h2 (by rw [r2]; exact n2)]; rfl
    · show (onB x3 y3 x0 y0 x1 y1 || onB x0 y0 x1 y1 x3 y3) = false
      rw [onB_ne h3 h0 h1 n3, onB_ne h0 h1 h3 (by rw [r3]; exact n3)]; rfl
  · have hj2 : j = 2 := by omega
    subst hj2
    rcases four hi with rfl | rfl | rfl | rfl
    · show meetB x0 y0 x1 y1 x2 y2 x3 y3 = false
      exact meetB_ne h0 h1 h2 h3 n0 (by rw [r3]; exact n3) n2 (by rw [r1]; exact n1) (by rw [r3]; exact s03)
    · show meetB x1 y1 x2 y2 x3 y3 x0 y0 = false
      exact meetB_ne h1 h2 h3 h0 n1 (by rw [r0]; exact n0) n3 (by rw [r2]; exact n2) (by rw [r0]; exact s10)
    · show meetB x2 y2 x3 y3 x0 y0 x1 y1 = false
      exact meetB_ne h2 h3 h0 h1 n2 (by rw [r1]; exact n1) n0 (by rw [r3]; exact n3) (by rw [r1]; exact s21)
    · show meetB x3 y3 x0 y0 x1 y1 x2 y2 = false
      exact meetB_ne h3 h0 h1 h2 n3 (by rw [r2]; exact n2) n1 (by rw [r0]; exact n0) (by rw [r2]; exact s32)
theorem quad_convex {x0 y0 x1 y1 x2 y2 x3 y3 : Int} (h0 : okP x0 y0 = true) (h1 : okP x1 y1 = true) (h2 : okP x2 y2 = true) (h3 : okP x3 y3 = true) (ht : Turns x0 y0 x1 y1 x2 y2 x3 y3) : cvB (plX (q4 x0 y0 x1 y1 x2 y2 x3 y3)) (plY (q4 x0 y0 x1 y1 x2 y2 x3 y3)) 4 = true := by
  have ha := (area_eq (vd4 h0 h1 h2 h3)).1
  rw [area4] at ha
  refine cvB_yes fun i hi => ?_
  have ha' : arN (plX (q4 x0 y0 x1 y1 x2 y2 x3 y3)) (plY (q4 x0 y0 x1 y1 x2 y2 x3 y3)) 4 4 = S3 x0 y0 x1 y1 x2 y2 + S3 x2 y2 x3 y3 x0 y0 := ha
  rw [ha']
  have key : ∀ s : Int, (0 < s ∧ 0 < S3 x0 y0 x1 y1 x2 y2 + S3 x2 y2 x3 y3 x0 y0) ∨ (s < 0 ∧ S3 x0 y0 x1 y1 x2 y2 + S3 x2 y2 x3 y3 x0 y0 < 0) → (sgI s == wrap64 (-sgI (S3 x0 y0 x1 y1 x2 y2 + S3 x2 y2 x3 y3 x0 y0))) = false := by
    intro s hs
    rw [beq_eq_false_iff_ne]
    rcases hs with ⟨h1, h2⟩ | ⟨h1, h2⟩
    · rw [show sgI s = 1 by unfold sgI; rw [if_neg (by omega), if_pos h1], show sgI (S3 x0 y0 x1 y1 x2 y2 + S3 x2 y2 x3 y3 x0 y0) = 1 by unfold sgI; rw [if_neg (by omega), if_pos h2]]
      unfold wrap64; omega
    · rw [show sgI s = -1 by unfold sgI; rw [if_pos h1], show sgI (S3 x0 y0 x1 y1 x2 y2 + S3 x2 y2 x3 y3 x0 y0) = -1 by unfold sgI; rw [if_pos h2]]
      unfold wrap64; omega
  unfold Turns at ht
  rcases four hi with rfl | rfl | rfl | rfl
  · show ((sdP x0 y0 x1 y1 x2 y2).1 == _) = false
    rw [sdP_eq h0 h1 h2]; exact key (S3 x0 y0 x1 y1 x2 y2) (by omega)
  · show ((sdP x1 y1 x2 y2 x3 y3).1 == _) = false
    rw [sdP_eq h1 h2 h3]; exact key (S3 x1 y1 x2 y2 x3 y3) (by omega)
  · show ((sdP x2 y2 x3 y3 x0 y0).1 == _) = false
    rw [sdP_eq h2 h3 h0]; exact key (S3 x2 y2 x3 y3 x0 y0) (by omega)
  · show ((sdP x3 y3 x0 y0 x1 y1).1 == _) = false
    rw [sdP_eq h3 h0 h1]; exact key (S3 x3 y3 x0 y0 x1 y1) (by omega)
theorem quad_not {x0 y0 x1 y1 x2 y2 x3 y3 : Int} (h : meetB x0 y0 x1 y1 x2 y2 x3 y3 = true) : okB (q4 x0 y0 x1 y1 x2 y2 x3 y3) = false := by
  cases hb : okB (q4 x0 y0 x1 y1 x2 y2 x3 y3) with
  | false => rfl
  | true =>
    unfold okB at hb
    rw [Bool.and_eq_true] at hb
    have hb2 : smB (plX (q4 x0 y0 x1 y1 x2 y2 x3 y3)) (plY (q4 x0 y0 x1 y1 x2 y2 x3 y3)) 4 = true := hb.2
    rw [smB_iff] at hb2
    have := (hb2.2 0 (by omega)).2 2 (by omega) (by omega)
    have this : meetB x0 y0 x1 y1 x2 y2 x3 y3 = false := this
    rw [h] at this
    exact this
theorem strict {ax ay bx by_ cx cy dx dy : Int} (h0 : pD ax ay bx by_ cx cy dx dy ≠ 0) (hP : Bt (pD ax ay bx by_ cx cy dx dy) (pP ax ay bx by_ cx cy dx dy)) (hQ : Bt (pD ax ay bx by_ cx cy dx dy) (pQ ax ay bx by_ cx cy dx dy))
    (e1 : ¬ On ax ay bx by_ cx cy) (e2 : ¬ On ax ay bx by_ dx dy) (e3 : ¬ On cx cy dx dy ax ay) (e4 : ¬ On cx cy dx dy bx by_) :
    (0 < pP ax ay bx by_ cx cy dx dy ∧ pP ax ay bx by_ cx cy dx dy < pD ax ay bx by_ cx cy dx dy ∧ 0 < pQ ax ay bx by_ cx cy dx dy ∧ pQ ax ay bx by_ cx cy dx dy < pD ax ay bx by_ cx cy dx dy) ∨ (pP ax ay bx by_ cx cy dx dy < 0 ∧ pD ax ay bx by_ cx cy dx dy < pP ax ay bx by_ cx cy dx dy ∧ pQ ax ay bx by_ cx cy dx dy < 0 ∧ pD ax ay bx by_ cx cy dx dy < pQ ax ay bx by_ cx cy dx dy) := by
  have c1 : cr (bx - ax) (by_ - ay) (cx - ax) (cy - ay) = -pQ ax ay bx by_ cx cy dx dy := by unfold pQ cr; grind
  have c2 : cr (bx - ax) (by_ - ay) (dx - ax) (dy - ay) = pD ax ay bx by_ cx cy dx dy - pQ ax ay bx by_ cx cy dx dy := by unfold pD pQ cr; grind
  have c3 : cr (dx - cx) (dy - cy) (ax - cx) (ay - cy) = pP ax ay bx by_ cx cy dx dy := by unfold pP cr; grind
  have c4 : cr (dx - cx) (dy - cy) (bx - cx) (by_ - cy) = pP ax ay bx by_ cx cy dx dy - pD ax ay bx by_ cx cy dx dy := by unfold pD pP cr; grind
  have n1 : pQ ax ay bx by_ cx cy dx dy ≠ 0 := by
    intro h
    refine e1 ⟨by rw [c1, h]; rfl, Bt.of h0 ?_ hP, Bt.of h0 ?_ hP⟩
    · unfold pQ cr at h; unfold pD pP cr; grind
    · unfold pQ cr at h; unfold pD pP cr; grind
  have n2 : pQ ax ay bx by_ cx cy dx dy ≠ pD ax ay bx by_ cx cy dx dy := by
    intro h
    refine e2 ⟨by rw [c2, h]; omega, Bt.of h0 ?_ hP, Bt.of h0 ?_ hP⟩
    · unfold pQ pD cr at h; unfold pD pP cr; grind
    · unfold pQ pD cr at h; unfold pD pP cr; grind
  have n3 : pP ax ay bx by_ cx cy dx dy ≠ 0 := by
    intro h
    refine e3 ⟨by rw [c3, h], Bt.of h0 ?_ hQ, Bt.of h0 ?_ hQ⟩
    · unfold pP cr at h; unfold pD pQ cr; grind
    · unfold pP cr at h; unfold pD pQ cr; grind
  have n4 : pP ax ay bx by_ cx cy dx dy ≠ pD ax ay bx by_ cx cy dx dy := by
    intro h
    refine e4 ⟨by rw [c4, h]; omega, Bt.of h0 ?_ hQ, Bt.of h0 ?_ hQ⟩
    · unfold pP pD cr at h; unfold pD pQ cr; grind
    · unfold pP pD cr at h; unfold pD pQ cr; grind
  unfold Bt at hP hQ
  omega
end Go.Proofs.Ytfonigbkoligmaa.Cr

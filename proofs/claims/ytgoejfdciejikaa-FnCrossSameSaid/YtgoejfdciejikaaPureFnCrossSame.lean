/- Equal lines have all points: the law holds for every code of bytes. No condition is added. -/
import Derived.Test.YtgoejfdciejikaaPx31
import Derived.Test.YtgoejfdciejikaaCrossSameP
import Derived.Test.YtgoejfdciejikaaDrawLines
set_option linter.unusedVariables false
set_option linter.unusedSimpArgs false
namespace Go.Proofs.Ytgoejfdciejikaa.Pure
open Go.RowKit Go.Proofs.Ytgoejfdciejikaa.P Go.Proofs.YtgoejfdciejikaaW.PrintWords Go.Proofs.Ytgoejfdciejikaa.Ev Go.Proofs.Ytgoejfdciejikaa.Cr Go.Proofs.Ytgoejfdciejikaa.Pick
theorem FnCrossSame : laws_FnCrossSame.Pure := by
  intro c _ _ hw
  refine EvQ.rounds (g := fun k => laws_FnCrossSame.f k c) ?_
  unfold laws_FnCrossSame.f
  refine EvQ.ite (fun _ => EvQ.ret rfl) (fun _ => ?_)
  unfold spec_DrawCrossSame.f
  obtain ⟨b, hb, hb2⟩ := openQ hw
  refine EvQ.bind (P := fun _ => True) (EvQ.bindc hb (EvQ.bind (lines hb2 (by simp) (by simp)) ?_)) ?_
  · rintro r ⟨h1, h2⟩
    refine EvQ.bind (pick hb2 h1 (by simp only [] at h2; omega)) (fun s _ => EvQ.ite (fun _ => EvQ.ret trivial) (fun _ => EvQ.ret trivial))
  rintro ⟨ax, ay, bx, by_, cx, cy, dx, dy⟩ _
  simp only []
  refine EvQ.bindc (implSame _ _ _ _ _ _ _ _) (EvQ.bindc (specSame _ _ _ _ _ _ _ _) (EvQ.neg (by simp) ?_))
  refine EvQ.step (fun k => by simp only [laws_FnCrossSame.j0]; rfl) ?_
  refine EvQ.ite (fun _ => EvQ.ret (by simp)) (fun h => ?_)
  have h : same ax ay bx by_ cx cy dx dy = true := by simpa using h
  have hl := (same_iff.1 h).1
  obtain ⟨h0, h1, h2, h3, h4, h5⟩ := same_all h
  have hat : (atV ax ay bx by_ cx cy dx dy).2.2.2.2 = false := by
    unfold atV; rw [if_pos ((lnOk_iff _ _ _ _ _ _ _ _).2 hl), h0]
    unfold both atX quoV; simp
  refine EvQ.call (implAt _ _ _ _ _ _ _ _) (EvQ.bindc (implSide hl.a hl.b hl.c) (EvQ.bindc (implSide hl.a hl.b hl.d) (EvQ.bindc (implSide hl.c hl.d hl.a) ?_)))
  refine EvQ.bindc (implSame _ _ _ _ _ _ _ _) (EvQ.pos h1 (EvQ.bindc (implSame _ _ _ _ _ _ _ _) (EvQ.pos h2 ?_)))
  rw [hat]
  refine EvQ.neg (by simp) (EvQ.pos rfl (EvQ.pos rfl (EvQ.pos rfl (EvQ.pos h3 (EvQ.pos h4 (EvQ.pos h5 ?_))))))
  refine EvQ.bindc (implInner _ _ _ _ _ _ _ _) (EvQ.ret ?_)
  cases hi : inner ax ay bx by_ cx cy dx dy with
  | false => rfl
  | true => exact absurd h0 (inner_iff.1 hi).2.1
end Go.Proofs.Ytgoejfdciejikaa.Pure

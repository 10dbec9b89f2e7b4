import Derived.Test.YtfonigbkoligmaaPx11
import Derived.Test.YtfonigbkoligmaaPolyC
import Derived.Test.YtfonigbkoligmaaDrawLines
set_option linter.unusedVariables false
set_option linter.unusedSimpArgs false
namespace Go.Proofs.Ytfonigbkoligmaa.Pure
open Go.RowKit Go.Proofs.Ytfonigbkoligmaa.P Go.Proofs.YtfonigbkoligmaaW.PrintWords Go.Proofs.Ytfonigbkoligmaa.Ev Go.Proofs.Ytfonigbkoligmaa.Cr Go.Proofs.Ytfonigbkoligmaa.Pick
theorem implOn (ax ay bx by_ cx cy : Int) : EvQ (fun k => impl_PointOn.f k ax ay bx by_ cx cy) (fun r => r = onB ax ay bx by_ cx cy) := by
  refine ⟨onB ax ay bx by_ cx cy, rfl, 1, fun k hk => ?_⟩
  have := onB_f ax ay bx by_ cx cy
  obtain ⟨m, rfl⟩ : ∃ m, k = m + 1 := ⟨k - 1, by omega⟩
  unfold impl_PointOn.f at this ⊢
  simp only [impl_PointOn.j0] at this ⊢
  exact this
theorem evq_of_mono {β : Type} {g : Nat → Option β} (hm : ∀ k, LeO (g k) (g (k + 1))) {k : Nat} {r : β} (h : g k = some r) : EvQ g (fun x => x = r) := by
  refine ⟨r, rfl, k, fun m hk => ?_⟩
  induction m with
  | zero => rw [show k = 0 by omega] at h; exact h
  | succ m ih =>
    by_cases e : k = m + 1
    · rw [← e]; exact h
    · exact hm m r (ih (by omega))
theorem cvQ (l : List S33) : EvQ (fun k => impl_cornersValid.f k l) (fun r => r = vdB l) := by
  obtain ⟨k, hk⟩ := vd_f l
  exact evq_of_mono (fun k => impl_cornersValid.mono l k) hk
theorem back4 {x0 y0 x1 y1 x2 y2 x3 y3 : Int} (h : vdB (q4 x0 y0 x1 y1 x2 y2 x3 y3) = true) : EvQ (fun k => impl_PolyBack.f k (q4 x0 y0 x1 y1 x2 y2 x3 y3)) (fun r => r = (q4 x0 y0 x3 y3 x2 y2 x1 y1, true)) := by
  unfold impl_PolyBack.f
  refine EvQ.call (cvQ _) ?_
  refine EvQ.pos h (EvQ.pos (by simp) (EvQ.pos (by simp) ?_))
  refine EvQ.bindc rfl (EvQ.pos (by simp) (EvQ.pos (by simp) ?_))
  rw [show wrap64 (((q4 x0 y0 x1 y1 x2 y2 x3 y3).length : Int) - 1) = 3 from w64 (by simp) (by simp)]
  refine EvQ.step (fun k => by simp only [impl_PolyBack.l0]; rfl) ?_
  refine EvQ.pos (by omega) (EvQ.pos (by omega) (EvQ.pos (by simp) (EvQ.pos (by simp) ?_)))
  rw [show wrap64 (3 - 1) = 2 from w64 (by omega) (by omega)]
  refine EvQ.step (fun k => by simp only [impl_PolyBack.l0]; rfl) ?_
  refine EvQ.pos (by omega) (EvQ.pos (by omega) (EvQ.pos (by simp) (EvQ.pos (by simp) ?_)))
  rw [show wrap64 (2 - 1) = 1 from w64 (by omega) (by omega)]
  refine EvQ.step (fun k => by simp only [impl_PolyBack.l0]; rfl) ?_
  refine EvQ.pos (by omega) (EvQ.pos (by omega) (EvQ.pos (by simp) (EvQ.pos (by simp) ?_)))
  rw [show wrap64 (1 - 1) = 0 from w64 (by omega) (by omega)]
  refine EvQ.step (fun k => by simp only [impl_PolyBack.l0]; rfl) ?_
  exact EvQ.neg (by omega) (EvQ.ret rfl)
theorem FnCrossQuad : laws_FnCrossQuad.Pure := by
  intro c _ _ hw
  refine EvQ.rounds (g := fun k => laws_FnCrossQuad.f k c) ?_
  unfold laws_FnCrossQuad.f
  refine EvQ.ite (fun _ => EvQ.ret rfl) (fun _ => ?_)
  unfold spec_DrawCrossInner.f
  obtain ⟨b, hb, hb2⟩ := openQ hw
  refine EvQ.bind (P := fun _ => True) (EvQ.bindc hb (EvQ.bind (lines hb2 (by simp) (by simp)) (fun _ _ => EvQ.ret trivial))) ?_
  rintro ⟨ax, ay, bx, by_, cx, cy, dx, dy⟩ _
  simp only []
  refine EvQ.bindc (implInner _ _ _ _ _ _ _ _) (EvQ.call (specInner _ _ _ _ _ _ _ _) (EvQ.neg (by simp) ?_))
  refine EvQ.step (fun k => by simp only [laws_FnCrossQuad.j0]; rfl) ?_
  refine EvQ.ite (fun _ => EvQ.ret (by simp)) (fun h => ?_)
  have h : inner ax ay bx by_ cx cy dx dy = true := by simpa using h
  obtain ⟨hl, h0, hP, hQ⟩ := inner_iff.1 h
  have hin : inner ax ay bx by_ dx dy cx cy = true := by
    have e1 : pD ax ay bx by_ dx dy cx cy = -pD ax ay bx by_ cx cy dx dy := by unfold pD cr; grind
    have e2 : pP ax ay bx by_ dx dy cx cy = -pP ax ay bx by_ cx cy dx dy := by unfold pP cr; grind
    have e3 : pQ ax ay bx by_ dx dy cx cy = pQ ax ay bx by_ cx cy dx dy - pD ax ay bx by_ cx cy dx dy := by unfold pQ pD cr; grind
    rw [inner_iff, e1, e2, e3]
    refine ⟨⟨hl.a, hl.b, hl.d, hl.c, hl.ab, by have := hl.cd; omega⟩, by omega, ?_, ?_⟩
    · unfold Bt at hP ⊢; omega
    · unfold Bt at hQ ⊢; omega
  have hj1 : ∀ x : Bool, x = true → EvQ (fun k => laws_FnCrossQuad.j1 k x ax ay bx by_ cx cy dx dy) (fun r => r = true) := by
    rintro _ rfl
    refine EvQ.step (fun k => by simp only [laws_FnCrossQuad.j1]; rfl) ?_
    exact EvQ.pos (by trivial) (EvQ.bindc (implInner _ _ _ _ _ _ _ _) (EvQ.ret hin))
  refine EvQ.call (implOn _ _ _ _ _ _) (EvQ.ite (fun _ => hj1 _ rfl) (fun o1 => ?_))
  refine EvQ.call (implOn _ _ _ _ _ _) (EvQ.ite (fun _ => hj1 _ rfl) (fun o2 => ?_))
  refine EvQ.call (implOn _ _ _ _ _ _) (EvQ.ite (fun _ => hj1 _ rfl) (fun o3 => ?_))
  refine EvQ.call (implOn _ _ _ _ _ _) ?_
  by_cases o4 : onB cx cy dx dy bx by_ = true
  · exact hj1 _ o4
  rw [onB_eq hl.a hl.b hl.c, decide_eq_true_iff] at o1
  rw [onB_eq hl.a hl.b hl.d, decide_eq_true_iff] at o2
  rw [onB_eq hl.c hl.d hl.a, decide_eq_true_iff] at o3
  have o4' := o4
  rw [onB_eq hl.c hl.d hl.b, decide_eq_true_iff] at o4'
  have hs := strict h0 hP hQ o1 o2 o3 o4'
  have t0 : S3 ax ay cx cy bx by_ = pQ ax ay bx by_ cx cy dx dy := by unfold S3 pQ cr; grind
  have t1 : S3 cx cy bx by_ dx dy = pD ax ay bx by_ cx cy dx dy - pP ax ay bx by_ cx cy dx dy := by unfold S3 pD pP cr; grind
  have t2 : S3 bx by_ dx dy ax ay = pD ax ay bx by_ cx cy dx dy - pQ ax ay bx by_ cx cy dx dy := by unfold S3 pD pQ cr; grind
  have t3 : S3 dx dy ax ay cx cy = pP ax ay bx by_ cx cy dx dy := by unfold S3 pP cr; grind
  have ht : Turns ax ay cx cy bx by_ dx dy := by unfold Turns; rw [t0, t1, t2, t3]; omega
  have hok := quad_ok hl.a hl.c hl.b hl.d ht
  have hvd := okB_vd hok
  have hcv := quad_convex hl.a hl.c hl.b hl.d ht
  have hno : okB (q4 ax ay bx by_ cx cy dx dy) = false := by
    have u0 : S3 ax ay bx by_ cx cy = -pQ ax ay bx by_ cx cy dx dy := by unfold S3 pQ cr; grind
    have u1 : S3 ax ay bx by_ dx dy = pD ax ay bx by_ cx cy dx dy - pQ ax ay bx by_ cx cy dx dy := by unfold S3 pD pQ cr; grind
    have u2 : S3 cx cy dx dy ax ay = pP ax ay bx by_ cx cy dx dy := by unfold S3 pP cr; grind
    have u3 : S3 cx cy dx dy bx by_ = pP ax ay bx by_ cx cy dx dy - pD ax ay bx by_ cx cy dx dy := by unfold S3 pD pP cr; grind
    exact quad_not (meetB_cross hl.a hl.b hl.c hl.d (by rw [u0, u1]; omega) (by rw [u2, u3]; omega))
  have hj2 : ∀ (x : Bool) (sp : List _), x = true → EvQ (fun k => laws_FnCrossQuad.j2 k (q4 ax ay cx cy bx by_ dx dy) x sp ax ay bx by_ cx cy dx dy) (fun r => r = true) := by
    rintro _ sp rfl
    refine EvQ.step (fun k => by simp only [laws_FnCrossQuad.j2]; rfl) ?_
    refine EvQ.call (shareQ sp 0 2) ?_
    refine EvQ.pos (by trivial) ?_
    refine EvQ.bindc (a := true) (by unfold impl_PolyValid.f impl_PolyValid.v; rw [hok]) (EvQ.pos (by trivial) ?_)
    refine EvQ.bindc (a := true) (by unfold impl_PolyConvex.f impl_PolyConvex.v; rw [hok, Bool.true_and]; exact congrArg some hcv) (EvQ.pos (by trivial) ?_)
    refine EvQ.bindc (a := false) (by unfold impl_PolyValid.f impl_PolyValid.v; exact congrArg some hno) (EvQ.neg (by simp) ?_)
    by_cases hsp : (splitV sp 0 2).2.2 = true
    · rw [if_pos hsp]
      refine EvQ.ite (fun hq => ?_) (fun _ => EvQ.ret rfl)
      have hq' : quoV (area (splitV sp 0 2).1) (area sp) = ((quoV (area (splitV sp 0 2).1) (area sp)).1, (quoV (area (splitV sp 0 2).1) (area sp)).2.1, true) := by rw [← hq]
      have hr := share_in hsp hq'
      exact EvQ.pos hr.1 (EvQ.ret (decide_eq_true hr.2))
    · rw [if_neg hsp]
      exact EvQ.neg (by simp) (EvQ.ret rfl)
  refine EvQ.step (fun k => by simp only [laws_FnCrossQuad.j1]; rfl) ?_
  refine EvQ.neg o4 ?_
  refine EvQ.bindc rfl (EvQ.bindc (polyArea hvd) ?_)
  refine EvQ.ite (fun hneg => ?_) (fun hneg => hj2 _ _ rfl)
  exact EvQ.call (back4 hvd) (EvQ.pos rfl (hj2 _ _ rfl))
end Go.Proofs.Ytfonigbkoligmaa.Pure

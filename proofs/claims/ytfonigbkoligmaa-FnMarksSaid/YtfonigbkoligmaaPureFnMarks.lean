import Derived.Test.YtfonigbkoligmaaPx9
import Derived.Test.YtfonigbkoligmaaMarksQ
import Derived.Test.YtfonigbkoligmaaDrawPoly
set_option linter.unusedVariables false
set_option linter.unusedSimpArgs false
namespace Go.Proofs.Ytfonigbkoligmaa.Pure
open Go.RowKit Go.Proofs.Ytfonigbkoligmaa.P Go.Proofs.YtfonigbkoligmaaW.PrintWords Go.Proofs.Ytfonigbkoligmaa.Ev Go.Proofs.Ytfonigbkoligmaa.Cr Go.Proofs.Ytfonigbkoligmaa.Pick
theorem samePoints_refl {l : List S33} (hl : l.length ≤ 17592186044416) : EvQ (fun k => laws_samePoints.f k l l) (fun r => r = true) := by
  unfold laws_samePoints.f
  refine EvQ.pos rfl ?_
  refine EvQ.loop (σ := Unit) (g := fun k i _ => laws_samePoints.l0 k l l i) l.length (fun i _ => True) ?_ ?_ 0 () (by omega) trivial
  · rintro i _ hi hI ih
    refine EvQ.step (fun k => by simp only [laws_samePoints.l0]; rfl) ?_
    refine EvQ.pos (by omega) (EvQ.pos (by omega) (EvQ.pos (by omega) (EvQ.neg (by simp) ?_)))
    rw [w64i hi (by omega)]
    exact ih () trivial
  · rintro _ hI
    refine EvQ.step (fun k => by simp only [laws_samePoints.l0]; rfl) ?_
    exact EvQ.neg (by omega) (EvQ.ret rfl)
theorem validF {l : List S33} (h : prB l = true) : impl_ParcelValid.f l = some true := by
  unfold impl_ParcelValid.f impl_ParcelValid.v; rw [h]
theorem implOn (ax ay bx by_ cx cy : Int) : EvQ (fun k => impl_PointOn.f k ax ay bx by_ cx cy) (fun r => r = onB ax ay bx by_ cx cy) := by
  refine ⟨onB ax ay bx by_ cx cy, rfl, 1, fun k hk => ?_⟩
  have := onB_f ax ay bx by_ cx cy
  obtain ⟨m, rfl⟩ : ∃ m, k = m + 1 := ⟨k - 1, by omega⟩
  unfold impl_PointOn.f at this ⊢
  simp only [impl_PointOn.j0] at this ⊢
  exact this
theorem edgeF {l : List S33} (h : prB l = true) : impl_PolyEdge.f l = some (edge l) := by
  unfold impl_PolyEdge.f impl_PolyEdge.v
  rw [if_pos (prB_ok h), (edge_sg (okB_vd (prB_ok h))).1]
theorem FnMarks : laws_FnMarks.Pure := by
  intro c _ _ hw
  refine EvQ.rounds (g := fun k => laws_FnMarks.f k c) ?_
  unfold laws_FnMarks.f
  refine EvQ.ite (fun _ => EvQ.ret rfl) (fun _ => ?_)
  refine EvQ.bind (P := fun s => s.length ≤ 12) ?_ (fun l h12 => ?_)
  · unfold spec_DrawParcelMarks.f
    obtain ⟨b, hb, hb2⟩ := openQ hw
    refine EvQ.bindc hb (EvQ.bind (poly hb2 (by simp) (by simp)) ?_)
    rintro ⟨s, q⟩ ⟨h1, h2, h3⟩
    exact EvQ.ret h1
  refine EvQ.call implMarks (EvQ.call (specMarks (by omega)) (EvQ.neg (by simp) ?_))
  have hlen : (mkV l).1.length ≤ 1000 := by
    unfold mkV
    split
    · have := mkS_len l l.length; show (marks l).length ≤ 1000; unfold marks; omega
    · simp
  refine EvQ.call (samePoints_refl (by omega)) (EvQ.pos rfl ?_)
  refine EvQ.step (fun k => by simp only [laws_FnMarks.j0]; rfl) ?_
  refine EvQ.ite (fun _ => EvQ.pos (by simp) (EvQ.call (samePoints_refl (by omega)) (EvQ.ret rfl))) (fun h => ?_)
  have hp : prB l = true := by
    have h : (mkV l).2 = true := by simpa using h
    unfold mkV at h
    split at h
    · assumption
    · cases h
  have hv : mkV l = (marks l, true) := by unfold mkV; rw [if_pos hp]
  obtain ⟨pm, am, em, ns⟩ := marks_ok l.length l rfl hp
  have hv2 : mkV (marks l) = (marks l, true) := by unfold mkV; rw [if_pos pm, marks_ns ns]
  rw [hv]
  generalize marks l = w at *
  obtain ⟨h3, hw12, hx⟩ := vdB_ok (okB_vd (prB_ok pm))
  refine EvQ.bindc (polyArea (okB_vd (prB_ok hp))) (EvQ.bindc (polyArea (okB_vd (prB_ok pm))) (EvQ.call implMarks ?_))
  rw [hv2]
  refine EvQ.loop (σ := Unit) (g := fun k i _ => laws_FnMarks.l0 k l w (area l) true (area w) true w true (w.length : Int) i) w.length (fun _ _ => True) ?_ ?_ 0 () (by omega) trivial
  · rintro i _ hi _ ih
    have m1 := Nat.mod_lt (i + (w.length - 1)) (show 0 < w.length by omega)
    have m2 := Nat.mod_lt (i + 1) (show 0 < w.length by omega)
    refine EvQ.step (fun k => by simp only [laws_FnMarks.l0]; rfl) ?_
    rw [tmodP (by omega) (by omega) hi, tmodN (by omega) (by omega) hi, w64 (n := (i : Int) + 1) (by omega) (by omega)]
    refine EvQ.pos (by omega) (EvQ.neg (by omega) (EvQ.pos (by omega) (EvQ.pos (by omega) (EvQ.pos (by omega) (EvQ.pos (by omega) (EvQ.pos (by omega) (EvQ.pos (by omega) ?_)))))))
    have ht := ns i hi
    refine EvQ.call (implOn _ _ _ _ _ _) (EvQ.neg ?_ (ih () trivial))
    rw [Bool.not_eq_true]
    refine onB_ne (hx _ m1) (hx _ m2) (hx i hi) (fun h0 => ht ?_)
    unfold tri
    have e : ∀ ax ay bx by_ cx cy : Int, S3 ax ay bx by_ cx cy = -S3 ax ay cx cy bx by_ := by intros; unfold S3 cr; grind
    rw [e]
    change S3 (plX w ((i + (w.length - 1)) % w.length)) (plY w ((i + (w.length - 1)) % w.length)) (plX w ((i + 1) % w.length)) (plY w ((i + 1) % w.length)) (plX w i) (plY w i) = 0 at h0
    omega
  · rintro _ _
    obtain ⟨x, hx1, ex⟩ := inside pm
    obtain ⟨y, hy1, ey⟩ := inside hp
    refine EvQ.step (fun k => by simp only [laws_FnMarks.l0]; rfl) ?_
    refine EvQ.neg (by omega) (EvQ.pos trivial (EvQ.pos trivial (EvQ.pos trivial (EvQ.pos am.symm ?_))))
    refine EvQ.call (samePoints_refl (by omega)) (EvQ.pos rfl (EvQ.bindc (validF pm) (EvQ.pos rfl (EvQ.bindc hx1 (EvQ.bindc hy1 (EvQ.pos (by omega) ?_))))))
    refine EvQ.bindc (edgeF pm) (EvQ.bindc (edgeF hp) (EvQ.ret ?_))
    simp [em]
end Go.Proofs.Ytfonigbkoligmaa.Pure

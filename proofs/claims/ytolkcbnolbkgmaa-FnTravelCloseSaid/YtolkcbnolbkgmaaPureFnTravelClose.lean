import Derived.Test.YtolkcbnolbkgmaaPx8
import Derived.Test.YtolkcbnolbkgmaaCloseB
import Derived.Test.YtolkcbnolbkgmaaDrawClose
set_option linter.unusedVariables false
set_option linter.unusedSimpArgs false
namespace Go.Proofs.Ytolkcbnolbkgmaa.Pure
open Go.RowKit Go.Proofs.Ytolkcbnolbkgmaa.P Go.Proofs.YtolkcbnolbkgmaaW.PrintWords Go.Proofs.Ytolkcbnolbkgmaa.Ev Go.Proofs.Ytolkcbnolbkgmaa.TravA Go.Proofs.Ytolkcbnolbkgmaa.Pick
theorem mxlen {p : Pt} (h : okT p = true) : wrap64 (mx p.f0 (wrap64 (-p.f0)) + mx p.f1 (wrap64 (-p.f1))) = len p := by
  have hh := okT_of h
  rw [w64 (n := -p.f0) (by omega) (by omega), w64 (n := -p.f1) (by omega) (by omega)]
  unfold mx len ab
  rw [w64 (by split <;> split <;> omega) (by split <;> split <;> omega)]
  split <;> split <;> split <;> split <;> omega
theorem FnTravelClose : laws_FnTravelClose.Pure := by
  intro c _ _ hw
  refine EvQ.rounds (g := fun k => laws_FnTravelClose.f k c) ?_
  unfold laws_FnTravelClose.f
  refine EvQ.ite (fun _ => EvQ.ret rfl) (fun _ => ?_)
  unfold spec_DrawTravelClose.f
  refine drawnTravel hw (fun l h6 => ?_)
  have hl : l.length ≤ 1048576 := by omega
  have hpl := closeV_len hl
  refine EvQ.call (implClose hl) (EvQ.call (specClose hl) (EvQ.neg (by simp) ?_))
  refine EvQ.call (samePoints_refl (by omega)) (EvQ.pos rfl ?_)
  refine EvQ.step (fun k => by simp only [laws_FnTravelClose.j0]; rfl) ?_
  refine EvQ.ite (fun _ => EvQ.pos (by simp) (EvQ.call (samePoints_refl (by omega)) (EvQ.ret rfl))) (fun h => ?_)
  have h : (closeV l).2 = true := by simpa using h
  obtain ⟨h1, h2, h3, h4, h5⟩ := closeV_true h
  have hgap := close_gap h
  have hg0 : gapV l = (gx l, gy l, true) := by unfold gapV; rw [if_pos h1]
  have hT := (okTr_of h1).2
  have hbg := g_take h1 l.length
  rw [List.take_length] at hbg
  refine EvQ.call (implGap (by omega)) (EvQ.call (implGap hl) (EvQ.call (implClose (by omega)) ?_))
  rw [hgap, hg0]
  simp only []
  obtain ⟨a1, a2, a3, a4, a5⟩ := Sh.shV_all h2
  obtain ⟨b1, b2, b3, b4, b5⟩ := Sh.shV_all h3
  rw [List.length_map] at a3 a5 b3 b5
  have hsame : ∀ b : Bool, b = (closeV (closeV l).1).2 → b = true → (closeV (closeV l).1).1 = (closeV l).1 := by
    rintro _ rfl hb
    obtain ⟨c1, c2, c3, c4, c5⟩ := closeV_true hb
    have hz : gx (closeV l).1 = 0 ∧ gy (closeV l).1 = 0 := by
      unfold gapV at hgap
      rw [if_pos c1] at hgap
      simpa using hgap
    rw [hz.1, Int.neg_zero] at c2 c4
    rw [hz.2, Int.neg_zero] at c3 c4
    rw [c4]
    simp only []
    have hzero : ∀ m : List Pt, (Sh.shV (m.map len) 0).2 = true → ∀ i, i < m.length → Sh.gt (Sh.shV (m.map len) 0).1 i = 0 := by
      intro m hm i hi
      obtain ⟨d1, d2, d3, d4, d5⟩ := Sh.shV_all hm
      have hd := (d5 i (by rw [List.length_map]; exact hi)).1
      have hS := Sh.sum_near d1
      rw [Int.zero_mul] at hd
      generalize Sh.gt (Sh.shV (m.map len) 0).1 i = x at hd ⊢
      generalize (m.map len).sum = S at hd hS
      rcases Int.lt_trichotomy x 0 with hx | hx | hx
      · have : x * S ≤ -1 * S := Int.mul_le_mul_of_nonneg_right (by omega) (by omega)
        omega
      · exact hx
      · have : 1 * S ≤ x * S := Int.mul_le_mul_of_nonneg_right (by omega) (by omega)
        omega
    refine List.ext_getElem (by rw [movN_len]) (fun i hi1 hi2 => ?_)
    have e1 := rdP_get (l := movN (closeV l).1 (Sh.shV ((closeV l).1.map len) 0).1 (Sh.shV ((closeV l).1.map len) 0).1 (closeV l).1.length) hi1
    rw [← e1, movN_rd (by rw [movN_len] at hi1; exact hi1), rdP_get hi2, hzero _ c2 i hi2]
    simp
  have hmv : ∀ i, i < l.length → rd_T34 (closeV l).1 (i : Int) = ⟨(rd_T34 l (i : Int)).f0 + Sh.gt (Sh.shV (l.map len) (-(gx l))).1 i, (rd_T34 l (i : Int)).f1 + Sh.gt (Sh.shV (l.map len) (-(gy l))).1 i⟩ := fun i hi => by
    rw [h4]; exact movN_rd hi
  have hcl : (closeV l).1.length = l.length := by rw [h4]; exact movN_len _ _ _ _
  generalize hcv : closeV (closeV l).1 = CC at hsame ⊢
  refine EvQ.loop (σ := List Int × List Int × List Int) (g := fun k i s => laws_FnTravelClose.l0 k l (closeV l).1 true true CC.1 CC.2 s.1 s.2.1 s.2.2 i 0 0 (gx l) (gy l)) l.length
    (fun i s => s = ((l.take i).map len, (Sh.shV (l.map len) (-(gx l))).1.take i, (Sh.shV (l.map len) (-(gy l))).1.take i)) ?_ ?_ 0 ([], [], []) (by omega) (by simp)
  · rintro i _ hi rfl ih
    have hm := hT _ (List.getElem_mem hi)
    have hh := okT_of hm
    have hx := (a5 i hi).2
    have hy := (b5 i hi).2
    have l1 : ((l.take i).map len).length = i := by rw [List.length_map, List.length_take]; omega
    have l2 : ((Sh.shV (l.map len) (-(gx l))).1.take i).length = i := by rw [List.length_take]; omega
    have l3 : ((Sh.shV (l.map len) (-(gy l))).1.take i).length = i := by rw [List.length_take]; omega
    refine EvQ.step (fun k => by simp only [laws_FnTravelClose.l0]; rfl) ?_
    refine EvQ.pos (by omega) (EvQ.pos (by omega) (EvQ.pos (by omega) (EvQ.pos (by omega) (EvQ.pos (by omega) (EvQ.pos (by omega) ?_)))))
    rw [hmv i hi, rdP_get hi, mxlen hm]
    simp only []
    rw [w64 (n := l[i].f0 + Sh.gt (Sh.shV (l.map len) (-(gx l))).1 i - l[i].f0) (by omega) (by omega), w64 (n := l[i].f1 + Sh.gt (Sh.shV (l.map len) (-(gy l))).1 i - l[i].f1) (by omega) (by omega), w64i hi (by omega)]
    refine ih (_, _, _) ?_
    rw [List.take_succ_eq_append_getElem hi, List.map_append, List.take_succ_eq_append_getElem (l := (Sh.shV (l.map len) (-(gx l))).1) (by omega), List.take_succ_eq_append_getElem (l := (Sh.shV (l.map len) (-(gy l))).1) (by omega)]
    rw [Sh.gt_lt (l := (Sh.shV (l.map len) (-(gx l))).1) (by omega), Sh.gt_lt (l := (Sh.shV (l.map len) (-(gy l))).1) (by omega)]
    simp only [List.map_cons, List.map_nil, Prod.mk.injEq, List.append_cancel_left_eq, List.cons.injEq, and_true, true_and]
    omega
  · rintro _ rfl
    rw [List.take_length, List.take_of_length_le (by omega), List.take_of_length_le (by omega)]
    have k1 := Sh.okEv a1 a2 (by rw [List.length_map]; exact a3) a4 (by rw [List.length_map]; exact a5)
    have k2 := Sh.okEv b1 b2 (by rw [List.length_map]; exact b3) b4 (by rw [List.length_map]; exact b5)
    refine EvQ.step (fun k => by simp only [laws_FnTravelClose.l0]; rfl) ?_
    rw [w64 (n := -gx l) (by omega) (by omega), w64 (n := -gy l) (by omega) (by omega)]
    refine EvQ.neg (by omega) (EvQ.pos trivial (EvQ.pos trivial (EvQ.pos (by simp) (EvQ.ite (fun hb => ?_) (fun hb => ?_)))))
    · rw [hsame _ rfl hb]
      exact EvQ.call (samePoints_refl (by omega)) (EvQ.pos rfl (EvQ.call k1 (EvQ.pos rfl (EvQ.call k2 (EvQ.ret rfl)))))
    · exact EvQ.call k1 (EvQ.pos rfl (EvQ.call k2 (EvQ.ret rfl)))
end Go.Proofs.Ytolkcbnolbkgmaa.Pure

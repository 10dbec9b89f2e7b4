import Derived.Test.YtfonigbkoligmaaPx0
import Derived.Test.YtfonigbkoligmaaPx2
import Derived.Test.YtfonigbkoligmaaPx3
import Derived.Test.YtfonigbkoligmaaPx4
import Derived.Test.YtfonigbkoligmaaPx6
import Derived.Test.YtfonigbkoligmaaPx8
namespace Go.Proofs.Ytfonigbkoligmaa.P
open Go.RowKit Go.Proofs.YtfonigbkoligmaaW.PrintWords Go.Proofs.YtfonigbkoligmaaW.PrintLast Go.Proofs.YtfonigbkoligmaaW.PrintMore
attribute [local go_sem] max2_int min2_int max_two min_two max_three min_three max_four min_four
set_option linter.unusedVariables false
set_option linter.unusedSimpArgs false
mutual
def laws_FnMarks.j0 : Nat → List (S33) → List (S33) → Bool → List (S33) → Bool → Bool → Option (Bool)
 | 0, _, _, _, _, _, _ => none
 | k + 1, x3, x4, x5, x6, x7, x43 => if x43 = true then (if (x5 == x7) = true then ((laws_samePoints.f k x4 x6).bind fun t334 => (some t334)) else (some false)) else ((impl_PolyArea.f x3).bind fun bt335 => ((impl_PolyArea.f x4).bind fun bt337 => ((impl_ParcelMarks.f k x4).bind fun bt339 => (laws_FnMarks.l0 k x3 x4 bt335.1 bt335.2 bt337.1 bt337.2 bt339.1 bt339.2 (x4.length : Int) 0))))
def laws_FnMarks.l0 : Nat → List (S33) → List (S33) → Int → Bool → Int → Bool → List (S33) → Bool → Int → Int → Option (Bool)
 | 0, _, _, _, _, _, _, _, _, _, _ => none
 | k + 1, x3, x4, x8, x9, x10, x11, x12, x13, x14, x15 => if x15 < x14 then (if x14 = 0 then (none) else (if 0 ≤ (Int.tmod (wrap64 ((wrap64 (x15 + x14)) - 1)) x14) then (if (Int.tmod (wrap64 ((wrap64 (x15 + x14)) - 1)) x14) < (x4.length : Int) then (if 0 ≤ (Int.tmod (wrap64 (x15 + 1)) x14) then (if (Int.tmod (wrap64 (x15 + 1)) x14) < (x4.length : Int) then (if 0 ≤ x15 then (if x15 < (x4.length : Int) then ((impl_PointOn.f k ((rd_T33 x4 (Int.tmod (wrap64 ((wrap64 (x15 + x14)) - 1)) x14)).f0) ((rd_T33 x4 (Int.tmod (wrap64 ((wrap64 (x15 + x14)) - 1)) x14)).f1) ((rd_T33 x4 (Int.tmod (wrap64 (x15 + 1)) x14)).f0) ((rd_T33 x4 (Int.tmod (wrap64 (x15 + 1)) x14)).f1) ((rd_T33 x4 x15).f0) ((rd_T33 x4 x15).f1)).bind fun t346 => (if t346 = true then (some false) else (laws_FnMarks.l0 k x3 x4 x8 x9 x10 x11 x12 x13 x14 (wrap64 (x15 + 1))))) else (none)) else (none)) else (none)) else (none)) else (none)) else (none))) else (if x9 = true then (if x11 = true then (if x13 = true then (if x8 = x10 then ((laws_samePoints.f k x12 x4).bind fun t347 => (if t347 = true then ((impl_ParcelValid.f x4).bind fun t348 => (if t348 = true then ((impl_PolyInside.f x4).bind fun t349 => ((impl_PolyInside.f x3).bind fun t350 => (if t349 = t350 then ((impl_PolyEdge.f x4).bind fun t351 => ((impl_PolyEdge.f x3).bind fun t352 => (some (t351 == t352)))) else (some false)))) else (some false))) else (some false))) else (some false)) else (some false)) else (some false)) else (some false))
end
def laws_FnMarks.f (k : Nat) (l0 : List Int) : Option (Bool) := if (l0.length : Int) > 1048576 then (some true) else ((spec_DrawParcelMarks.f k l0).bind fun t322 => ((impl_ParcelMarks.f k t322).bind fun bt325 => ((spec_ParcelMarks.f k t322).bind fun bt329 => (if (bt325.2 != bt329.2) = true then (laws_FnMarks.j0 k t322 bt325.1 bt325.2 bt329.1 bt329.2 true) else ((laws_samePoints.f k bt325.1 bt329.1).bind fun t333 => (if t333 = true then (laws_FnMarks.j0 k t322 bt325.1 bt325.2 bt329.1 bt329.2 (!bt325.2)) else (laws_FnMarks.j0 k t322 bt325.1 bt325.2 bt329.1 bt329.2 true)))))))
theorem laws_FnMarks.mono_l : ∀ k, (∀ y0 y1 y2 y3 y4 y5, LeO (laws_FnMarks.j0 k y0 y1 y2 y3 y4 y5) (laws_FnMarks.j0 (k + 1) y0 y1 y2 y3 y4 y5)) ∧ (∀ y0 y1 y2 y3 y4 y5 y6 y7 y8 y9, LeO (laws_FnMarks.l0 k y0 y1 y2 y3 y4 y5 y6 y7 y8 y9) (laws_FnMarks.l0 (k + 1) y0 y1 y2 y3 y4 y5 y6 y7 y8 y9))
 | 0 => ⟨fun _ _ _ _ _ _ r h => by simp [laws_FnMarks.j0] at h, fun _ _ _ _ _ _ _ _ _ _ r h => by simp [laws_FnMarks.l0] at h⟩
 | k + 1 => by
  obtain ⟨ih0, ih1⟩ := laws_FnMarks.mono_l k
  refine ⟨?_, ?_⟩
  ·intro y0 y1 y2 y3 y4 y5
   unfold laws_FnMarks.j0
   repeat' first
   | (with_reducible exact ih0 _ _ _ _ _ _)
   | (with_reducible exact ih1 _ _ _ _ _ _ _ _ _ _)
   | (with_reducible exact impl_ParcelMarks.mono _ _)
   | (with_reducible exact impl_PointOn.mono _ _ _ _ _ _ _)
   | (with_reducible exact laws_samePoints.mono _ _ _)
   | (with_reducible exact spec_DrawParcelMarks.mono _ _)
   | (with_reducible exact spec_ParcelMarks.mono _ _)
   | (with_reducible exact LeO.refl _)
   | (with_reducible exact LeO.none _)
   | (with_reducible refine LeO.ite ?_ ?_)
   | (with_reducible refine LeO.bind ?_ (fun _ => ?_))
   | exact ih0 _ _ _ _ _ _
   | exact ih1 _ _ _ _ _ _ _ _ _ _
   | exact impl_ParcelMarks.mono _ _
   | exact impl_PointOn.mono _ _ _ _ _ _ _
   | exact laws_samePoints.mono _ _ _
   | exact spec_DrawParcelMarks.mono _ _
   | exact spec_ParcelMarks.mono _ _
   | exact LeO.none _
   | refine LeO.ite ?_ ?_
   | refine LeO.bind ?_ (fun _ => ?_)
  ·intro y0 y1 y2 y3 y4 y5 y6 y7 y8 y9
   unfold laws_FnMarks.l0
   repeat' first
   | (with_reducible exact ih0 _ _ _ _ _ _)
   | (with_reducible exact ih1 _ _ _ _ _ _ _ _ _ _)
   | (with_reducible exact impl_ParcelMarks.mono _ _)
   | (with_reducible exact impl_PointOn.mono _ _ _ _ _ _ _)
   | (with_reducible exact laws_samePoints.mono _ _ _)
   | (with_reducible exact spec_DrawParcelMarks.mono _ _)
   | (with_reducible exact spec_ParcelMarks.mono _ _)
   | (with_reducible exact LeO.refl _)
   | (with_reducible exact LeO.none _)
   | (with_reducible refine LeO.ite ?_ ?_)
   | (with_reducible refine LeO.bind ?_ (fun _ => ?_))
   | exact ih0 _ _ _ _ _ _
   | exact ih1 _ _ _ _ _ _ _ _ _ _
   | exact impl_ParcelMarks.mono _ _
   | exact impl_PointOn.mono _ _ _ _ _ _ _
   | exact laws_samePoints.mono _ _ _
   | exact spec_DrawParcelMarks.mono _ _
   | exact spec_ParcelMarks.mono _ _
   | exact LeO.none _
   | refine LeO.ite ?_ ?_
   | refine LeO.bind ?_ (fun _ => ?_)
theorem laws_FnMarks.mono : ∀ a0 k, LeO (laws_FnMarks.f k a0) (laws_FnMarks.f (k + 1) a0) := by
 intro a0 k
 obtain ⟨ih0, ih1⟩ := laws_FnMarks.mono_l k
 unfold laws_FnMarks.f
 repeat' first
   | (with_reducible exact ih0 _ _ _ _ _ _)
   | (with_reducible exact ih1 _ _ _ _ _ _ _ _ _ _)
   | (with_reducible exact impl_ParcelMarks.mono _ _)
   | (with_reducible exact impl_PointOn.mono _ _ _ _ _ _ _)
   | (with_reducible exact laws_samePoints.mono _ _ _)
   | (with_reducible exact spec_DrawParcelMarks.mono _ _)
   | (with_reducible exact spec_ParcelMarks.mono _ _)
   | (with_reducible exact LeO.refl _)
   | (with_reducible exact LeO.none _)
   | (with_reducible refine LeO.ite ?_ ?_)
   | (with_reducible refine LeO.bind ?_ (fun _ => ?_))
   | exact ih0 _ _ _ _ _ _
   | exact ih1 _ _ _ _ _ _ _ _ _ _
   | exact impl_ParcelMarks.mono _ _
   | exact impl_PointOn.mono _ _ _ _ _ _ _
   | exact laws_samePoints.mono _ _ _
   | exact spec_DrawParcelMarks.mono _ _
   | exact spec_ParcelMarks.mono _ _
   | exact LeO.none _
   | refine LeO.ite ?_ ?_
   | refine LeO.bind ?_ (fun _ => ?_)
def laws_FnMarks.T15 : Bool × List (List Nat × List Nat) := (true,[([],[]),([],[]),([],[]),([1,2],[1,2]),([3],[3]),([],[]),([4,5],[4,5]),([0,6],[0,6]),([7],[7]),([],[]),([],[]),([10],[10]),([],[]),([11,12],[11,12]),([9,13],[9,13]),([14],[14]),([],[]),([],[]),([16,17],[16,17]),([18],[18]),([8,15,19],[8,15,19])])
def laws_FnMarks.B15 : List Nat := [0,0,0,6,14,0,62,127,255,0,0,1024,0,7168,15872,32256,0,0,196608,458752,1048575]
theorem laws_FnMarks.tab15 : rtab .any (opsOf Try.f5 15) = laws_FnMarks.T15 := by kernel_rfl
theorem laws_FnMarks.bits15 : waitsOk laws_FnMarks.T15.2 laws_FnMarks.B15 = true := by kernel_rfl
set_option maxHeartbeats 8000000 in
set_option maxRecDepth 100000 in
theorem laws_FnMarks.calls (k : Nat) (A0 : Option Addr) (c0 : Nat) (l0 : List Int) (r : Bool) (w : World) (hr0 : Kd.C (Kd.int .u8) w A0 l0.length l0) (hc0 : l0.length ≤ c0) (h : laws_FnMarks.f k l0 = some r) :
  Calls Try.prog 5 #[.slice A0 l0.length c0] w fun e w' => e = .returned (.bool r) ∧ Below w.heap.size w w' := by
 have hu33 := Try.underlying33
 have HR0 := Aside0.mk hr0
 have HC0 := Aside0.mk hc0
 clear hr0 hc0
 have HB := Aside0.mk (Below.refl w.heap.size w)
 have H : (if (l0.length : Int) > 1048576 then (some true) else ((spec_DrawParcelMarks.f k l0).bind fun t322 => ((impl_ParcelMarks.f k t322).bind fun bt325 => ((spec_ParcelMarks.f k t322).bind fun bt329 => (if (bt325.2 != bt329.2) = true then (laws_FnMarks.j0 k t322 bt325.1 bt325.2 bt329.1 bt329.2 true) else ((laws_samePoints.f k bt325.1 bt329.1).bind fun t333 => (if t333 = true then (laws_FnMarks.j0 k t322 bt325.1 bt325.2 bt329.1 bt329.2 (!bt325.2)) else (laws_FnMarks.j0 k t322 bt325.1 bt325.2 bt329.1 bt329.2 true)))))))) = some r := h
 clear h
 by_cases c2 : (l0.length : Int) > 1048576
 ·rw [if_pos c2] at H
  have c2b0 : decide (1048576 < (l0.length : Int)) = true := decide_eq_true c2
  have c2b1 : decide (1048576 < l0.length) = true := decide_eq_true (by omega)
  clear c2
  obtain rfl := Option.some.inj H
  go_enter Try.func5, Try.ntmps5
  go_wp2
  go_ret
  exact ⟨er, lb HB.out⟩
 ·rw [if_neg c2] at H
  have c2b0 : decide (1048576 < (l0.length : Int)) = false := decide_eq_false c2
  have c2b1 : decide (1048576 < l0.length) = false := decide_eq_false (by omega)
  clear c2
  replace H := Option.bind_eq_some_iff.mp H
  obtain ⟨t322, A30, H⟩ := H
  replace H : ((impl_ParcelMarks.f k t322).bind fun bt325 => ((spec_ParcelMarks.f k t322).bind fun bt329 => (if (bt325.2 != bt329.2) = true then (laws_FnMarks.j0 k t322 bt325.1 bt325.2 bt329.1 bt329.2 true) else ((laws_samePoints.f k bt325.1 bt329.1).bind fun t333 => (if t333 = true then (laws_FnMarks.j0 k t322 bt325.1 bt325.2 bt329.1 bt329.2 (!bt325.2)) else (laws_FnMarks.j0 k t322 bt325.1 bt325.2 bt329.1 bt329.2 true)))))) = some r := H
  have A3 := Aside0.mk A30
  clear A30
  replace H := Option.bind_eq_some_iff.mp H
  obtain ⟨⟨t325, t326⟩, A40, H⟩ := H
  replace H : ((spec_ParcelMarks.f k t322).bind fun bt329 => (if (t326 != bt329.2) = true then (laws_FnMarks.j0 k t322 t325 t326 bt329.1 bt329.2 true) else ((laws_samePoints.f k t325 bt329.1).bind fun t333 => (if t333 = true then (laws_FnMarks.j0 k t322 t325 t326 bt329.1 bt329.2 (!t326)) else (laws_FnMarks.j0 k t322 t325 t326 bt329.1 bt329.2 true))))) = some r := H
  have A4 := Aside0.mk A40
  clear A40
  replace H := Option.bind_eq_some_iff.mp H
  obtain ⟨⟨t329, t330⟩, A50, H⟩ := H
  replace H : (if (t326 != t330) = true then (laws_FnMarks.j0 k t322 t325 t326 t329 t330 true) else ((laws_samePoints.f k t325 t329).bind fun t333 => (if t333 = true then (laws_FnMarks.j0 k t322 t325 t326 t329 t330 (!t326)) else (laws_FnMarks.j0 k t322 t325 t326 t329 t330 true)))) = some r := H
  have A5 := Aside0.mk A50
  clear A50
  have HC6 := Aside0.mk H
  clear H
  go_enter Try.func5, Try.ntmps5
  go_upto_region 6 with (first | ((with_reducible refine gate_callee (f := 22) rfl ?_); refine goesL_ (some 20) rfl rfl Try.func22 (by kernel_rfl) rfl #[.slice A0 l0.length c0] rfl al ?_; (with_reducible refine (spec_DrawParcelMarks.calls k _ _ l0 t322 _ ?side1 ?side2 A3.out).mono ?_); (case side1 => repeat (first | exact HR0.out | (with_reducible refine Kd.C_alloc ?_ _) | (with_reducible refine Kd.C_drewN ?_ _) | (with_reducible refine Kd.C_drew ?_))); (case side2 => exact HC0.out); rintro e w7 ⟨v323, rfl, ho0, hb⟩; refine ⟨_, rfl, ?_⟩; have n0_ := Aside0.mk (Kd.Q_lower ho0 (below_size (lb HB.out))); have n1_ := Aside0.mk (below_step (lb HB.out) hb); clear HB; have HO324 := n0_; have HB := n1_; clear n0_ n1_; (try clear hb); (try clear hb2); (try clear hk); (try clear hi); (try clear ho0); obtain ⟨Ao8, co8, eo8, _⟩ := Kd.Q_slice HO324.out; subst eo8) | ((with_reducible refine gate_callee (f := 23) rfl ?_); refine goesL_ (some 23) rfl rfl Try.func23 (by kernel_rfl) rfl #[.slice Ao8 t322.length co8] rfl al ?_; (with_reducible refine (impl_ParcelMarks.calls k _ _ t322 t325 t326 _ ?side1 ?side2 A4.out).mono ?_); (case side1 => repeat (first | exact (Kd.Q_reads' HO324.out).2.2 | (with_reducible refine Kd.C_alloc ?_ _) | (with_reducible refine Kd.C_drewN ?_ _) | (with_reducible refine Kd.C_drew ?_))); (case side2 => exact (Kd.Q_reads' HO324.out).2.1); rintro e w9 ⟨v327, rfl, ho0, hb⟩; refine ⟨_, rfl, ?_⟩; have n0_ := Aside0.mk (Kd.Q_elder' (qm HO324.out) (Kd.R_base ho0) hb); have n1_ := Aside0.mk (Kd.R_lower (Kd.R_new' ho0 (Kd.Q_lt (qm HO324.out))) (below_size (lb HB.out))); have n2_ := Aside0.mk (below_step (lb HB.out) hb); clear HO324; clear HB; have HO324 := n0_; have HO328 := n1_; have HB := n2_; clear n0_ n1_ n2_; (try clear hb); (try clear hb2); (try clear hk); (try clear hi); (try clear ho0)) | ((with_reducible refine gate_callee (f := 24) rfl ?_); refine goesL_ (some 28) rfl rfl Try.func24 (by kernel_rfl) rfl #[.slice Ao8 t322.length co8] rfl al ?_; (with_reducible refine (spec_ParcelMarks.calls k _ _ t322 t329 t330 _ ?side1 ?side2 A5.out).mono ?_); (case side1 => repeat (first | exact (Kd.Q_reads' HO324.out).2.2 | (with_reducible refine Kd.C_alloc ?_ _) | (with_reducible refine Kd.C_drewN ?_ _) | (with_reducible refine Kd.C_drew ?_))); (case side2 => exact (Kd.Q_reads' HO324.out).2.1); rintro e w10 ⟨v331, rfl, ho0, hb⟩; refine ⟨_, rfl, ?_⟩; have n0_ := Aside0.mk (Kd.Q_elder' (qm HO324.out) (Kd.R_base ho0) hb); have n1_ := Aside0.mk (Kd.R_elder' (rm HO328.out) (Kd.R_base ho0) hb); have n2_ := Aside0.mk (Kd.R_lower (Kd.R_new' (Kd.R_new' ho0 (Kd.Q_lt (qm HO324.out))) (Kd.R_lt (rm HO328.out))) (below_size (lb HB.out))); have n3_ := Aside0.mk (below_step (lb HB.out) hb); clear HO324; clear HO328; clear HB; have HO324 := n0_; have HO328 := n1_; have HO332 := n2_; have HB := n3_; clear n0_ n1_ n2_ n3_; (try clear hb); (try clear hb2); (try clear hk); (try clear hi); (try clear ho0)))
  (try simp only [Act.put, List.setIfInBounds_toArray, List.set_cons_zero, List.set_cons_succ])
  go_cut [43] (fun v43 wc => ∃ (kq : Nat) (x43_5 : Bool), v43 = .bool x43_5 ∧ Aside0 (laws_FnMarks.j0 kq t322 t325 t326 t329 t330 x43_5 = some r) ∧ Aside0 (kq ≤ k) ∧ Aside0 (Kd.Q k33 33 wc w.heap.size (fun k_ => some k_ ≠ (v327 : Value).ownBlock ∧ some k_ ≠ (v331 : Value).ownBlock) (.slice Ao8 t322.length co8) t322) ∧ Aside0 (Kd.R k33 33 wc w.heap.size (fun k_ => some k_ ≠ ((.slice Ao8 t322.length co8) : Value).ownBlock ∧ some k_ ≠ (v331 : Value).ownBlock) v327 t325) ∧ Aside0 (Kd.R k33 33 wc w.heap.size (fun k_ => some k_ ≠ ((.slice Ao8 t322.length co8) : Value).ownBlock ∧ some k_ ≠ (v327 : Value).ownBlock) v331 t329) ∧ Aside0 (Below w.heap.size w wc))
  case first =>
   have H := HC6.out
   clear HC6
   by_cases c11 : (t326 != t330) = true
   ·rw [if_pos c11] at H
    have c11b0 : (t326 != t330) = true := c11
    (try (have c11b1 : decide (t326 = t330) = false := by simpa using c11))
    (try (have c11b2 : (t326 == t330) = false := by simpa using c11))
    (try (have c11b3 : ¬ (t326 = t330) := by simpa using c11))
    clear c11
    (first | rw [c11b0] | (simp only [i64_w, i32_w]; rw [c11b0]) | skip)
    have H' := Aside0.mk H
    clear H
    go_wp2
    go_meet
    case rel => exact ⟨_, (true), (by first | rfl | (simp; done) | (simp [*]; done)), H', ⟨by first | omega | exact Nat.le_refl _⟩, ⟨qm (Kd.Q_mono HO324.out (fun _ hk => hkm))⟩, ⟨rm (Kd.R_mono HO328.out (fun _ hk => hkm))⟩, ⟨rm (Kd.R_mono HO332.out (fun _ hk => hkm))⟩, ⟨lb HB.out⟩⟩
   ·rw [if_neg c11] at H
    have c11b0 : (t326 != t330) = false := by simpa using c11
    (try (have c11b1 : decide (t326 = t330) = true := by simpa using c11))
    (try (have c11b2 : (t326 == t330) = true := by simpa using c11))
    clear c11
    (first | rw [c11b0] | (simp only [i64_w, i32_w]; rw [c11b0]) | skip)
    replace H := Option.bind_eq_some_iff.mp H
    obtain ⟨t333, A120, H⟩ := H
    replace H : (if t333 = true then (laws_FnMarks.j0 k t322 t325 t326 t329 t330 (!t326)) else (laws_FnMarks.j0 k t322 t325 t326 t329 t330 true)) = some r := H
    have A12 := Aside0.mk A120
    clear A120
    by_cases c13 : t333 = true
    ·subst c13
     have H1 : (laws_FnMarks.j0 k t322 t325 t326 t329 t330 (!t326)) = some r := by rw [if_pos rfl] at H; exact H
     clear H
     have H := H1
     clear H1
     have H' := Aside0.mk H
     clear H
     obtain ⟨Ao14, co14, eo14⟩ := Kd.R_slice HO328.out
     subst eo14
     obtain ⟨Ao15, co15, eo15⟩ := Kd.R_slice HO332.out
     subst eo15
     go_wp2_with (first | (go_at_call 10; (with_reducible refine (laws_samePoints.calls k _ _ t325 _ _ t329 true _ ?side1 ?side2 ?side3 ?side4 A12.out).mono ?_); (case side1 => exact cm (Kd.R_reads' HO328.out).2.2); (case side2 => exact (Kd.R_reads' HO328.out).2.1); (case side3 => exact cm (Kd.R_reads' HO332.out).2.2); (case side4 => exact (Kd.R_reads' HO332.out).2.1); rintro e w' ⟨rfl, ⟨nd, rfl⟩⟩))
     go_meet
     case rel => exact ⟨_, (!t326), (by first | rfl | (simp; done) | (simp [*]; done)), H', ⟨by first | omega | exact Nat.le_refl _⟩, ⟨qm (Kd.Q_mono HO324.out (fun _ hk => hkm))⟩, ⟨rm (Kd.R_mono HO328.out (fun _ hk => hkm))⟩, ⟨rm (Kd.R_mono HO332.out (fun _ hk => hkm))⟩, ⟨lb HB.out⟩⟩
    ·replace c13 := Bool.eq_false_iff.mpr c13
     subst c13
     have H1 : (laws_FnMarks.j0 k t322 t325 t326 t329 t330 true) = some r := by rw [if_neg (show ¬ (false = true) by decide)] at H; exact H
     clear H
     have H := H1
     clear H1
     have H' := Aside0.mk H
     clear H
     obtain ⟨Ao16, co16, eo16⟩ := Kd.R_slice HO328.out
     subst eo16
     obtain ⟨Ao17, co17, eo17⟩ := Kd.R_slice HO332.out
     subst eo17
     go_wp2_with (first | (go_at_call 10; (with_reducible refine (laws_samePoints.calls k _ _ t325 _ _ t329 false _ ?side1 ?side2 ?side3 ?side4 A12.out).mono ?_); (case side1 => exact cm (Kd.R_reads' HO328.out).2.2); (case side2 => exact (Kd.R_reads' HO328.out).2.1); (case side3 => exact cm (Kd.R_reads' HO332.out).2.2); (case side4 => exact (Kd.R_reads' HO332.out).2.1); rintro e w' ⟨rfl, ⟨nd, rfl⟩⟩))
     go_meet
     case rel => exact ⟨_, (true), (by first | rfl | (simp; done) | (simp [*]; done)), H', ⟨by first | omega | exact Nat.le_refl _⟩, ⟨qm (Kd.Q_mono HO324.out (fun _ hk => hkm))⟩, ⟨rm (Kd.R_mono HO328.out (fun _ hk => hkm))⟩, ⟨rm (Kd.R_mono HO332.out (fun _ hk => hkm))⟩, ⟨lb HB.out⟩⟩
  case rest =>
   clear HC6
   try clear c1
   try clear c2
   try clear c2b0
   try clear c2b1
   try clear p2
   try clear c5
   try clear c11
   try clear c11b0
   try clear c11b1
   try clear c11b2
   try clear c13
   obtain ⟨kq, x43_5, rfl, HA, HJ5, HO_3, HO_4, HO_6, HB⟩ := hcut
   cases kq with
   | zero => exact absurd HA.out (by simp [laws_FnMarks.j0])
   | succ kj5 =>
    have H := HA.out
    clear HA
    simp only [laws_FnMarks.j0] at H
    by_cases c18 : x43_5 = true
    ·subst c18
     have H1 : (if (t326 == t330) = true then ((laws_samePoints.f kj5 t325 t329).bind fun t334 => (some t334)) else (some false)) = some r := by rw [if_pos rfl] at H; exact H
     clear H
     have H := H1
     clear H1
     by_cases c19 : (t326 == t330) = true
     ·rw [if_pos c19] at H
      have c19b0 : (t326 == t330) = true := c19
      (try (have c19b1 : decide (t326 = t330) = true := by simpa using c19))
      (try (have c19b2 : (t326 == t330) = true := by simpa using c19))
      clear c19
      replace H := Option.bind_eq_some_iff.mp H
      obtain ⟨t334, A200, H⟩ := H
      replace H : (some t334) = some r := H
      have A20 := Aside0.mk A200
      clear A200
      obtain rfl := Option.some.inj H
      obtain ⟨Ao21, co21, eo21⟩ := Kd.R_slice HO_4.out
      subst eo21
      obtain ⟨Ao22, co22, eo22⟩ := Kd.R_slice HO_6.out
      subst eo22
      go_wp2_with (first | (go_at_call 10; (with_reducible refine (laws_samePoints.calls kj5 _ _ t325 _ _ t329 t334 _ ?side1 ?side2 ?side3 ?side4 A20.out).mono ?_); (case side1 => exact cm (Kd.R_reads' HO_4.out).2.2); (case side2 => exact (Kd.R_reads' HO_4.out).2.1); (case side3 => exact cm (Kd.R_reads' HO_6.out).2.2); (case side4 => exact (Kd.R_reads' HO_6.out).2.1); rintro e w' ⟨rfl, ⟨nd, rfl⟩⟩))
      go_ret
      exact ⟨er, lb HB.out⟩
     ·rw [if_neg c19] at H
      have c19b0 : (t326 == t330) = false := by simpa using c19
      (try (have c19b1 : decide (t326 = t330) = false := by simpa using c19))
      (try (have c19b2 : (t326 == t330) = false := by simpa using c19))
      (try (have c19b3 : ¬ (t326 = t330) := by simpa using c19))
      clear c19
      obtain rfl := Option.some.inj H
      go_wp2
      go_ret
      exact ⟨er, lb HB.out⟩
    ·replace c18 := Bool.eq_false_iff.mpr c18
     subst c18
     have H1 : ((impl_PolyArea.f t322).bind fun bt335 => ((impl_PolyArea.f t325).bind fun bt337 => ((impl_ParcelMarks.f kj5 t325).bind fun bt339 => (laws_FnMarks.l0 kj5 t322 t325 bt335.1 bt335.2 bt337.1 bt337.2 bt339.1 bt339.2 (t325.length : Int) 0)))) = some r := by rw [if_neg (show ¬ (false = true) by decide)] at H; exact H
     clear H
     have H := H1
     clear H1
     replace H := Option.bind_eq_some_iff.mp H
     obtain ⟨⟨t335, t336⟩, A230, H⟩ := H
     replace H : ((impl_PolyArea.f t325).bind fun bt337 => ((impl_ParcelMarks.f kj5 t325).bind fun bt339 => (laws_FnMarks.l0 kj5 t322 t325 t335 t336 bt337.1 bt337.2 bt339.1 bt339.2 (t325.length : Int) 0))) = some r := H
     have A23 := Aside0.mk A230
     clear A230
     replace H := Option.bind_eq_some_iff.mp H
     obtain ⟨⟨t337, t338⟩, A240, H⟩ := H
     replace H : ((impl_ParcelMarks.f kj5 t325).bind fun bt339 => (laws_FnMarks.l0 kj5 t322 t325 t335 t336 t337 t338 bt339.1 bt339.2 (t325.length : Int) 0)) = some r := H
     have A24 := Aside0.mk A240
     clear A240
     replace H := Option.bind_eq_some_iff.mp H
     obtain ⟨⟨t339, t340⟩, A250, H⟩ := H
     replace H : (laws_FnMarks.l0 kj5 t322 t325 t335 t336 t337 t338 t339 t340 (t325.length : Int) 0) = some r := H
     have A25 := Aside0.mk A250
     clear A250
     have H' := Aside0.mk H
     clear H
     go_wp2_with (first | ((with_reducible refine gate_callee (f := 11) rfl ?_); refine goesL_ (some 54) rfl rfl Try.func11 (by kernel_rfl) rfl #[.slice Ao8 t322.length co8] rfl al ?_; (with_reducible refine (impl_PolyArea.calls _ _ t322 t335 t336 _ ?side1 ?side2 A23.out).mono ?_); (case side1 => repeat (first | exact (Kd.Q_reads' HO_3.out).2.2 | (with_reducible refine Kd.C_alloc ?_ _) | (with_reducible refine Kd.C_drewN ?_ _) | (with_reducible refine Kd.C_drew ?_))); (case side2 => exact (Kd.Q_reads' HO_3.out).2.1); rintro e w26 ⟨rfl, hb⟩; refine ⟨_, rfl, ?_⟩; have n0_ := Aside0.mk (Kd.Q_below (qm HO_3.out) hb); have n1_ := Aside0.mk (Kd.R_below (rm HO_4.out) hb); have n2_ := Aside0.mk (Kd.R_below (rm HO_6.out) hb); have n3_ := Aside0.mk (below_step (lb HB.out) hb); clear HO_3; clear HO_4; clear HO_6; clear HB; have HO_3 := n0_; have HO_4 := n1_; have HO_6 := n2_; have HB := n3_; clear n0_ n1_ n2_ n3_; (try clear hb); (try clear hb2); (try clear hk); (try clear hi); obtain ⟨Ao27, co27, eo27⟩ := Kd.R_slice HO_4.out; subst eo27) | ((with_reducible refine gate_callee (f := 11) rfl ?_); refine goesL_ (some 59) rfl rfl Try.func11 (by kernel_rfl) rfl #[.slice Ao27 t325.length co27] rfl al ?_; (with_reducible refine (impl_PolyArea.calls _ _ t325 t337 t338 _ ?side1 ?side2 A24.out).mono ?_); (case side1 => exact cm (Kd.R_reads' HO_4.out).2.2); (case side2 => exact (Kd.R_reads' HO_4.out).2.1); rintro e w28 ⟨rfl, hb⟩; refine ⟨_, rfl, ?_⟩; have n0_ := Aside0.mk (Kd.Q_below (qm HO_3.out) hb); have n1_ := Aside0.mk (Kd.R_below (rm HO_4.out) hb); have n2_ := Aside0.mk (Kd.R_below (rm HO_6.out) hb); have n3_ := Aside0.mk (below_step (lb HB.out) hb); clear HO_3; clear HO_4; clear HO_6; clear HB; have HO_3 := n0_; have HO_4 := n1_; have HO_6 := n2_; have HB := n3_; clear n0_ n1_ n2_ n3_; (try clear hb); (try clear hb2); (try clear hk); (try clear hi)) | ((with_reducible refine gate_callee (f := 23) rfl ?_); refine goesL_ (some 64) rfl rfl Try.func23 (by kernel_rfl) rfl #[.slice Ao27 t325.length co27] rfl al ?_; (with_reducible refine (impl_ParcelMarks.calls kj5 _ _ t325 t339 t340 _ ?side1 ?side2 A25.out).mono ?_); (case side1 => exact cm (Kd.R_reads' HO_4.out).2.2); (case side2 => exact (Kd.R_reads' HO_4.out).2.1); rintro e w29 ⟨v341, rfl, ho0, hb⟩; refine ⟨_, rfl, ?_⟩; have n0_ := Aside0.mk (Kd.Q_elder' (qm HO_3.out) (Kd.R_base ho0) hb); have n1_ := Aside0.mk (Kd.R_elder' (rm HO_4.out) (Kd.R_base ho0) hb); have n2_ := Aside0.mk (Kd.R_elder' (rm HO_6.out) (Kd.R_base ho0) hb); have n3_ := Aside0.mk (Kd.R_lower (Kd.R_new' (Kd.R_new' (Kd.R_new' ho0 (Kd.Q_lt (qm HO_3.out))) (Kd.R_lt (rm HO_4.out))) (Kd.R_lt (rm HO_6.out))) (below_size (lb HB.out))); have n4_ := Aside0.mk (below_step (lb HB.out) hb); clear HO_3; clear HO_4; clear HO_6; clear HB; have HO_3 := n0_; have HO_4 := n1_; have HO_6 := n2_; have HO342 := n3_; have HB := n4_; clear n0_ n1_ n2_ n3_ n4_; (try clear hb); (try clear hb2); (try clear hk); (try clear hi); (try clear ho0)))
     go_loopg [15] kj5 (fun kq v15 w' => ∃ (x15_2 : Int), v15 = .int .i64 x15_2 ∧ Aside0 (laws_FnMarks.l0 kq t322 t325 t335 t336 t337 t338 t339 t340 (t325.length : Int) x15_2 = some r) ∧ Aside0 (kq ≤ kj5) ∧ Aside0 (Kd.Q k33 33 w' w.heap.size (fun k_ => some k_ ≠ ((.slice Ao27 t325.length co27) : Value).ownBlock ∧ some k_ ≠ (v341 : Value).ownBlock) (.slice Ao8 t322.length co8) t322) ∧ Aside0 (Kd.R k33 33 w' w.heap.size (fun k_ => some k_ ≠ ((.slice Ao8 t322.length co8) : Value).ownBlock ∧ some k_ ≠ (v341 : Value).ownBlock) (.slice Ao27 t325.length co27) t325) ∧ Aside0 (Kd.R k33 33 w' w.heap.size (fun k_ => some k_ ≠ ((.slice Ao8 t322.length co8) : Value).ownBlock ∧ some k_ ≠ ((.slice Ao27 t325.length co27) : Value).ownBlock) v341 t339) ∧ Aside0 (Below w.heap.size w w'))
     case atStart => exact ⟨(0), (by first | rfl | (simp; done) | (simp [*]; done)), H', ⟨Nat.le_refl _⟩, ⟨qm (Kd.Q_mono HO_3.out (fun _ hk => ⟨hk.1.1, hk.2⟩))⟩, ⟨rm (Kd.R_mono HO_4.out (fun _ hk => ⟨hk.1.1, hk.2⟩))⟩, ⟨rm (Kd.R_mono HO342.out (fun _ hk => ⟨hk.1.1.2, hk.1.2⟩))⟩, ⟨lb HB.out⟩⟩
     case round =>
      clear H'
      try clear c1
      try clear c2
      try clear c2b0
      try clear c2b1
      try clear p2
      try clear c5
      try clear c11
      try clear c11b0
      try clear c11b1
      try clear c11b2
      try clear c13
      try clear c18
      try clear c19
      try clear c19b0
      try clear c19b1
      try clear c19b2
      try clear c22
      try clear c23
      try clear c24
      try clear p2
      obtain ⟨x15_2, rfl, HA, HK2, HO_3, HO_4, HO_12, HB⟩ := hrel
      cases gk with
      | zero => exact absurd HA.out (by simp [laws_FnMarks.l0])
      | succ k2 =>
       have H := HA.out
       clear HA
       simp only [laws_FnMarks.l0] at H
       by_cases c30 : x15_2 < (t325.length : Int)
       ·rw [if_pos c30] at H
        have c30b0 : decide (x15_2 < (t325.length : Int)) = true := decide_eq_true c30
        clear c30
        by_cases c31 : (t325.length : Int) = 0
        ·rw [if_pos c31] at H
         exact absurd H (by simp)
        ·rw [if_neg c31] at H
         have c31b0 : ((t325.length : Int) == 0) = false := beq_eq_false_iff_ne.mpr c31
         have c31b1 : ((t325.length : Int) != 0) = true := bne_iff_ne.mpr c31
         have c31b2 : ¬ (t325 = []) := fun h_ => c31 (by rw [h_]; rfl)
         obtain ⟨ji32, hji32⟩ : ∃ j_ : Int, (Int.tmod (wrap64 ((wrap64 (x15_2 + (t325.length : Int))) - 1)) (t325.length : Int)) = j_ := ⟨_, rfl⟩
         replace H : (if 0 ≤ (ji32) then (if (ji32) < (t325.length : Int) then (if 0 ≤ (Int.tmod (wrap64 (x15_2 + 1)) (t325.length : Int)) then (if (Int.tmod (wrap64 (x15_2 + 1)) (t325.length : Int)) < (t325.length : Int) then (if 0 ≤ x15_2 then (if x15_2 < (t325.length : Int) then ((impl_PointOn.f k2 ((rd_T33 t325 (ji32)).f0) ((rd_T33 t325 (ji32)).f1) ((rd_T33 t325 (Int.tmod (wrap64 (x15_2 + 1)) (t325.length : Int))).f0) ((rd_T33 t325 (Int.tmod (wrap64 (x15_2 + 1)) (t325.length : Int))).f1) ((rd_T33 t325 x15_2).f0) ((rd_T33 t325 x15_2).f1)).bind fun t346 => (if t346 = true then (some false) else (laws_FnMarks.l0 k2 t322 t325 t335 t336 t337 t338 t339 t340 (t325.length : Int) (wrap64 (x15_2 + 1))))) else (none)) else (none)) else (none)) else (none)) else (none)) else (none)) = some r := by first | (rw [hji32] at H; exact H) | (simp only [hji32] at H ⊢; exact H)
         by_cases c33 : 0 ≤ (ji32)
         ·rw [if_pos c33] at H
          have c33b0 : decide (0 ≤ (ji32)) = true := decide_eq_true c33
          clear c33
          by_cases c34 : (ji32) < (t325.length : Int)
          ·rw [if_pos c34] at H
           have c34b0 : decide ((ji32) < (t325.length : Int)) = true := decide_eq_true c34
           clear c34
           obtain ⟨ji35, hji35⟩ : ∃ j_ : Int, (Int.tmod (wrap64 (x15_2 + 1)) (t325.length : Int)) = j_ := ⟨_, rfl⟩
           replace H : (if 0 ≤ (ji35) then (if (ji35) < (t325.length : Int) then (if 0 ≤ x15_2 then (if x15_2 < (t325.length : Int) then ((impl_PointOn.f k2 ((rd_T33 t325 (ji32)).f0) ((rd_T33 t325 (ji32)).f1) ((rd_T33 t325 (ji35)).f0) ((rd_T33 t325 (ji35)).f1) ((rd_T33 t325 x15_2).f0) ((rd_T33 t325 x15_2).f1)).bind fun t346 => (if t346 = true then (some false) else (laws_FnMarks.l0 k2 t322 t325 t335 t336 t337 t338 t339 t340 (t325.length : Int) (wrap64 (x15_2 + 1))))) else (none)) else (none)) else (none)) else (none)) = some r := by first | (rw [hji35] at H; exact H) | (simp only [hji35] at H ⊢; exact H)
           by_cases c36 : 0 ≤ (ji35)
           ·rw [if_pos c36] at H
            have c36b0 : decide (0 ≤ (ji35)) = true := decide_eq_true c36
            clear c36
            by_cases c37 : (ji35) < (t325.length : Int)
            ·rw [if_pos c37] at H
             have c37b0 : decide ((ji35) < (t325.length : Int)) = true := decide_eq_true c37
             clear c37
             by_cases c38 : 0 ≤ x15_2
             ·rw [if_pos c38] at H
              have c38b0 : decide (0 ≤ x15_2) = true := decide_eq_true c38
              clear c38
              by_cases c39 : x15_2 < (t325.length : Int)
              ·rw [if_pos c39] at H
               have c39b0 : decide (x15_2 < (t325.length : Int)) = true := decide_eq_true c39
               clear c39
               replace H := Option.bind_eq_some_iff.mp H
               obtain ⟨t346, A400, H⟩ := H
               replace H : (if t346 = true then (some false) else (laws_FnMarks.l0 k2 t322 t325 t335 t336 t337 t338 t339 t340 (t325.length : Int) (wrap64 (x15_2 + 1)))) = some r := H
               have A40 := Aside0.mk A400
               clear A400
               by_cases c41 : t346 = true
               ·subst c41
                have H1 : (some false) = some r := by rw [if_pos rfl] at H; exact H
                clear H
                have H := H1
                clear H1
                obtain rfl := Option.some.inj H
                try go_wp2
                have n0_ := Aside0.mk (Kd.Q_drew HO_3.out)
                have n1_ := Aside0.mk (Kd.R_drew HO_4.out)
                have n2_ := Aside0.mk (Kd.R_drew HO_12.out)
                have n3_ := Aside0.mk (below_drew1 HB.out)
                clear HO_3 HO_4 HO_12 HB
                have HO_3 := n0_
                have HO_4 := n1_
                have HO_12 := n2_
                have HB := n3_
                clear n0_ n1_ n2_ n3_
                have p343 : 0 ≤ ((ji32) : Int) := oa
                have q343 : (ji32) < (t325.length : Int) := oa
                obtain ⟨ad343, e343, hx343_0, hx343_1⟩ := at_T33 (Kd.R_reads' HO_4.out).2.2 (ji32) p343 q343
                cases e343
                replace p343 := eq_true p343
                replace q343 := eq_true q343
                have p344 : 0 ≤ ((ji35) : Int) := oa
                have q344 : (ji35) < (t325.length : Int) := oa
                obtain ⟨ad344, e344, hx344_0, hx344_1⟩ := at_T33 (Kd.R_reads' HO_4.out).2.2 (ji35) p344 q344
                obtain rfl : ad343 = ad344 := (by injection e344)
                replace p344 := eq_true p344
                replace q344 := eq_true q344
                have p345 : 0 ≤ (x15_2 : Int) := oa
                have q345 : x15_2 < (t325.length : Int) := oa
                obtain ⟨ad345, e345, hx345_0, hx345_1⟩ := at_T33 (Kd.R_reads' HO_4.out).2.2 x15_2 p345 q345
                obtain rfl : ad343 = ad345 := (by injection e345)
                replace p345 := eq_true p345
                replace q345 := eq_true q345
                refine start_ (n := 21) (S := fun w' => w'.cell? (ad343.add (((ji32)).toNat * 2)) = some (.int .i64 ((rd_T33 t325 (ji32)).f0)) ∧ w'.cell? ⟨(ad343.add (((ji32)).toNat * 2)).block, (ad343.add (((ji32)).toNat * 2)).off + 1, none⟩ = some (.int .i64 ((rd_T33 t325 (ji32)).f1)) ∧ w'.cell? (ad343.add (((ji35)).toNat * 2)) = some (.int .i64 ((rd_T33 t325 (ji35)).f0)) ∧ w'.cell? ⟨(ad343.add (((ji35)).toNat * 2)).block, (ad343.add (((ji35)).toNat * 2)).off + 1, none⟩ = some (.int .i64 ((rd_T33 t325 (ji35)).f1)) ∧ w'.cell? (ad343.add ((x15_2).toNat * 2)) = some (.int .i64 ((rd_T33 t325 x15_2).f0)) ∧ w'.cell? ⟨(ad343.add ((x15_2).toNat * 2)).block, (ad343.add ((x15_2).toNat * 2)).off + 1, none⟩ = some (.int .i64 ((rd_T33 t325 x15_2).f1))) (ds := []) #[false,false,false,false,false,false,false,false,false,false,false,false,false,false,false,false,false,false,false,false,false] (by kernel_rfl) rfl rfl ⟨hx343_0, hx343_1, hx344_0, hx344_1, hx345_0, hx345_1⟩ (fun hHeld => ?_); refine with_tabW laws_FnMarks.tab15 laws_FnMarks.bits15 (fun HT_ HW_ => ?_)
                generalize wr.drew = w42 at HO_3 HO_4 HO_12 HB hx343_0 hx343_1 hx344_0 hx344_1 hx345_0 hx345_1 hHeld ⊢
                refine pq_ 0 (some 74) ?_
                refine pq_ 1 (some 75) ?_
                refine pq_ 2 (some 76) ?_
                refine pq_ 3 (some 77) ?_
                refine pq_ 4 (some 78) ?_
                refine pq_ 5 (some 79) ?_
                refine pq_ 6 (some 80) ?_
                refine pq_ 7 (some 81) ?_
                refine pq_ 9 (some 83) ?_
                refine pq_ 10 (some 84) ?_
                refine pq_ 11 (some 85) ?_
                refine pq_ 12 (some 86) ?_
                refine pq_ 13 (some 87) ?_
                refine pq_ 14 (some 88) ?_
                refine pq_ 16 (some 90) ?_
                refine pq_ 17 (some 91) ?_
                refine pq_ 18 (some 92) ?_
                refine tq_ 8 (some 82) ?_
                refine tq_ 15 (some 89) ?_
                refine tq_ 19 (some 93) ?_
                refine one_ (i := 20) (N := some 94) #[true,true,true,true,true,true,true,true,true,true,true,true,true,true,true,true,true,true,true,true,true] rfl rfl (one_of HT_.out (by kernel_rfl)) (by decide) (fun K hK => ?_)
                refine goes_ Try.func25 (by kernel_rfl) rfl #[.agg #[.int .i64 ((rd_T33 t325 (ji32)).f0), .int .i64 ((rd_T33 t325 (ji32)).f1)], .agg #[.int .i64 ((rd_T33 t325 (ji35)).f0), .int .i64 ((rd_T33 t325 (ji35)).f1)], .agg #[.int .i64 ((rd_T33 t325 x15_2).f0), .int .i64 ((rd_T33 t325 x15_2).f1)]] (by rfl) rfl rfl (by (try simp only [List.map_toArray, List.map_cons, List.map_nil]); first | done | (simp only [hji32, hji35]; rfl) | rfl | (simp only [List.length_drop, List.length_take]; rfl)) ?_
                with_reducible refine (impl_PointOn.calls k2 ((rd_T33 t325 (ji32)).f0) ((rd_T33 t325 (ji32)).f1) ((rd_T33 t325 (ji35)).f0) ((rd_T33 t325 (ji35)).f1) ((rd_T33 t325 x15_2).f0) ((rd_T33 t325 x15_2).f1) true _ A40.out).mono ?_
                rintro e w43 ⟨rfl, hb⟩
                have HS0_ := (hb.cell (World.block_lt_of_cell? _ _ (hHeld.1))).trans (hHeld.1)
                have HS1_ := (hb.cell (World.block_lt_of_cell? _ _ (hHeld.2.1))).trans (hHeld.2.1)
                have HS2_ := (hb.cell (World.block_lt_of_cell? _ _ (hHeld.2.2.1))).trans (hHeld.2.2.1)
                have HS3_ := (hb.cell (World.block_lt_of_cell? _ _ (hHeld.2.2.2.1))).trans (hHeld.2.2.2.1)
                have HS4_ := (hb.cell (World.block_lt_of_cell? _ _ (hHeld.2.2.2.2.1))).trans (hHeld.2.2.2.2.1)
                have HS5_ := (hb.cell (World.block_lt_of_cell? _ _ (hHeld.2.2.2.2.2))).trans (hHeld.2.2.2.2.2)
                refine ⟨_, rfl, ?_⟩
                have n0_ := Aside0.mk (Kd.Q_below (qm HO_3.out) hb)
                have n1_ := Aside0.mk (Kd.R_below (rm HO_4.out) hb)
                have n2_ := Aside0.mk (Kd.R_below (rm HO_12.out) hb)
                have n3_ := Aside0.mk (below_step (lb HB.out) hb)
                clear HO_3 HO_4 HO_12 HB
                have HO_3 := n0_
                have HO_4 := n1_
                have HO_12 := n2_
                have HB := n3_
                clear n0_ n1_ n2_ n3_
                (try clear hb);(try clear hb2);(try clear hk);(try clear hi)
                refine hK.out _ _ ⟨HS0_, HS1_, HS2_, HS3_, HS4_, HS5_⟩ (fun hHeld => ?_)
                clear hK K
                refine norm_ (a' := ?_) ?_ ?_
                rotate_left
                ·show Act.put _ (some 94) _ = _
                 simp only [Act.put, List.setIfInBounds_toArray, List.set_cons_zero, List.set_cons_succ, i64_w, i32_w]
                 rfl
                refine done_ (done_of HT_.out (by kernel_rfl)) ?_
                try go_wp2
                go_ret
                exact ⟨by first | rfl | (simp [errW_none, errW_some] <;> rfl) | (simp only [← hji32, ← hji35]; first | rfl | (simp [errW_none, errW_some] <;> rfl)) | (simp [*, errW_none, errW_some] <;> rfl), lb HB.out⟩
               ·replace c41 := Bool.eq_false_iff.mpr c41
                subst c41
                have H1 : (laws_FnMarks.l0 k2 t322 t325 t335 t336 t337 t338 t339 t340 (t325.length : Int) (wrap64 (x15_2 + 1))) = some r := by rw [if_neg (show ¬ (false = true) by decide)] at H; exact H
                clear H
                have H := H1
                clear H1
                have H' := Aside0.mk H
                clear H
                try go_wp2
                have n0_ := Aside0.mk (Kd.Q_drew HO_3.out)
                have n1_ := Aside0.mk (Kd.R_drew HO_4.out)
                have n2_ := Aside0.mk (Kd.R_drew HO_12.out)
                have n3_ := Aside0.mk (below_drew1 HB.out)
                clear HO_3 HO_4 HO_12 HB
                have HO_3 := n0_
                have HO_4 := n1_
                have HO_12 := n2_
                have HB := n3_
                clear n0_ n1_ n2_ n3_
                have p343 : 0 ≤ ((ji32) : Int) := oa
                have q343 : (ji32) < (t325.length : Int) := oa
                obtain ⟨ad343, e343, hx343_0, hx343_1⟩ := at_T33 (Kd.R_reads' HO_4.out).2.2 (ji32) p343 q343
                cases e343
                replace p343 := eq_true p343
                replace q343 := eq_true q343
                have p344 : 0 ≤ ((ji35) : Int) := oa
                have q344 : (ji35) < (t325.length : Int) := oa
                obtain ⟨ad344, e344, hx344_0, hx344_1⟩ := at_T33 (Kd.R_reads' HO_4.out).2.2 (ji35) p344 q344
                obtain rfl : ad343 = ad344 := (by injection e344)
                replace p344 := eq_true p344
                replace q344 := eq_true q344
                have p345 : 0 ≤ (x15_2 : Int) := oa
                have q345 : x15_2 < (t325.length : Int) := oa
                obtain ⟨ad345, e345, hx345_0, hx345_1⟩ := at_T33 (Kd.R_reads' HO_4.out).2.2 x15_2 p345 q345
                obtain rfl : ad343 = ad345 := (by injection e345)
                replace p345 := eq_true p345
                replace q345 := eq_true q345
                refine start_ (n := 21) (S := fun w' => w'.cell? (ad343.add (((ji32)).toNat * 2)) = some (.int .i64 ((rd_T33 t325 (ji32)).f0)) ∧ w'.cell? ⟨(ad343.add (((ji32)).toNat * 2)).block, (ad343.add (((ji32)).toNat * 2)).off + 1, none⟩ = some (.int .i64 ((rd_T33 t325 (ji32)).f1)) ∧ w'.cell? (ad343.add (((ji35)).toNat * 2)) = some (.int .i64 ((rd_T33 t325 (ji35)).f0)) ∧ w'.cell? ⟨(ad343.add (((ji35)).toNat * 2)).block, (ad343.add (((ji35)).toNat * 2)).off + 1, none⟩ = some (.int .i64 ((rd_T33 t325 (ji35)).f1)) ∧ w'.cell? (ad343.add ((x15_2).toNat * 2)) = some (.int .i64 ((rd_T33 t325 x15_2).f0)) ∧ w'.cell? ⟨(ad343.add ((x15_2).toNat * 2)).block, (ad343.add ((x15_2).toNat * 2)).off + 1, none⟩ = some (.int .i64 ((rd_T33 t325 x15_2).f1))) (ds := []) #[false,false,false,false,false,false,false,false,false,false,false,false,false,false,false,false,false,false,false,false,false] (by kernel_rfl) rfl rfl ⟨hx343_0, hx343_1, hx344_0, hx344_1, hx345_0, hx345_1⟩ (fun hHeld => ?_); refine with_tabW laws_FnMarks.tab15 laws_FnMarks.bits15 (fun HT_ HW_ => ?_)
                generalize wr.drew = w44 at HO_3 HO_4 HO_12 HB hx343_0 hx343_1 hx344_0 hx344_1 hx345_0 hx345_1 hHeld ⊢
                refine pq_ 0 (some 74) ?_
                refine pq_ 1 (some 75) ?_
                refine pq_ 2 (some 76) ?_
                refine pq_ 3 (some 77) ?_
                refine pq_ 4 (some 78) ?_
                refine pq_ 5 (some 79) ?_
                refine pq_ 6 (some 80) ?_
                refine pq_ 7 (some 81) ?_
                refine pq_ 9 (some 83) ?_
                refine pq_ 10 (some 84) ?_
                refine pq_ 11 (some 85) ?_
                refine pq_ 12 (some 86) ?_
                refine pq_ 13 (some 87) ?_
                refine pq_ 14 (some 88) ?_
                refine pq_ 16 (some 90) ?_
                refine pq_ 17 (some 91) ?_
                refine pq_ 18 (some 92) ?_
                refine tq_ 8 (some 82) ?_
                refine tq_ 15 (some 89) ?_
                refine tq_ 19 (some 93) ?_
                refine one_ (i := 20) (N := some 94) #[true,true,true,true,true,true,true,true,true,true,true,true,true,true,true,true,true,true,true,true,true] rfl rfl (one_of HT_.out (by kernel_rfl)) (by decide) (fun K hK => ?_)
                refine goes_ Try.func25 (by kernel_rfl) rfl #[.agg #[.int .i64 ((rd_T33 t325 (ji32)).f0), .int .i64 ((rd_T33 t325 (ji32)).f1)], .agg #[.int .i64 ((rd_T33 t325 (ji35)).f0), .int .i64 ((rd_T33 t325 (ji35)).f1)], .agg #[.int .i64 ((rd_T33 t325 x15_2).f0), .int .i64 ((rd_T33 t325 x15_2).f1)]] (by rfl) rfl rfl (by (try simp only [List.map_toArray, List.map_cons, List.map_nil]); first | done | (simp only [hji32, hji35]; rfl) | rfl | (simp only [List.length_drop, List.length_take]; rfl)) ?_
                with_reducible refine (impl_PointOn.calls k2 ((rd_T33 t325 (ji32)).f0) ((rd_T33 t325 (ji32)).f1) ((rd_T33 t325 (ji35)).f0) ((rd_T33 t325 (ji35)).f1) ((rd_T33 t325 x15_2).f0) ((rd_T33 t325 x15_2).f1) false _ A40.out).mono ?_
                rintro e w45 ⟨rfl, hb⟩
                have HS0_ := (hb.cell (World.block_lt_of_cell? _ _ (hHeld.1))).trans (hHeld.1)
                have HS1_ := (hb.cell (World.block_lt_of_cell? _ _ (hHeld.2.1))).trans (hHeld.2.1)
                have HS2_ := (hb.cell (World.block_lt_of_cell? _ _ (hHeld.2.2.1))).trans (hHeld.2.2.1)
                have HS3_ := (hb.cell (World.block_lt_of_cell? _ _ (hHeld.2.2.2.1))).trans (hHeld.2.2.2.1)
                have HS4_ := (hb.cell (World.block_lt_of_cell? _ _ (hHeld.2.2.2.2.1))).trans (hHeld.2.2.2.2.1)
                have HS5_ := (hb.cell (World.block_lt_of_cell? _ _ (hHeld.2.2.2.2.2))).trans (hHeld.2.2.2.2.2)
                refine ⟨_, rfl, ?_⟩
                have n0_ := Aside0.mk (Kd.Q_below (qm HO_3.out) hb)
                have n1_ := Aside0.mk (Kd.R_below (rm HO_4.out) hb)
                have n2_ := Aside0.mk (Kd.R_below (rm HO_12.out) hb)
                have n3_ := Aside0.mk (below_step (lb HB.out) hb)
                clear HO_3 HO_4 HO_12 HB
                have HO_3 := n0_
                have HO_4 := n1_
                have HO_12 := n2_
                have HB := n3_
                clear n0_ n1_ n2_ n3_
                (try clear hb);(try clear hb2);(try clear hk);(try clear hi)
                refine hK.out _ _ ⟨HS0_, HS1_, HS2_, HS3_, HS4_, HS5_⟩ (fun hHeld => ?_)
                clear hK K
                refine norm_ (a' := ?_) ?_ ?_
                rotate_left
                ·show Act.put _ (some 94) _ = _
                 simp only [Act.put, List.setIfInBounds_toArray, List.set_cons_zero, List.set_cons_succ, i64_w, i32_w]
                 rfl
                refine done_ (done_of HT_.out (by kernel_rfl)) ?_
                try go_wp2
                go_roundg k2
                case measure => have := HJ5.out; have := HK2.out; omega
                case rel => exact ⟨(wrap64 (x15_2 + 1)), (by first | rfl | (simp; done) | (simp [*]; done)), H', ⟨by have := HJ5.out; have := HK2.out; omega⟩, ⟨qm HO_3.out⟩, ⟨rm HO_4.out⟩, ⟨rm HO_12.out⟩, ⟨lb HB.out⟩⟩
              ·rw [if_neg c39] at H
               exact absurd H (by simp)
             ·rw [if_neg c38] at H
              exact absurd H (by simp)
            ·rw [if_neg c37] at H
             exact absurd H (by simp)
           ·rw [if_neg c36] at H
            exact absurd H (by simp)
          ·rw [if_neg c34] at H
           exact absurd H (by simp)
         ·rw [if_neg c33] at H
          exact absurd H (by simp)
       ·rw [if_neg c30] at H
        have c30b0 : decide (x15_2 < (t325.length : Int)) = false := decide_eq_false c30
        clear c30
        by_cases c46 : t336 = true
        ·subst c46
         have H1 : (if t338 = true then (if t340 = true then (if t335 = t337 then ((laws_samePoints.f k2 t339 t325).bind fun t347 => (if t347 = true then ((impl_ParcelValid.f t325).bind fun t348 => (if t348 = true then ((impl_PolyInside.f t325).bind fun t349 => ((impl_PolyInside.f t322).bind fun t350 => (if t349 = t350 then ((impl_PolyEdge.f t325).bind fun t351 => ((impl_PolyEdge.f t322).bind fun t352 => (some (t351 == t352)))) else (some false)))) else (some false))) else (some false))) else (some false)) else (some false)) else (some false)) = some r := by rw [if_pos rfl] at H; exact H
         clear H
         have H := H1
         clear H1
         by_cases c47 : t338 = true
         ·subst c47
          have H1 : (if t340 = true then (if t335 = t337 then ((laws_samePoints.f k2 t339 t325).bind fun t347 => (if t347 = true then ((impl_ParcelValid.f t325).bind fun t348 => (if t348 = true then ((impl_PolyInside.f t325).bind fun t349 => ((impl_PolyInside.f t322).bind fun t350 => (if t349 = t350 then ((impl_PolyEdge.f t325).bind fun t351 => ((impl_PolyEdge.f t322).bind fun t352 => (some (t351 == t352)))) else (some false)))) else (some false))) else (some false))) else (some false)) else (some false)) = some r := by rw [if_pos rfl] at H; exact H
          clear H
          have H := H1
          clear H1
          by_cases c48 : t340 = true
          ·subst c48
           have H1 : (if t335 = t337 then ((laws_samePoints.f k2 t339 t325).bind fun t347 => (if t347 = true then ((impl_ParcelValid.f t325).bind fun t348 => (if t348 = true then ((impl_PolyInside.f t325).bind fun t349 => ((impl_PolyInside.f t322).bind fun t350 => (if t349 = t350 then ((impl_PolyEdge.f t325).bind fun t351 => ((impl_PolyEdge.f t322).bind fun t352 => (some (t351 == t352)))) else (some false)))) else (some false))) else (some false))) else (some false)) = some r := by rw [if_pos rfl] at H; exact H
           clear H
           have H := H1
           clear H1
           by_cases c49 : t335 = t337
           ·rw [if_pos c49] at H
            have c49b0 : (t335 == t337) = true := beq_iff_eq.mpr c49
            have c49b1 : (t335 != t337) = false := bne_eq_false_iff_eq.mpr c49
            clear c49
            replace H := Option.bind_eq_some_iff.mp H
            obtain ⟨t347, A500, H⟩ := H
            replace H : (if t347 = true then ((impl_ParcelValid.f t325).bind fun t348 => (if t348 = true then ((impl_PolyInside.f t325).bind fun t349 => ((impl_PolyInside.f t322).bind fun t350 => (if t349 = t350 then ((impl_PolyEdge.f t325).bind fun t351 => ((impl_PolyEdge.f t322).bind fun t352 => (some (t351 == t352)))) else (some false)))) else (some false))) else (some false)) = some r := H
            have A50 := Aside0.mk A500
            clear A500
            by_cases c51 : t347 = true
            ·subst c51
             have H1 : ((impl_ParcelValid.f t325).bind fun t348 => (if t348 = true then ((impl_PolyInside.f t325).bind fun t349 => ((impl_PolyInside.f t322).bind fun t350 => (if t349 = t350 then ((impl_PolyEdge.f t325).bind fun t351 => ((impl_PolyEdge.f t322).bind fun t352 => (some (t351 == t352)))) else (some false)))) else (some false))) = some r := by rw [if_pos rfl] at H; exact H
             clear H
             have H := H1
             clear H1
             replace H := Option.bind_eq_some_iff.mp H
             obtain ⟨t348, A520, H⟩ := H
             replace H : (if t348 = true then ((impl_PolyInside.f t325).bind fun t349 => ((impl_PolyInside.f t322).bind fun t350 => (if t349 = t350 then ((impl_PolyEdge.f t325).bind fun t351 => ((impl_PolyEdge.f t322).bind fun t352 => (some (t351 == t352)))) else (some false)))) else (some false)) = some r := H
             have A52 := Aside0.mk A520
             clear A520
             by_cases c53 : t348 = true
             ·subst c53
              have H1 : ((impl_PolyInside.f t325).bind fun t349 => ((impl_PolyInside.f t322).bind fun t350 => (if t349 = t350 then ((impl_PolyEdge.f t325).bind fun t351 => ((impl_PolyEdge.f t322).bind fun t352 => (some (t351 == t352)))) else (some false)))) = some r := by rw [if_pos rfl] at H; exact H
              clear H
              have H := H1
              clear H1
              replace H := Option.bind_eq_some_iff.mp H
              obtain ⟨t349, A540, H⟩ := H
              replace H : ((impl_PolyInside.f t322).bind fun t350 => (if t349 = t350 then ((impl_PolyEdge.f t325).bind fun t351 => ((impl_PolyEdge.f t322).bind fun t352 => (some (t351 == t352)))) else (some false))) = some r := H
              have A54 := Aside0.mk A540
              clear A540
              replace H := Option.bind_eq_some_iff.mp H
              obtain ⟨t350, A550, H⟩ := H
              replace H : (if t349 = t350 then ((impl_PolyEdge.f t325).bind fun t351 => ((impl_PolyEdge.f t322).bind fun t352 => (some (t351 == t352)))) else (some false)) = some r := H
              have A55 := Aside0.mk A550
              clear A550
              by_cases c56 : t349 = t350
              ·rw [if_pos c56] at H
               have c56b0 : (t349 == t350) = true := beq_iff_eq.mpr c56
               have c56b1 : (t349 != t350) = false := bne_eq_false_iff_eq.mpr c56
               clear c56
               replace H := Option.bind_eq_some_iff.mp H
               obtain ⟨t351, A570, H⟩ := H
               replace H : ((impl_PolyEdge.f t322).bind fun t352 => (some (t351 == t352))) = some r := H
               have A57 := Aside0.mk A570
               clear A570
               replace H := Option.bind_eq_some_iff.mp H
               obtain ⟨t352, A580, H⟩ := H
               replace H : (some (t351 == t352)) = some r := H
               have A58 := Aside0.mk A580
               clear A580
               obtain rfl := Option.some.inj H
               obtain ⟨Ao59, co59, eo59⟩ := Kd.R_slice HO_12.out
               subst eo59
               go_wp2_with (first | (go_at_call 10; (with_reducible refine (laws_samePoints.calls k2 _ _ t339 _ _ t325 true _ ?side1 ?side2 ?side3 ?side4 A50.out).mono ?_); (case side1 => exact cm (Kd.R_reads' HO_12.out).2.2); (case side2 => exact (Kd.R_reads' HO_12.out).2.1); (case side3 => exact cm (Kd.R_reads' HO_4.out).2.2); (case side4 => exact (Kd.R_reads' HO_4.out).2.1); rintro e w' ⟨rfl, ⟨nd, rfl⟩⟩) | (go_at_call 13; (with_reducible refine (impl_ParcelValid.calls _ _ t325 true _ ?side1 ?side2 A52.out).mono ?_); (case side1 => exact cm (Kd.R_reads' HO_4.out).2.2); (case side2 => exact (Kd.R_reads' HO_4.out).2.1); rintro e w60 ⟨rfl, hb⟩; have n0_ := Aside0.mk (Kd.Q_below (qm HO_3.out) hb); have n1_ := Aside0.mk (Kd.R_below (rm HO_4.out) hb); have n2_ := Aside0.mk (Kd.R_below (rm HO_12.out) hb); have n3_ := Aside0.mk (below_step (lb HB.out) hb); clear HO_3; clear HO_4; clear HO_12; clear HB; have HO_3 := n0_; have HO_4 := n1_; have HO_12 := n2_; have HB := n3_; clear n0_ n1_ n2_ n3_; (try clear hb); (try clear hb2); (try clear hk); (try clear hi)) | (go_at_call 14; (with_reducible refine (impl_PolyInside.calls _ _ t325 t349 _ ?side1 ?side2 A54.out).mono ?_); (case side1 => exact cm (Kd.R_reads' HO_4.out).2.2); (case side2 => exact (Kd.R_reads' HO_4.out).2.1); rintro e w61 ⟨rfl, hb⟩; have n0_ := Aside0.mk (Kd.Q_below (qm HO_3.out) hb); have n1_ := Aside0.mk (Kd.R_below (rm HO_4.out) hb); have n2_ := Aside0.mk (Kd.R_below (rm HO_12.out) hb); have n3_ := Aside0.mk (below_step (lb HB.out) hb); clear HO_3; clear HO_4; clear HO_12; clear HB; have HO_3 := n0_; have HO_4 := n1_; have HO_12 := n2_; have HB := n3_; clear n0_ n1_ n2_ n3_; (try clear hb); (try clear hb2); (try clear hk); (try clear hi)) | (go_at_call 14; (with_reducible refine (impl_PolyInside.calls _ _ t322 t350 _ ?side1 ?side2 A55.out).mono ?_); (case side1 => repeat (first | exact (Kd.Q_reads' HO_3.out).2.2 | (with_reducible refine Kd.C_alloc ?_ _) | (with_reducible refine Kd.C_drewN ?_ _) | (with_reducible refine Kd.C_drew ?_))); (case side2 => exact (Kd.Q_reads' HO_3.out).2.1); rintro e w62 ⟨rfl, hb⟩; have n0_ := Aside0.mk (Kd.Q_below (qm HO_3.out) hb); have n1_ := Aside0.mk (Kd.R_below (rm HO_4.out) hb); have n2_ := Aside0.mk (Kd.R_below (rm HO_12.out) hb); have n3_ := Aside0.mk (below_step (lb HB.out) hb); clear HO_3; clear HO_4; clear HO_12; clear HB; have HO_3 := n0_; have HO_4 := n1_; have HO_12 := n2_; have HB := n3_; clear n0_ n1_ n2_ n3_; (try clear hb); (try clear hb2); (try clear hk); (try clear hi)) | (go_at_call 26; (with_reducible refine (impl_PolyEdge.calls _ _ t325 t351 _ ?side1 ?side2 A57.out).mono ?_); (case side1 => exact cm (Kd.R_reads' HO_4.out).2.2); (case side2 => exact (Kd.R_reads' HO_4.out).2.1); rintro e w63 ⟨rfl, hb⟩; have n0_ := Aside0.mk (Kd.Q_below (qm HO_3.out) hb); have n1_ := Aside0.mk (Kd.R_below (rm HO_4.out) hb); have n2_ := Aside0.mk (Kd.R_below (rm HO_12.out) hb); have n3_ := Aside0.mk (below_step (lb HB.out) hb); clear HO_3; clear HO_4; clear HO_12; clear HB; have HO_3 := n0_; have HO_4 := n1_; have HO_12 := n2_; have HB := n3_; clear n0_ n1_ n2_ n3_; (try clear hb); (try clear hb2); (try clear hk); (try clear hi)) | (go_at_call 26; (with_reducible refine (impl_PolyEdge.calls _ _ t322 t352 _ ?side1 ?side2 A58.out).mono ?_); (case side1 => repeat (first | exact (Kd.Q_reads' HO_3.out).2.2 | (with_reducible refine Kd.C_alloc ?_ _) | (with_reducible refine Kd.C_drewN ?_ _) | (with_reducible refine Kd.C_drew ?_))); (case side2 => exact (Kd.Q_reads' HO_3.out).2.1); rintro e w64 ⟨rfl, hb⟩; have n0_ := Aside0.mk (Kd.Q_below (qm HO_3.out) hb); have n1_ := Aside0.mk (Kd.R_below (rm HO_4.out) hb); have n2_ := Aside0.mk (Kd.R_below (rm HO_12.out) hb); have n3_ := Aside0.mk (below_step (lb HB.out) hb); clear HO_3; clear HO_4; clear HO_12; clear HB; have HO_3 := n0_; have HO_4 := n1_; have HO_12 := n2_; have HB := n3_; clear n0_ n1_ n2_ n3_; (try clear hb); (try clear hb2); (try clear hk); (try clear hi)))
               go_ret
               exact ⟨er, lb HB.out⟩
              ·rw [if_neg c56] at H
               have c56b0 : (t349 == t350) = false := beq_eq_false_iff_ne.mpr c56
               have c56b1 : (t349 != t350) = true := bne_iff_ne.mpr c56
               obtain rfl := Option.some.inj H
               obtain ⟨Ao65, co65, eo65⟩ := Kd.R_slice HO_12.out
               subst eo65
               go_wp2_with (first | (go_at_call 10; (with_reducible refine (laws_samePoints.calls k2 _ _ t339 _ _ t325 true _ ?side1 ?side2 ?side3 ?side4 A50.out).mono ?_); (case side1 => exact cm (Kd.R_reads' HO_12.out).2.2); (case side2 => exact (Kd.R_reads' HO_12.out).2.1); (case side3 => exact cm (Kd.R_reads' HO_4.out).2.2); (case side4 => exact (Kd.R_reads' HO_4.out).2.1); rintro e w' ⟨rfl, ⟨nd, rfl⟩⟩) | (go_at_call 13; (with_reducible refine (impl_ParcelValid.calls _ _ t325 true _ ?side1 ?side2 A52.out).mono ?_); (case side1 => exact cm (Kd.R_reads' HO_4.out).2.2); (case side2 => exact (Kd.R_reads' HO_4.out).2.1); rintro e w66 ⟨rfl, hb⟩; have n0_ := Aside0.mk (Kd.Q_below (qm HO_3.out) hb); have n1_ := Aside0.mk (Kd.R_below (rm HO_4.out) hb); have n2_ := Aside0.mk (Kd.R_below (rm HO_12.out) hb); have n3_ := Aside0.mk (below_step (lb HB.out) hb); clear HO_3; clear HO_4; clear HO_12; clear HB; have HO_3 := n0_; have HO_4 := n1_; have HO_12 := n2_; have HB := n3_; clear n0_ n1_ n2_ n3_; (try clear hb); (try clear hb2); (try clear hk); (try clear hi)) | (go_at_call 14; (with_reducible refine (impl_PolyInside.calls _ _ t325 t349 _ ?side1 ?side2 A54.out).mono ?_); (case side1 => exact cm (Kd.R_reads' HO_4.out).2.2); (case side2 => exact (Kd.R_reads' HO_4.out).2.1); rintro e w67 ⟨rfl, hb⟩; have n0_ := Aside0.mk (Kd.Q_below (qm HO_3.out) hb); have n1_ := Aside0.mk (Kd.R_below (rm HO_4.out) hb); have n2_ := Aside0.mk (Kd.R_below (rm HO_12.out) hb); have n3_ := Aside0.mk (below_step (lb HB.out) hb); clear HO_3; clear HO_4; clear HO_12; clear HB; have HO_3 := n0_; have HO_4 := n1_; have HO_12 := n2_; have HB := n3_; clear n0_ n1_ n2_ n3_; (try clear hb); (try clear hb2); (try clear hk); (try clear hi)) | (go_at_call 14; (with_reducible refine (impl_PolyInside.calls _ _ t322 t350 _ ?side1 ?side2 A55.out).mono ?_); (case side1 => repeat (first | exact (Kd.Q_reads' HO_3.out).2.2 | (with_reducible refine Kd.C_alloc ?_ _) | (with_reducible refine Kd.C_drewN ?_ _) | (with_reducible refine Kd.C_drew ?_))); (case side2 => exact (Kd.Q_reads' HO_3.out).2.1); rintro e w68 ⟨rfl, hb⟩; have n0_ := Aside0.mk (Kd.Q_below (qm HO_3.out) hb); have n1_ := Aside0.mk (Kd.R_below (rm HO_4.out) hb); have n2_ := Aside0.mk (Kd.R_below (rm HO_12.out) hb); have n3_ := Aside0.mk (below_step (lb HB.out) hb); clear HO_3; clear HO_4; clear HO_12; clear HB; have HO_3 := n0_; have HO_4 := n1_; have HO_12 := n2_; have HB := n3_; clear n0_ n1_ n2_ n3_; (try clear hb); (try clear hb2); (try clear hk); (try clear hi)))
               go_ret
               exact ⟨er, lb HB.out⟩
             ·replace c53 := Bool.eq_false_iff.mpr c53
              subst c53
              have H1 : (some false) = some r := by rw [if_neg (show ¬ (false = true) by decide)] at H; exact H
              clear H
              have H := H1
              clear H1
              obtain rfl := Option.some.inj H
              obtain ⟨Ao69, co69, eo69⟩ := Kd.R_slice HO_12.out
              subst eo69
              go_wp2_with (first | (go_at_call 10; (with_reducible refine (laws_samePoints.calls k2 _ _ t339 _ _ t325 true _ ?side1 ?side2 ?side3 ?side4 A50.out).mono ?_); (case side1 => exact cm (Kd.R_reads' HO_12.out).2.2); (case side2 => exact (Kd.R_reads' HO_12.out).2.1); (case side3 => exact cm (Kd.R_reads' HO_4.out).2.2); (case side4 => exact (Kd.R_reads' HO_4.out).2.1); rintro e w' ⟨rfl, ⟨nd, rfl⟩⟩) | (go_at_call 13; (with_reducible refine (impl_ParcelValid.calls _ _ t325 false _ ?side1 ?side2 A52.out).mono ?_); (case side1 => exact cm (Kd.R_reads' HO_4.out).2.2); (case side2 => exact (Kd.R_reads' HO_4.out).2.1); rintro e w70 ⟨rfl, hb⟩; have n0_ := Aside0.mk (Kd.Q_below (qm HO_3.out) hb); have n1_ := Aside0.mk (Kd.R_below (rm HO_4.out) hb); have n2_ := Aside0.mk (Kd.R_below (rm HO_12.out) hb); have n3_ := Aside0.mk (below_step (lb HB.out) hb); clear HO_3; clear HO_4; clear HO_12; clear HB; have HO_3 := n0_; have HO_4 := n1_; have HO_12 := n2_; have HB := n3_; clear n0_ n1_ n2_ n3_; (try clear hb); (try clear hb2); (try clear hk); (try clear hi)))
              go_ret
              exact ⟨er, lb HB.out⟩
            ·replace c51 := Bool.eq_false_iff.mpr c51
             subst c51
             have H1 : (some false) = some r := by rw [if_neg (show ¬ (false = true) by decide)] at H; exact H
             clear H
             have H := H1
             clear H1
             obtain rfl := Option.some.inj H
             obtain ⟨Ao71, co71, eo71⟩ := Kd.R_slice HO_12.out
             subst eo71
             go_wp2_with (first | (go_at_call 10; (with_reducible refine (laws_samePoints.calls k2 _ _ t339 _ _ t325 false _ ?side1 ?side2 ?side3 ?side4 A50.out).mono ?_); (case side1 => exact cm (Kd.R_reads' HO_12.out).2.2); (case side2 => exact (Kd.R_reads' HO_12.out).2.1); (case side3 => exact cm (Kd.R_reads' HO_4.out).2.2); (case side4 => exact (Kd.R_reads' HO_4.out).2.1); rintro e w' ⟨rfl, ⟨nd, rfl⟩⟩))
             go_ret
             exact ⟨er, lb HB.out⟩
           ·rw [if_neg c49] at H
            have c49b0 : (t335 == t337) = false := beq_eq_false_iff_ne.mpr c49
            have c49b1 : (t335 != t337) = true := bne_iff_ne.mpr c49
            obtain rfl := Option.some.inj H
            go_wp2
            go_ret
            exact ⟨er, lb HB.out⟩
          ·replace c48 := Bool.eq_false_iff.mpr c48
           subst c48
           have H1 : (some false) = some r := by rw [if_neg (show ¬ (false = true) by decide)] at H; exact H
           clear H
           have H := H1
           clear H1
           obtain rfl := Option.some.inj H
           go_wp2
           go_ret
           exact ⟨er, lb HB.out⟩
         ·replace c47 := Bool.eq_false_iff.mpr c47
          subst c47
          have H1 : (some false) = some r := by rw [if_neg (show ¬ (false = true) by decide)] at H; exact H
          clear H
          have H := H1
          clear H1
          obtain rfl := Option.some.inj H
          go_wp2
          go_ret
          exact ⟨er, lb HB.out⟩
        ·replace c46 := Bool.eq_false_iff.mpr c46
         subst c46
         have H1 : (some false) = some r := by rw [if_neg (show ¬ (false = true) by decide)] at H; exact H
         clear H
         have H := H1
         clear H1
         obtain rfl := Option.some.inj H
         go_wp2
         go_ret
         exact ⟨er, lb HB.out⟩
def laws_FnMarks.Pure : Prop := ∀ (l0 : List Int), l0.length ≤ maxLen → l0.length * 1 ≤ 140737488351232 → (∀ x ∈ l0, (Lit.int .u8 x).wf = true) → ∃ k, laws_FnMarks.f k l0 = some true
theorem laws_FnMarks.walk (P : laws_FnMarks.Pure) (a0 : Option Addr) (len0 cap0 : Nat) (z0 : List Int) (w : World) (w0 : (a0 = none ∧ len0 = 0 ∧ cap0 = 0 ∧ z0 = []) ∨ ∃ x, a0 = some x ∧ len0 ≤ cap0 ∧ cap0 ≤ maxLen ∧ z0.length = cap0 ∧ (∀ i, i < z0.length → w.cell? (x.add i) = some (.int .u8 (z0.getD i 0))) ∧ ∀ n ∈ z0, (Lit.int .u8 n).wf = true) (y0 : len0 * 1 ≤ 140737488351232) :
  Calls Try.prog 5 #[.slice a0 len0 cap0] w fun e w' => e = .returned (.bool true) ∧ Below w.heap.size w w' := by
 obtain ⟨l0, rfl, hr0, hm0, hw0, hc0⟩ := ReadsInt.ofRowC w0
 obtain ⟨k, h⟩ := P l0 hm0 y0 hw0
 refine (laws_FnMarks.calls k _ _ l0 true w (Kd.C_of_reads (d := (0 : Int)) (h1 := fun _ => rfl) hr0) hc0 h).mono ?_
 rintro e w' ⟨rfl, hd⟩
 exact ⟨rfl, hd⟩
end Go.Proofs.Ytfonigbkoligmaa.P
-- squeezed

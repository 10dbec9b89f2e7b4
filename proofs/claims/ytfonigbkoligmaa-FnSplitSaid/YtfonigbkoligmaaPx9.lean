import Derived.Test.YtfonigbkoligmaaPx0
import Derived.Test.YtfonigbkoligmaaPx3
import Derived.Test.YtfonigbkoligmaaPx5
import Derived.Test.YtfonigbkoligmaaPx7
import Derived.Test.YtfonigbkoligmaaPx8
namespace Go.Proofs.Ytfonigbkoligmaa.P
open Go.RowKit Go.Proofs.YtfonigbkoligmaaW.PrintWords Go.Proofs.YtfonigbkoligmaaW.PrintLast Go.Proofs.YtfonigbkoligmaaW.PrintMore
attribute [local go_sem] max2_int min2_int max_two min_two max_three min_three max_four min_four
set_option linter.unusedVariables false
set_option linter.unusedSimpArgs false
def laws_FnSplit.j0 : Nat → List (S33) → Int → Int → List (S33) → List (S33) → Bool → List (S33) → List (S33) → Bool → Bool → Option (Bool)
 | 0, _, _, _, _, _, _, _, _, _, _ => none
 | k + 1, x3, x4, x5, x6, x7, x8, x9, x10, x11, x62 => if x62 = true then (if (x8 == x11) = true then ((laws_samePoints.f k x6 x9).bind fun t427 => (if t427 = true then ((laws_samePoints.f k x7 x10).bind fun t428 => (some t428)) else (some false))) else (some false)) else ((impl_PolyArea.f x6).bind fun bt429 => ((impl_PolyArea.f x7).bind fun bt431 => ((impl_PolyArea.f x3).bind fun bt433 => (if 0 ≤ x4 then (if x4 < (x3.length : Int) then (if 0 ≤ x5 then (if x5 < (x3.length : Int) then ((impl_PointGaps.f ((rd_T33 x3 x4).f0) ((rd_T33 x3 x4).f1) ((rd_T33 x3 x5).f0) ((rd_T33 x3 x5).f1)).bind fun t437 => (if bt429.2 = true then (if bt431.2 = true then (if bt433.2 = true then (if (wrap64 (bt429.1 + bt431.1)) = bt433.1 then ((impl_ParcelValid.f x6).bind fun t438 => (if t438 = true then ((impl_ParcelValid.f x7).bind fun t439 => (if t439 = true then ((impl_PolyInside.f x6).bind fun t440 => ((impl_PolyInside.f x7).bind fun t441 => ((impl_PolyInside.f x3).bind fun t442 => (if (wrap64 ((wrap64 ((wrap64 (t440 + t441)) + t437)) - 1)) = t442 then ((impl_ParcelCommon.f x6 x7).bind fun t443 => (some (t443 == 1))) else (some false))))) else (some false))) else (some false))) else (some false)) else (some false)) else (some false)) else (some false))) else (none)) else (none)) else (none)) else (none)))))
def laws_FnSplit.f (k : Nat) (l0 : List Int) : Option (Bool) := if (l0.length : Int) > 1048576 then (some true) else ((spec_DrawParcelSplit.f k l0).bind fun bt406 => ((impl_ParcelSplit.f k bt406.1 bt406.2.1 bt406.2.2).bind fun bt411 => ((spec_ParcelSplit.f k bt406.1 bt406.2.1 bt406.2.2).bind fun bt418 => (if (bt411.2.2 != bt418.2.2) = true then (laws_FnSplit.j0 k bt406.1 bt406.2.1 bt406.2.2 bt411.1 bt411.2.1 bt411.2.2 bt418.1 bt418.2.1 bt418.2.2 true) else ((laws_samePoints.f k bt411.1 bt418.1).bind fun t425 => (if t425 = true then ((laws_samePoints.f k bt411.2.1 bt418.2.1).bind fun t426 => (if t426 = true then (laws_FnSplit.j0 k bt406.1 bt406.2.1 bt406.2.2 bt411.1 bt411.2.1 bt411.2.2 bt418.1 bt418.2.1 bt418.2.2 (!bt411.2.2)) else (laws_FnSplit.j0 k bt406.1 bt406.2.1 bt406.2.2 bt411.1 bt411.2.1 bt411.2.2 bt418.1 bt418.2.1 bt418.2.2 true))) else (laws_FnSplit.j0 k bt406.1 bt406.2.1 bt406.2.2 bt411.1 bt411.2.1 bt411.2.2 bt418.1 bt418.2.1 bt418.2.2 true)))))))
theorem laws_FnSplit.mono_l : ∀ k, (∀ y0 y1 y2 y3 y4 y5 y6 y7 y8 y9, LeO (laws_FnSplit.j0 k y0 y1 y2 y3 y4 y5 y6 y7 y8 y9) (laws_FnSplit.j0 (k + 1) y0 y1 y2 y3 y4 y5 y6 y7 y8 y9))
 | 0 => fun _ _ _ _ _ _ _ _ _ _ r h => by simp [laws_FnSplit.j0] at h
 | k + 1 => by
  have ih0 := laws_FnSplit.mono_l k
  ·intro y0 y1 y2 y3 y4 y5 y6 y7 y8 y9
   unfold laws_FnSplit.j0
   repeat' first
   | (with_reducible exact ih0 _ _ _ _ _ _ _ _ _ _)
   | (with_reducible exact impl_ParcelSplit.mono _ _ _ _)
   | (with_reducible exact laws_samePoints.mono _ _ _)
   | (with_reducible exact spec_DrawParcelSplit.mono _ _)
   | (with_reducible exact spec_ParcelSplit.mono _ _ _ _)
   | (with_reducible exact LeO.refl _)
   | (with_reducible exact LeO.none _)
   | (with_reducible refine LeO.ite ?_ ?_)
   | (with_reducible refine LeO.bind ?_ (fun _ => ?_))
   | exact ih0 _ _ _ _ _ _ _ _ _ _
   | exact impl_ParcelSplit.mono _ _ _ _
   | exact laws_samePoints.mono _ _ _
   | exact spec_DrawParcelSplit.mono _ _
   | exact spec_ParcelSplit.mono _ _ _ _
   | exact LeO.none _
   | refine LeO.ite ?_ ?_
   | refine LeO.bind ?_ (fun _ => ?_)
theorem laws_FnSplit.mono : ∀ a0 k, LeO (laws_FnSplit.f k a0) (laws_FnSplit.f (k + 1) a0) := by
 intro a0 k
 have ih0 := laws_FnSplit.mono_l k
 unfold laws_FnSplit.f
 repeat' first
   | (with_reducible exact ih0 _ _ _ _ _ _ _ _ _ _)
   | (with_reducible exact impl_ParcelSplit.mono _ _ _ _)
   | (with_reducible exact laws_samePoints.mono _ _ _)
   | (with_reducible exact spec_DrawParcelSplit.mono _ _)
   | (with_reducible exact spec_ParcelSplit.mono _ _ _ _)
   | (with_reducible exact LeO.refl _)
   | (with_reducible exact LeO.none _)
   | (with_reducible refine LeO.ite ?_ ?_)
   | (with_reducible refine LeO.bind ?_ (fun _ => ?_))
   | exact ih0 _ _ _ _ _ _ _ _ _ _
   | exact impl_ParcelSplit.mono _ _ _ _
   | exact laws_samePoints.mono _ _ _
   | exact spec_DrawParcelSplit.mono _ _
   | exact spec_ParcelSplit.mono _ _ _ _
   | exact LeO.none _
   | refine LeO.ite ?_ ?_
   | refine LeO.bind ?_ (fun _ => ?_)
def laws_FnSplit.T11 : Bool × List (List Nat × List Nat) := (true,[([],[]),([],[]),([0,1],[0,1]),([2],[2]),([],[]),([],[]),([4,5],[4,5]),([6],[6]),([3,7],[3,7]),([8,8,0,1,2,3,4,5,6,7,8],[8])])
def laws_FnSplit.B11 : List Nat := [0,0,3,7,0,0,48,112,255,511]
theorem laws_FnSplit.tab11 : rtab .any (opsOf Try.f3 11) = laws_FnSplit.T11 := by kernel_rfl
theorem laws_FnSplit.bits11 : waitsOk laws_FnSplit.T11.2 laws_FnSplit.B11 = true := by kernel_rfl
set_option maxHeartbeats 8000000 in
set_option maxRecDepth 100000 in
theorem laws_FnSplit.calls (k : Nat) (A0 : Option Addr) (c0 : Nat) (l0 : List Int) (r : Bool) (w : World) (hr0 : Kd.C (Kd.int .u8) w A0 l0.length l0) (hc0 : l0.length ≤ c0) (h : laws_FnSplit.f k l0 = some r) :
  Calls Try.prog 3 #[.slice A0 l0.length c0] w fun e w' => e = .returned (.bool r) ∧ Below w.heap.size w w' := by
 have hu33 := Try.underlying33
 have HR0 := Aside0.mk hr0
 have HC0 := Aside0.mk hc0
 clear hr0 hc0
 have HB := Aside0.mk (Below.refl w.heap.size w)
 have H : (if (l0.length : Int) > 1048576 then (some true) else ((spec_DrawParcelSplit.f k l0).bind fun bt406 => ((impl_ParcelSplit.f k bt406.1 bt406.2.1 bt406.2.2).bind fun bt411 => ((spec_ParcelSplit.f k bt406.1 bt406.2.1 bt406.2.2).bind fun bt418 => (if (bt411.2.2 != bt418.2.2) = true then (laws_FnSplit.j0 k bt406.1 bt406.2.1 bt406.2.2 bt411.1 bt411.2.1 bt411.2.2 bt418.1 bt418.2.1 bt418.2.2 true) else ((laws_samePoints.f k bt411.1 bt418.1).bind fun t425 => (if t425 = true then ((laws_samePoints.f k bt411.2.1 bt418.2.1).bind fun t426 => (if t426 = true then (laws_FnSplit.j0 k bt406.1 bt406.2.1 bt406.2.2 bt411.1 bt411.2.1 bt411.2.2 bt418.1 bt418.2.1 bt418.2.2 (!bt411.2.2)) else (laws_FnSplit.j0 k bt406.1 bt406.2.1 bt406.2.2 bt411.1 bt411.2.1 bt411.2.2 bt418.1 bt418.2.1 bt418.2.2 true))) else (laws_FnSplit.j0 k bt406.1 bt406.2.1 bt406.2.2 bt411.1 bt411.2.1 bt411.2.2 bt418.1 bt418.2.1 bt418.2.2 true)))))))) = some r := h
 clear h
 by_cases c2 : (l0.length : Int) > 1048576
 ·rw [if_pos c2] at H
  have c2b0 : decide (1048576 < (l0.length : Int)) = true := decide_eq_true c2
  have c2b1 : decide (1048576 < l0.length) = true := decide_eq_true (by omega)
  clear c2
  obtain rfl := Option.some.inj H
  go_enter Try.func3, Try.ntmps3
  go_wp2
  go_ret
  exact ⟨er, lb HB.out⟩
 ·rw [if_neg c2] at H
  have c2b0 : decide (1048576 < (l0.length : Int)) = false := decide_eq_false c2
  have c2b1 : decide (1048576 < l0.length) = false := decide_eq_false (by omega)
  clear c2
  replace H := Option.bind_eq_some_iff.mp H
  obtain ⟨⟨t406, t407, t408⟩, A30, H⟩ := H
  replace H : ((impl_ParcelSplit.f k t406 t407 t408).bind fun bt411 => ((spec_ParcelSplit.f k t406 t407 t408).bind fun bt418 => (if (bt411.2.2 != bt418.2.2) = true then (laws_FnSplit.j0 k t406 t407 t408 bt411.1 bt411.2.1 bt411.2.2 bt418.1 bt418.2.1 bt418.2.2 true) else ((laws_samePoints.f k bt411.1 bt418.1).bind fun t425 => (if t425 = true then ((laws_samePoints.f k bt411.2.1 bt418.2.1).bind fun t426 => (if t426 = true then (laws_FnSplit.j0 k t406 t407 t408 bt411.1 bt411.2.1 bt411.2.2 bt418.1 bt418.2.1 bt418.2.2 (!bt411.2.2)) else (laws_FnSplit.j0 k t406 t407 t408 bt411.1 bt411.2.1 bt411.2.2 bt418.1 bt418.2.1 bt418.2.2 true))) else (laws_FnSplit.j0 k t406 t407 t408 bt411.1 bt411.2.1 bt411.2.2 bt418.1 bt418.2.1 bt418.2.2 true)))))) = some r := H
  have A3 := Aside0.mk A30
  clear A30
  replace H := Option.bind_eq_some_iff.mp H
  obtain ⟨⟨t411, t412, t413⟩, A40, H⟩ := H
  replace H : ((spec_ParcelSplit.f k t406 t407 t408).bind fun bt418 => (if (t413 != bt418.2.2) = true then (laws_FnSplit.j0 k t406 t407 t408 t411 t412 t413 bt418.1 bt418.2.1 bt418.2.2 true) else ((laws_samePoints.f k t411 bt418.1).bind fun t425 => (if t425 = true then ((laws_samePoints.f k t412 bt418.2.1).bind fun t426 => (if t426 = true then (laws_FnSplit.j0 k t406 t407 t408 t411 t412 t413 bt418.1 bt418.2.1 bt418.2.2 (!t413)) else (laws_FnSplit.j0 k t406 t407 t408 t411 t412 t413 bt418.1 bt418.2.1 bt418.2.2 true))) else (laws_FnSplit.j0 k t406 t407 t408 t411 t412 t413 bt418.1 bt418.2.1 bt418.2.2 true))))) = some r := H
  have A4 := Aside0.mk A40
  clear A40
  replace H := Option.bind_eq_some_iff.mp H
  obtain ⟨⟨t418, t419, t420⟩, A50, H⟩ := H
  replace H : (if (t413 != t420) = true then (laws_FnSplit.j0 k t406 t407 t408 t411 t412 t413 t418 t419 t420 true) else ((laws_samePoints.f k t411 t418).bind fun t425 => (if t425 = true then ((laws_samePoints.f k t412 t419).bind fun t426 => (if t426 = true then (laws_FnSplit.j0 k t406 t407 t408 t411 t412 t413 t418 t419 t420 (!t413)) else (laws_FnSplit.j0 k t406 t407 t408 t411 t412 t413 t418 t419 t420 true))) else (laws_FnSplit.j0 k t406 t407 t408 t411 t412 t413 t418 t419 t420 true)))) = some r := H
  have A5 := Aside0.mk A50
  clear A50
  have HC6 := Aside0.mk H
  clear H
  go_enter Try.func3, Try.ntmps3
  go_upto_region 6 with (first | ((with_reducible refine gate_callee (f := 7) rfl ?_); refine goesL_ (some 24) rfl rfl Try.func7 (by kernel_rfl) rfl #[.slice A0 l0.length c0] rfl al ?_; (with_reducible refine (spec_DrawParcelSplit.calls k _ _ l0 t406 t407 t408 _ ?side1 ?side2 A3.out).mono ?_); (case side1 => repeat (first | exact HR0.out | (with_reducible refine Kd.C_alloc ?_ _) | (with_reducible refine Kd.C_drewN ?_ _) | (with_reducible refine Kd.C_drew ?_))); (case side2 => exact HC0.out); rintro e w7 ⟨v409, rfl, ho0, hb⟩; refine ⟨_, rfl, ?_⟩; have n0_ := Aside0.mk (Kd.Q_lower ho0 (below_size (lb HB.out))); have n1_ := Aside0.mk (below_step (lb HB.out) hb); clear HB; have HO410 := n0_; have HB := n1_; clear n0_ n1_; (try clear hb); (try clear hb2); (try clear hk); (try clear hi); (try clear ho0); obtain ⟨Ao8, co8, eo8, _⟩ := Kd.Q_slice HO410.out; subst eo8) | ((with_reducible refine gate_callee (f := 8) rfl ?_); refine goesL_ (some 32) rfl rfl Try.func8 (by kernel_rfl) rfl #[.slice Ao8 t406.length co8, .int .i64 t407, .int .i64 t408] rfl al ?_; (with_reducible refine (impl_ParcelSplit.calls k _ _ t406 t407 t408 t411 t412 t413 _ ?side1 ?side2 A4.out).mono ?_); (case side1 => repeat (first | exact (Kd.Q_reads' HO410.out).2.2 | (with_reducible refine Kd.C_alloc ?_ _) | (with_reducible refine Kd.C_drewN ?_ _) | (with_reducible refine Kd.C_drew ?_))); (case side2 => exact (Kd.Q_reads' HO410.out).2.1); rintro e w9 ⟨v414, v416, rfl, ho0, ho1, hb⟩; refine ⟨_, rfl, ?_⟩; have n0_ := Aside0.mk (Kd.Q_mono (Kd.Q_told (Kd.Q_told (Kd.Q_old (qm HO410.out) hb) (Kd.R_base ho0)) (Kd.R_base ho1)) (fun _ h_ => h_.1)); have n1_ := Aside0.mk (Kd.R_lower (Kd.R_new' ho0 (Kd.Q_lt (qm HO410.out))) (below_size (lb HB.out))); have n2_ := Aside0.mk (Kd.R_lower (Kd.R_new' ho1 (Kd.Q_lt (qm HO410.out))) (below_size (lb HB.out))); have n3_ := Aside0.mk (below_step (lb HB.out) hb); clear HO410; clear HB; have HO410 := n0_; have HO415 := n1_; have HO417 := n2_; have HB := n3_; clear n0_ n1_ n2_ n3_; (try clear hb); (try clear hb2); (try clear hk); (try clear hi); (try clear ho0); (try clear ho1)) | ((with_reducible refine gate_callee (f := 9) rfl ?_); refine goesL_ (some 40) rfl rfl Try.func9 (by kernel_rfl) rfl #[.slice Ao8 t406.length co8, .int .i64 t407, .int .i64 t408] rfl al ?_; (with_reducible refine (spec_ParcelSplit.calls k _ _ t406 t407 t408 t418 t419 t420 _ ?side1 ?side2 A5.out).mono ?_); (case side1 => repeat (first | exact (Kd.Q_reads' HO410.out).2.2 | (with_reducible refine Kd.C_alloc ?_ _) | (with_reducible refine Kd.C_drewN ?_ _) | (with_reducible refine Kd.C_drew ?_))); (case side2 => exact (Kd.Q_reads' HO410.out).2.1); rintro e w10 ⟨v421, v423, rfl, ho0, ho1, hb⟩; refine ⟨_, rfl, ?_⟩; have n0_ := Aside0.mk (Kd.Q_mono (Kd.Q_told (Kd.Q_told (Kd.Q_old (qm HO410.out) hb) (Kd.R_base ho0)) (Kd.R_base ho1)) (fun _ h_ => h_.1)); have n1_ := Aside0.mk (Kd.R_mono (Kd.R_told (Kd.R_told (Kd.R_old (rm HO415.out) hb) (Kd.R_base ho0)) (Kd.R_base ho1)) (fun _ h_ => h_.1)); have n2_ := Aside0.mk (Kd.R_mono (Kd.R_told (Kd.R_told (Kd.R_old (rm HO417.out) hb) (Kd.R_base ho0)) (Kd.R_base ho1)) (fun _ h_ => h_.1)); have n3_ := Aside0.mk (Kd.R_lower (Kd.R_new' (Kd.R_new' (Kd.R_new' ho0 (Kd.Q_lt (qm HO410.out))) (Kd.R_lt (rm HO415.out))) (Kd.R_lt (rm HO417.out))) (below_size (lb HB.out))); have n4_ := Aside0.mk (Kd.R_lower (Kd.R_new' (Kd.R_new' (Kd.R_new' ho1 (Kd.Q_lt (qm HO410.out))) (Kd.R_lt (rm HO415.out))) (Kd.R_lt (rm HO417.out))) (below_size (lb HB.out))); have n5_ := Aside0.mk (below_step (lb HB.out) hb); clear HO410; clear HO415; clear HO417; clear HB; have HO410 := n0_; have HO415 := n1_; have HO417 := n2_; have HO422 := n3_; have HO424 := n4_; have HB := n5_; clear n0_ n1_ n2_ n3_ n4_ n5_; (try clear hb); (try clear hb2); (try clear hk); (try clear hi); (try clear ho0); (try clear ho1)))
  (try simp only [Act.put, List.setIfInBounds_toArray, List.set_cons_zero, List.set_cons_succ])
  go_cut [62] (fun v62 wc => ∃ (kq : Nat) (x62_5 : Bool), v62 = .bool x62_5 ∧ Aside0 (laws_FnSplit.j0 kq t406 t407 t408 t411 t412 t413 t418 t419 t420 x62_5 = some r) ∧ Aside0 (kq ≤ k) ∧ Aside0 (Kd.Q k33 33 wc w.heap.size (fun k_ => some k_ ≠ (v414 : Value).ownBlock ∧ some k_ ≠ (v416 : Value).ownBlock ∧ some k_ ≠ (v421 : Value).ownBlock ∧ some k_ ≠ (v423 : Value).ownBlock) (.slice Ao8 t406.length co8) t406) ∧ Aside0 (Kd.R k33 33 wc w.heap.size (fun k_ => some k_ ≠ ((.slice Ao8 t406.length co8) : Value).ownBlock ∧ some k_ ≠ (v416 : Value).ownBlock ∧ some k_ ≠ (v421 : Value).ownBlock ∧ some k_ ≠ (v423 : Value).ownBlock) v414 t411) ∧ Aside0 (Kd.R k33 33 wc w.heap.size (fun k_ => some k_ ≠ ((.slice Ao8 t406.length co8) : Value).ownBlock ∧ some k_ ≠ (v414 : Value).ownBlock ∧ some k_ ≠ (v421 : Value).ownBlock ∧ some k_ ≠ (v423 : Value).ownBlock) v416 t412) ∧ Aside0 (Kd.R k33 33 wc w.heap.size (fun k_ => some k_ ≠ ((.slice Ao8 t406.length co8) : Value).ownBlock ∧ some k_ ≠ (v414 : Value).ownBlock ∧ some k_ ≠ (v416 : Value).ownBlock ∧ some k_ ≠ (v423 : Value).ownBlock) v421 t418) ∧ Aside0 (Kd.R k33 33 wc w.heap.size (fun k_ => some k_ ≠ ((.slice Ao8 t406.length co8) : Value).ownBlock ∧ some k_ ≠ (v414 : Value).ownBlock ∧ some k_ ≠ (v416 : Value).ownBlock ∧ some k_ ≠ (v421 : Value).ownBlock) v423 t419) ∧ Aside0 (Below w.heap.size w wc))
  case first =>
   have H := HC6.out
   clear HC6
   by_cases c11 : (t413 != t420) = true
   ·rw [if_pos c11] at H
    have c11b0 : (t413 != t420) = true := c11
    (try (have c11b1 : decide (t413 = t420) = false := by simpa using c11))
    (try (have c11b2 : (t413 == t420) = false := by simpa using c11))
    (try (have c11b3 : ¬ (t413 = t420) := by simpa using c11))
    clear c11
    (first | rw [c11b0] | (simp only [i64_w, i32_w]; rw [c11b0]) | skip)
    have H' := Aside0.mk H
    clear H
    go_wp2
    go_meet
    case rel => exact ⟨_, (true), (by first | rfl | (simp; done) | (simp [*]; done)), H', ⟨by first | omega | exact Nat.le_refl _⟩, ⟨qm (Kd.Q_mono HO410.out (fun _ hk => hkm))⟩, ⟨rm (Kd.R_mono HO415.out (fun _ hk => hkm))⟩, ⟨rm (Kd.R_mono HO417.out (fun _ hk => hkm))⟩, ⟨rm (Kd.R_mono HO422.out (fun _ hk => hkm))⟩, ⟨rm (Kd.R_mono HO424.out (fun _ hk => hkm))⟩, ⟨lb HB.out⟩⟩
   ·rw [if_neg c11] at H
    have c11b0 : (t413 != t420) = false := by simpa using c11
    (try (have c11b1 : decide (t413 = t420) = true := by simpa using c11))
    (try (have c11b2 : (t413 == t420) = true := by simpa using c11))
    clear c11
    (first | rw [c11b0] | (simp only [i64_w, i32_w]; rw [c11b0]) | skip)
    replace H := Option.bind_eq_some_iff.mp H
    obtain ⟨t425, A120, H⟩ := H
    replace H : (if t425 = true then ((laws_samePoints.f k t412 t419).bind fun t426 => (if t426 = true then (laws_FnSplit.j0 k t406 t407 t408 t411 t412 t413 t418 t419 t420 (!t413)) else (laws_FnSplit.j0 k t406 t407 t408 t411 t412 t413 t418 t419 t420 true))) else (laws_FnSplit.j0 k t406 t407 t408 t411 t412 t413 t418 t419 t420 true)) = some r := H
    have A12 := Aside0.mk A120
    clear A120
    by_cases c13 : t425 = true
    ·subst c13
     have H1 : ((laws_samePoints.f k t412 t419).bind fun t426 => (if t426 = true then (laws_FnSplit.j0 k t406 t407 t408 t411 t412 t413 t418 t419 t420 (!t413)) else (laws_FnSplit.j0 k t406 t407 t408 t411 t412 t413 t418 t419 t420 true))) = some r := by rw [if_pos rfl] at H; exact H
     clear H
     have H := H1
     clear H1
     replace H := Option.bind_eq_some_iff.mp H
     obtain ⟨t426, A140, H⟩ := H
     replace H : (if t426 = true then (laws_FnSplit.j0 k t406 t407 t408 t411 t412 t413 t418 t419 t420 (!t413)) else (laws_FnSplit.j0 k t406 t407 t408 t411 t412 t413 t418 t419 t420 true)) = some r := H
     have A14 := Aside0.mk A140
     clear A140
     by_cases c15 : t426 = true
     ·subst c15
      have H1 : (laws_FnSplit.j0 k t406 t407 t408 t411 t412 t413 t418 t419 t420 (!t413)) = some r := by rw [if_pos rfl] at H; exact H
      clear H
      have H := H1
      clear H1
      have H' := Aside0.mk H
      clear H
      obtain ⟨Ao16, co16, eo16⟩ := Kd.R_slice HO415.out
      subst eo16
      obtain ⟨Ao17, co17, eo17⟩ := Kd.R_slice HO422.out
      subst eo17
      go_wp2_with (first | (go_at_call 10; (with_reducible refine (laws_samePoints.calls k _ _ t411 _ _ t418 true _ ?side1 ?side2 ?side3 ?side4 A12.out).mono ?_); (case side1 => exact cm (Kd.R_reads' HO415.out).2.2); (case side2 => exact (Kd.R_reads' HO415.out).2.1); (case side3 => exact cm (Kd.R_reads' HO422.out).2.2); (case side4 => exact (Kd.R_reads' HO422.out).2.1); rintro e w' ⟨rfl, ⟨nd, rfl⟩⟩; obtain ⟨Ao18, co18, eo18⟩ := Kd.R_slice HO417.out; subst eo18; obtain ⟨Ao19, co19, eo19⟩ := Kd.R_slice HO424.out; subst eo19) | (go_at_call 10; (with_reducible refine (laws_samePoints.calls k _ _ t412 _ _ t419 true _ ?side1 ?side2 ?side3 ?side4 A14.out).mono ?_); (case side1 => exact cm (Kd.R_reads' HO417.out).2.2); (case side2 => exact (Kd.R_reads' HO417.out).2.1); (case side3 => exact cm (Kd.R_reads' HO424.out).2.2); (case side4 => exact (Kd.R_reads' HO424.out).2.1); rintro e w' ⟨rfl, ⟨nd, rfl⟩⟩))
      go_meet
      case rel => exact ⟨_, (!t413), (by first | rfl | (simp; done) | (simp [*]; done)), H', ⟨by first | omega | exact Nat.le_refl _⟩, ⟨qm (Kd.Q_mono HO410.out (fun _ hk => hkm))⟩, ⟨rm (Kd.R_mono HO415.out (fun _ hk => hkm))⟩, ⟨rm (Kd.R_mono HO417.out (fun _ hk => hkm))⟩, ⟨rm (Kd.R_mono HO422.out (fun _ hk => hkm))⟩, ⟨rm (Kd.R_mono HO424.out (fun _ hk => hkm))⟩, ⟨lb HB.out⟩⟩
     ·replace c15 := Bool.eq_false_iff.mpr c15
      subst c15
      have H1 : (laws_FnSplit.j0 k t406 t407 t408 t411 t412 t413 t418 t419 t420 true) = some r := by rw [if_neg (show ¬ (false = true) by decide)] at H; exact H
      clear H
      have H := H1
      clear H1
      have H' := Aside0.mk H
      clear H
      obtain ⟨Ao20, co20, eo20⟩ := Kd.R_slice HO415.out
      subst eo20
      obtain ⟨Ao21, co21, eo21⟩ := Kd.R_slice HO422.out
      subst eo21
      go_wp2_with (first | (go_at_call 10; (with_reducible refine (laws_samePoints.calls k _ _ t411 _ _ t418 true _ ?side1 ?side2 ?side3 ?side4 A12.out).mono ?_); (case side1 => exact cm (Kd.R_reads' HO415.out).2.2); (case side2 => exact (Kd.R_reads' HO415.out).2.1); (case side3 => exact cm (Kd.R_reads' HO422.out).2.2); (case side4 => exact (Kd.R_reads' HO422.out).2.1); rintro e w' ⟨rfl, ⟨nd, rfl⟩⟩; obtain ⟨Ao22, co22, eo22⟩ := Kd.R_slice HO417.out; subst eo22; obtain ⟨Ao23, co23, eo23⟩ := Kd.R_slice HO424.out; subst eo23) | (go_at_call 10; (with_reducible refine (laws_samePoints.calls k _ _ t412 _ _ t419 false _ ?side1 ?side2 ?side3 ?side4 A14.out).mono ?_); (case side1 => exact cm (Kd.R_reads' HO417.out).2.2); (case side2 => exact (Kd.R_reads' HO417.out).2.1); (case side3 => exact cm (Kd.R_reads' HO424.out).2.2); (case side4 => exact (Kd.R_reads' HO424.out).2.1); rintro e w' ⟨rfl, ⟨nd, rfl⟩⟩))
      go_meet
      case rel => exact ⟨_, (true), (by first | rfl | (simp; done) | (simp [*]; done)), H', ⟨by first | omega | exact Nat.le_refl _⟩, ⟨qm (Kd.Q_mono HO410.out (fun _ hk => hkm))⟩, ⟨rm (Kd.R_mono HO415.out (fun _ hk => hkm))⟩, ⟨rm (Kd.R_mono HO417.out (fun _ hk => hkm))⟩, ⟨rm (Kd.R_mono HO422.out (fun _ hk => hkm))⟩, ⟨rm (Kd.R_mono HO424.out (fun _ hk => hkm))⟩, ⟨lb HB.out⟩⟩
    ·replace c13 := Bool.eq_false_iff.mpr c13
     subst c13
     have H1 : (laws_FnSplit.j0 k t406 t407 t408 t411 t412 t413 t418 t419 t420 true) = some r := by rw [if_neg (show ¬ (false = true) by decide)] at H; exact H
     clear H
     have H := H1
     clear H1
     have H' := Aside0.mk H
     clear H
     obtain ⟨Ao24, co24, eo24⟩ := Kd.R_slice HO415.out
     subst eo24
     obtain ⟨Ao25, co25, eo25⟩ := Kd.R_slice HO422.out
     subst eo25
     go_wp2_with (first | (go_at_call 10; (with_reducible refine (laws_samePoints.calls k _ _ t411 _ _ t418 false _ ?side1 ?side2 ?side3 ?side4 A12.out).mono ?_); (case side1 => exact cm (Kd.R_reads' HO415.out).2.2); (case side2 => exact (Kd.R_reads' HO415.out).2.1); (case side3 => exact cm (Kd.R_reads' HO422.out).2.2); (case side4 => exact (Kd.R_reads' HO422.out).2.1); rintro e w' ⟨rfl, ⟨nd, rfl⟩⟩))
     go_meet
     case rel => exact ⟨_, (true), (by first | rfl | (simp; done) | (simp [*]; done)), H', ⟨by first | omega | exact Nat.le_refl _⟩, ⟨qm (Kd.Q_mono HO410.out (fun _ hk => hkm))⟩, ⟨rm (Kd.R_mono HO415.out (fun _ hk => hkm))⟩, ⟨rm (Kd.R_mono HO417.out (fun _ hk => hkm))⟩, ⟨rm (Kd.R_mono HO422.out (fun _ hk => hkm))⟩, ⟨rm (Kd.R_mono HO424.out (fun _ hk => hkm))⟩, ⟨lb HB.out⟩⟩
  case rest =>
   clear HC6
   try clear c1
   try clear c2
   try clear c2b0
   try clear c2b1
   try clear p2
   try clear c3
   try clear c7
   try clear c8
   try clear c9
   try clear c11
   try clear c11b0
   try clear c11b1
   try clear c11b2
   try clear c13
   try clear c15
   obtain ⟨kq, x62_5, rfl, HA, HJ5, HO_3, HO_6, HO_7, HO_9, HO_10, HB⟩ := hcut
   cases kq with
   | zero => exact absurd HA.out (by simp [laws_FnSplit.j0])
   | succ kj5 =>
    have H := HA.out
    clear HA
    simp only [laws_FnSplit.j0] at H
    by_cases c26 : x62_5 = true
    ·subst c26
     have H1 : (if (t413 == t420) = true then ((laws_samePoints.f kj5 t411 t418).bind fun t427 => (if t427 = true then ((laws_samePoints.f kj5 t412 t419).bind fun t428 => (some t428)) else (some false))) else (some false)) = some r := by rw [if_pos rfl] at H; exact H
     clear H
     have H := H1
     clear H1
     by_cases c27 : (t413 == t420) = true
     ·rw [if_pos c27] at H
      have c27b0 : (t413 == t420) = true := c27
      (try (have c27b1 : decide (t413 = t420) = true := by simpa using c27))
      (try (have c27b2 : (t413 == t420) = true := by simpa using c27))
      clear c27
      replace H := Option.bind_eq_some_iff.mp H
      obtain ⟨t427, A280, H⟩ := H
      replace H : (if t427 = true then ((laws_samePoints.f kj5 t412 t419).bind fun t428 => (some t428)) else (some false)) = some r := H
      have A28 := Aside0.mk A280
      clear A280
      by_cases c29 : t427 = true
      ·subst c29
       have H1 : ((laws_samePoints.f kj5 t412 t419).bind fun t428 => (some t428)) = some r := by rw [if_pos rfl] at H; exact H
       clear H
       have H := H1
       clear H1
       replace H := Option.bind_eq_some_iff.mp H
       obtain ⟨t428, A300, H⟩ := H
       replace H : (some t428) = some r := H
       have A30 := Aside0.mk A300
       clear A300
       obtain rfl := Option.some.inj H
       obtain ⟨Ao31, co31, eo31⟩ := Kd.R_slice HO_6.out
       subst eo31
       obtain ⟨Ao32, co32, eo32⟩ := Kd.R_slice HO_9.out
       subst eo32
       go_wp2_with (first | (go_at_call 10; (with_reducible refine (laws_samePoints.calls kj5 _ _ t411 _ _ t418 true _ ?side1 ?side2 ?side3 ?side4 A28.out).mono ?_); (case side1 => exact cm (Kd.R_reads' HO_6.out).2.2); (case side2 => exact (Kd.R_reads' HO_6.out).2.1); (case side3 => exact cm (Kd.R_reads' HO_9.out).2.2); (case side4 => exact (Kd.R_reads' HO_9.out).2.1); rintro e w' ⟨rfl, ⟨nd, rfl⟩⟩; obtain ⟨Ao33, co33, eo33⟩ := Kd.R_slice HO_7.out; subst eo33; obtain ⟨Ao34, co34, eo34⟩ := Kd.R_slice HO_10.out; subst eo34) | (go_at_call 10; (with_reducible refine (laws_samePoints.calls kj5 _ _ t412 _ _ t419 t428 _ ?side1 ?side2 ?side3 ?side4 A30.out).mono ?_); (case side1 => exact cm (Kd.R_reads' HO_7.out).2.2); (case side2 => exact (Kd.R_reads' HO_7.out).2.1); (case side3 => exact cm (Kd.R_reads' HO_10.out).2.2); (case side4 => exact (Kd.R_reads' HO_10.out).2.1); rintro e w' ⟨rfl, ⟨nd, rfl⟩⟩))
       go_ret
       exact ⟨er, lb HB.out⟩
      ·replace c29 := Bool.eq_false_iff.mpr c29
       subst c29
       have H1 : (some false) = some r := by rw [if_neg (show ¬ (false = true) by decide)] at H; exact H
       clear H
       have H := H1
       clear H1
       obtain rfl := Option.some.inj H
       obtain ⟨Ao35, co35, eo35⟩ := Kd.R_slice HO_6.out
       subst eo35
       obtain ⟨Ao36, co36, eo36⟩ := Kd.R_slice HO_9.out
       subst eo36
       go_wp2_with (first | (go_at_call 10; (with_reducible refine (laws_samePoints.calls kj5 _ _ t411 _ _ t418 false _ ?side1 ?side2 ?side3 ?side4 A28.out).mono ?_); (case side1 => exact cm (Kd.R_reads' HO_6.out).2.2); (case side2 => exact (Kd.R_reads' HO_6.out).2.1); (case side3 => exact cm (Kd.R_reads' HO_9.out).2.2); (case side4 => exact (Kd.R_reads' HO_9.out).2.1); rintro e w' ⟨rfl, ⟨nd, rfl⟩⟩))
       go_ret
       exact ⟨er, lb HB.out⟩
     ·rw [if_neg c27] at H
      have c27b0 : (t413 == t420) = false := by simpa using c27
      (try (have c27b1 : decide (t413 = t420) = false := by simpa using c27))
      (try (have c27b2 : (t413 == t420) = false := by simpa using c27))
      (try (have c27b3 : ¬ (t413 = t420) := by simpa using c27))
      clear c27
      obtain rfl := Option.some.inj H
      go_wp2
      go_ret
      exact ⟨er, lb HB.out⟩
    ·replace c26 := Bool.eq_false_iff.mpr c26
     subst c26
     have H1 : ((impl_PolyArea.f t411).bind fun bt429 => ((impl_PolyArea.f t412).bind fun bt431 => ((impl_PolyArea.f t406).bind fun bt433 => (if 0 ≤ t407 then (if t407 < (t406.length : Int) then (if 0 ≤ t408 then (if t408 < (t406.length : Int) then ((impl_PointGaps.f ((rd_T33 t406 t407).f0) ((rd_T33 t406 t407).f1) ((rd_T33 t406 t408).f0) ((rd_T33 t406 t408).f1)).bind fun t437 => (if bt429.2 = true then (if bt431.2 = true then (if bt433.2 = true then (if (wrap64 (bt429.1 + bt431.1)) = bt433.1 then ((impl_ParcelValid.f t411).bind fun t438 => (if t438 = true then ((impl_ParcelValid.f t412).bind fun t439 => (if t439 = true then ((impl_PolyInside.f t411).bind fun t440 => ((impl_PolyInside.f t412).bind fun t441 => ((impl_PolyInside.f t406).bind fun t442 => (if (wrap64 ((wrap64 ((wrap64 (t440 + t441)) + t437)) - 1)) = t442 then ((impl_ParcelCommon.f t411 t412).bind fun t443 => (some (t443 == 1))) else (some false))))) else (some false))) else (some false))) else (some false)) else (some false)) else (some false)) else (some false))) else (none)) else (none)) else (none)) else (none))))) = some r := by rw [if_neg (show ¬ (false = true) by decide)] at H; exact H
     clear H
     have H := H1
     clear H1
     replace H := Option.bind_eq_some_iff.mp H
     obtain ⟨⟨t429, t430⟩, A370, H⟩ := H
     replace H : ((impl_PolyArea.f t412).bind fun bt431 => ((impl_PolyArea.f t406).bind fun bt433 => (if 0 ≤ t407 then (if t407 < (t406.length : Int) then (if 0 ≤ t408 then (if t408 < (t406.length : Int) then ((impl_PointGaps.f ((rd_T33 t406 t407).f0) ((rd_T33 t406 t407).f1) ((rd_T33 t406 t408).f0) ((rd_T33 t406 t408).f1)).bind fun t437 => (if t430 = true then (if bt431.2 = true then (if bt433.2 = true then (if (wrap64 (t429 + bt431.1)) = bt433.1 then ((impl_ParcelValid.f t411).bind fun t438 => (if t438 = true then ((impl_ParcelValid.f t412).bind fun t439 => (if t439 = true then ((impl_PolyInside.f t411).bind fun t440 => ((impl_PolyInside.f t412).bind fun t441 => ((impl_PolyInside.f t406).bind fun t442 => (if (wrap64 ((wrap64 ((wrap64 (t440 + t441)) + t437)) - 1)) = t442 then ((impl_ParcelCommon.f t411 t412).bind fun t443 => (some (t443 == 1))) else (some false))))) else (some false))) else (some false))) else (some false)) else (some false)) else (some false)) else (some false))) else (none)) else (none)) else (none)) else (none)))) = some r := H
     have A37 := Aside0.mk A370
     clear A370
     replace H := Option.bind_eq_some_iff.mp H
     obtain ⟨⟨t431, t432⟩, A380, H⟩ := H
     replace H : ((impl_PolyArea.f t406).bind fun bt433 => (if 0 ≤ t407 then (if t407 < (t406.length : Int) then (if 0 ≤ t408 then (if t408 < (t406.length : Int) then ((impl_PointGaps.f ((rd_T33 t406 t407).f0) ((rd_T33 t406 t407).f1) ((rd_T33 t406 t408).f0) ((rd_T33 t406 t408).f1)).bind fun t437 => (if t430 = true then (if t432 = true then (if bt433.2 = true then (if (wrap64 (t429 + t431)) = bt433.1 then ((impl_ParcelValid.f t411).bind fun t438 => (if t438 = true then ((impl_ParcelValid.f t412).bind fun t439 => (if t439 = true then ((impl_PolyInside.f t411).bind fun t440 => ((impl_PolyInside.f t412).bind fun t441 => ((impl_PolyInside.f t406).bind fun t442 => (if (wrap64 ((wrap64 ((wrap64 (t440 + t441)) + t437)) - 1)) = t442 then ((impl_ParcelCommon.f t411 t412).bind fun t443 => (some (t443 == 1))) else (some false))))) else (some false))) else (some false))) else (some false)) else (some false)) else (some false)) else (some false))) else (none)) else (none)) else (none)) else (none))) = some r := H
     have A38 := Aside0.mk A380
     clear A380
     replace H := Option.bind_eq_some_iff.mp H
     obtain ⟨⟨t433, t434⟩, A390, H⟩ := H
     replace H : (if 0 ≤ t407 then (if t407 < (t406.length : Int) then (if 0 ≤ t408 then (if t408 < (t406.length : Int) then ((impl_PointGaps.f ((rd_T33 t406 t407).f0) ((rd_T33 t406 t407).f1) ((rd_T33 t406 t408).f0) ((rd_T33 t406 t408).f1)).bind fun t437 => (if t430 = true then (if t432 = true then (if t434 = true then (if (wrap64 (t429 + t431)) = t433 then ((impl_ParcelValid.f t411).bind fun t438 => (if t438 = true then ((impl_ParcelValid.f t412).bind fun t439 => (if t439 = true then ((impl_PolyInside.f t411).bind fun t440 => ((impl_PolyInside.f t412).bind fun t441 => ((impl_PolyInside.f t406).bind fun t442 => (if (wrap64 ((wrap64 ((wrap64 (t440 + t441)) + t437)) - 1)) = t442 then ((impl_ParcelCommon.f t411 t412).bind fun t443 => (some (t443 == 1))) else (some false))))) else (some false))) else (some false))) else (some false)) else (some false)) else (some false)) else (some false))) else (none)) else (none)) else (none)) else (none)) = some r := H
     have A39 := Aside0.mk A390
     clear A390
     by_cases c40 : 0 ≤ t407
     ·rw [if_pos c40] at H
      have c40b0 : decide (0 ≤ t407) = true := decide_eq_true c40
      clear c40
      by_cases c41 : t407 < (t406.length : Int)
      ·rw [if_pos c41] at H
       have c41b0 : decide (t407 < (t406.length : Int)) = true := decide_eq_true c41
       clear c41
       by_cases c42 : 0 ≤ t408
       ·rw [if_pos c42] at H
        have c42b0 : decide (0 ≤ t408) = true := decide_eq_true c42
        clear c42
        by_cases c43 : t408 < (t406.length : Int)
        ·rw [if_pos c43] at H
         have c43b0 : decide (t408 < (t406.length : Int)) = true := decide_eq_true c43
         clear c43
         replace H := Option.bind_eq_some_iff.mp H
         obtain ⟨t437, A440, H⟩ := H
         replace H : (if t430 = true then (if t432 = true then (if t434 = true then (if (wrap64 (t429 + t431)) = t433 then ((impl_ParcelValid.f t411).bind fun t438 => (if t438 = true then ((impl_ParcelValid.f t412).bind fun t439 => (if t439 = true then ((impl_PolyInside.f t411).bind fun t440 => ((impl_PolyInside.f t412).bind fun t441 => ((impl_PolyInside.f t406).bind fun t442 => (if (wrap64 ((wrap64 ((wrap64 (t440 + t441)) + t437)) - 1)) = t442 then ((impl_ParcelCommon.f t411 t412).bind fun t443 => (some (t443 == 1))) else (some false))))) else (some false))) else (some false))) else (some false)) else (some false)) else (some false)) else (some false)) = some r := H
         have A44 := Aside0.mk A440
         clear A440
         by_cases c45 : t430 = true
         ·subst c45
          have H1 : (if t432 = true then (if t434 = true then (if (wrap64 (t429 + t431)) = t433 then ((impl_ParcelValid.f t411).bind fun t438 => (if t438 = true then ((impl_ParcelValid.f t412).bind fun t439 => (if t439 = true then ((impl_PolyInside.f t411).bind fun t440 => ((impl_PolyInside.f t412).bind fun t441 => ((impl_PolyInside.f t406).bind fun t442 => (if (wrap64 ((wrap64 ((wrap64 (t440 + t441)) + t437)) - 1)) = t442 then ((impl_ParcelCommon.f t411 t412).bind fun t443 => (some (t443 == 1))) else (some false))))) else (some false))) else (some false))) else (some false)) else (some false)) else (some false)) = some r := by rw [if_pos rfl] at H; exact H
          clear H
          have H := H1
          clear H1
          by_cases c46 : t432 = true
          ·subst c46
           have H1 : (if t434 = true then (if (wrap64 (t429 + t431)) = t433 then ((impl_ParcelValid.f t411).bind fun t438 => (if t438 = true then ((impl_ParcelValid.f t412).bind fun t439 => (if t439 = true then ((impl_PolyInside.f t411).bind fun t440 => ((impl_PolyInside.f t412).bind fun t441 => ((impl_PolyInside.f t406).bind fun t442 => (if (wrap64 ((wrap64 ((wrap64 (t440 + t441)) + t437)) - 1)) = t442 then ((impl_ParcelCommon.f t411 t412).bind fun t443 => (some (t443 == 1))) else (some false))))) else (some false))) else (some false))) else (some false)) else (some false)) = some r := by rw [if_pos rfl] at H; exact H
           clear H
           have H := H1
           clear H1
           by_cases c47 : t434 = true
           ·subst c47
            have H1 : (if (wrap64 (t429 + t431)) = t433 then ((impl_ParcelValid.f t411).bind fun t438 => (if t438 = true then ((impl_ParcelValid.f t412).bind fun t439 => (if t439 = true then ((impl_PolyInside.f t411).bind fun t440 => ((impl_PolyInside.f t412).bind fun t441 => ((impl_PolyInside.f t406).bind fun t442 => (if (wrap64 ((wrap64 ((wrap64 (t440 + t441)) + t437)) - 1)) = t442 then ((impl_ParcelCommon.f t411 t412).bind fun t443 => (some (t443 == 1))) else (some false))))) else (some false))) else (some false))) else (some false)) = some r := by rw [if_pos rfl] at H; exact H
            clear H
            have H := H1
            clear H1
            by_cases c48 : (wrap64 (t429 + t431)) = t433
            ·rw [if_pos c48] at H
             have c48b0 : ((wrap64 (t429 + t431)) == t433) = true := beq_iff_eq.mpr c48
             have c48b1 : ((wrap64 (t429 + t431)) != t433) = false := bne_eq_false_iff_eq.mpr c48
             clear c48
             replace H := Option.bind_eq_some_iff.mp H
             obtain ⟨t438, A490, H⟩ := H
             replace H : (if t438 = true then ((impl_ParcelValid.f t412).bind fun t439 => (if t439 = true then ((impl_PolyInside.f t411).bind fun t440 => ((impl_PolyInside.f t412).bind fun t441 => ((impl_PolyInside.f t406).bind fun t442 => (if (wrap64 ((wrap64 ((wrap64 (t440 + t441)) + t437)) - 1)) = t442 then ((impl_ParcelCommon.f t411 t412).bind fun t443 => (some (t443 == 1))) else (some false))))) else (some false))) else (some false)) = some r := H
             have A49 := Aside0.mk A490
             clear A490
             by_cases c50 : t438 = true
             ·subst c50
              have H1 : ((impl_ParcelValid.f t412).bind fun t439 => (if t439 = true then ((impl_PolyInside.f t411).bind fun t440 => ((impl_PolyInside.f t412).bind fun t441 => ((impl_PolyInside.f t406).bind fun t442 => (if (wrap64 ((wrap64 ((wrap64 (t440 + t441)) + t437)) - 1)) = t442 then ((impl_ParcelCommon.f t411 t412).bind fun t443 => (some (t443 == 1))) else (some false))))) else (some false))) = some r := by rw [if_pos rfl] at H; exact H
              clear H
              have H := H1
              clear H1
              replace H := Option.bind_eq_some_iff.mp H
              obtain ⟨t439, A510, H⟩ := H
              replace H : (if t439 = true then ((impl_PolyInside.f t411).bind fun t440 => ((impl_PolyInside.f t412).bind fun t441 => ((impl_PolyInside.f t406).bind fun t442 => (if (wrap64 ((wrap64 ((wrap64 (t440 + t441)) + t437)) - 1)) = t442 then ((impl_ParcelCommon.f t411 t412).bind fun t443 => (some (t443 == 1))) else (some false))))) else (some false)) = some r := H
              have A51 := Aside0.mk A510
              clear A510
              by_cases c52 : t439 = true
              ·subst c52
               have H1 : ((impl_PolyInside.f t411).bind fun t440 => ((impl_PolyInside.f t412).bind fun t441 => ((impl_PolyInside.f t406).bind fun t442 => (if (wrap64 ((wrap64 ((wrap64 (t440 + t441)) + t437)) - 1)) = t442 then ((impl_ParcelCommon.f t411 t412).bind fun t443 => (some (t443 == 1))) else (some false))))) = some r := by rw [if_pos rfl] at H; exact H
               clear H
               have H := H1
               clear H1
               replace H := Option.bind_eq_some_iff.mp H
               obtain ⟨t440, A530, H⟩ := H
               replace H : ((impl_PolyInside.f t412).bind fun t441 => ((impl_PolyInside.f t406).bind fun t442 => (if (wrap64 ((wrap64 ((wrap64 (t440 + t441)) + t437)) - 1)) = t442 then ((impl_ParcelCommon.f t411 t412).bind fun t443 => (some (t443 == 1))) else (some false)))) = some r := H
               have A53 := Aside0.mk A530
               clear A530
               replace H := Option.bind_eq_some_iff.mp H
               obtain ⟨t441, A540, H⟩ := H
               replace H : ((impl_PolyInside.f t406).bind fun t442 => (if (wrap64 ((wrap64 ((wrap64 (t440 + t441)) + t437)) - 1)) = t442 then ((impl_ParcelCommon.f t411 t412).bind fun t443 => (some (t443 == 1))) else (some false))) = some r := H
               have A54 := Aside0.mk A540
               clear A540
               replace H := Option.bind_eq_some_iff.mp H
               obtain ⟨t442, A550, H⟩ := H
               replace H : (if (wrap64 ((wrap64 ((wrap64 (t440 + t441)) + t437)) - 1)) = t442 then ((impl_ParcelCommon.f t411 t412).bind fun t443 => (some (t443 == 1))) else (some false)) = some r := H
               have A55 := Aside0.mk A550
               clear A550
               by_cases c56 : (wrap64 ((wrap64 ((wrap64 (t440 + t441)) + t437)) - 1)) = t442
               ·rw [if_pos c56] at H
                have c56b0 : ((wrap64 ((wrap64 ((wrap64 (t440 + t441)) + t437)) - 1)) == t442) = true := beq_iff_eq.mpr c56
                have c56b1 : ((wrap64 ((wrap64 ((wrap64 (t440 + t441)) + t437)) - 1)) != t442) = false := bne_eq_false_iff_eq.mpr c56
                clear c56
                replace H := Option.bind_eq_some_iff.mp H
                obtain ⟨t443, A570, H⟩ := H
                replace H : (some (t443 == 1)) = some r := H
                have A57 := Aside0.mk A570
                clear A570
                obtain rfl := Option.some.inj H
                obtain ⟨Ao58, co58, eo58⟩ := Kd.R_slice HO_6.out
                subst eo58
                try go_wp2_with (first | ((with_reducible refine gate_callee (f := 11) rfl ?_); refine goesL_ (some 78) rfl rfl Try.func11 (by kernel_rfl) rfl #[.slice Ao58 t411.length co58] rfl al ?_; (with_reducible refine (impl_PolyArea.calls _ _ t411 t429 true _ ?side1 ?side2 A37.out).mono ?_); (case side1 => exact cm (Kd.R_reads' HO_6.out).2.2); (case side2 => exact (Kd.R_reads' HO_6.out).2.1); rintro e w59 ⟨rfl, hb⟩; refine ⟨_, rfl, ?_⟩; have n0_ := Aside0.mk (Kd.Q_below (qm HO_3.out) hb); have n1_ := Aside0.mk (Kd.R_below (rm HO_6.out) hb); have n2_ := Aside0.mk (Kd.R_below (rm HO_7.out) hb); have n3_ := Aside0.mk (Kd.R_below (rm HO_9.out) hb); have n4_ := Aside0.mk (Kd.R_below (rm HO_10.out) hb); have n5_ := Aside0.mk (below_step (lb HB.out) hb); clear HO_3; clear HO_6; clear HO_7; clear HO_9; clear HO_10; clear HB; have HO_3 := n0_; have HO_6 := n1_; have HO_7 := n2_; have HO_9 := n3_; have HO_10 := n4_; have HB := n5_; clear n0_ n1_ n2_ n3_ n4_ n5_; (try clear hb); (try clear hb2); (try clear hk); (try clear hi); obtain ⟨Ao60, co60, eo60⟩ := Kd.R_slice HO_7.out; subst eo60) | ((with_reducible refine gate_callee (f := 11) rfl ?_); refine goesL_ (some 83) rfl rfl Try.func11 (by kernel_rfl) rfl #[.slice Ao60 t412.length co60] rfl al ?_; (with_reducible refine (impl_PolyArea.calls _ _ t412 t431 true _ ?side1 ?side2 A38.out).mono ?_); (case side1 => exact cm (Kd.R_reads' HO_7.out).2.2); (case side2 => exact (Kd.R_reads' HO_7.out).2.1); rintro e w61 ⟨rfl, hb⟩; refine ⟨_, rfl, ?_⟩; have n0_ := Aside0.mk (Kd.Q_below (qm HO_3.out) hb); have n1_ := Aside0.mk (Kd.R_below (rm HO_6.out) hb); have n2_ := Aside0.mk (Kd.R_below (rm HO_7.out) hb); have n3_ := Aside0.mk (Kd.R_below (rm HO_9.out) hb); have n4_ := Aside0.mk (Kd.R_below (rm HO_10.out) hb); have n5_ := Aside0.mk (below_step (lb HB.out) hb); clear HO_3; clear HO_6; clear HO_7; clear HO_9; clear HO_10; clear HB; have HO_3 := n0_; have HO_6 := n1_; have HO_7 := n2_; have HO_9 := n3_; have HO_10 := n4_; have HB := n5_; clear n0_ n1_ n2_ n3_ n4_ n5_; (try clear hb); (try clear hb2); (try clear hk); (try clear hi)) | ((with_reducible refine gate_callee (f := 11) rfl ?_); refine goesL_ (some 88) rfl rfl Try.func11 (by kernel_rfl) rfl #[.slice Ao8 t406.length co8] rfl al ?_; (with_reducible refine (impl_PolyArea.calls _ _ t406 t433 true _ ?side1 ?side2 A39.out).mono ?_); (case side1 => repeat (first | exact (Kd.Q_reads' HO_3.out).2.2 | (with_reducible refine Kd.C_alloc ?_ _) | (with_reducible refine Kd.C_drewN ?_ _) | (with_reducible refine Kd.C_drew ?_))); (case side2 => exact (Kd.Q_reads' HO_3.out).2.1); rintro e w62 ⟨rfl, hb⟩; refine ⟨_, rfl, ?_⟩; have n0_ := Aside0.mk (Kd.Q_below (qm HO_3.out) hb); have n1_ := Aside0.mk (Kd.R_below (rm HO_6.out) hb); have n2_ := Aside0.mk (Kd.R_below (rm HO_7.out) hb); have n3_ := Aside0.mk (Kd.R_below (rm HO_9.out) hb); have n4_ := Aside0.mk (Kd.R_below (rm HO_10.out) hb); have n5_ := Aside0.mk (below_step (lb HB.out) hb); clear HO_3; clear HO_6; clear HO_7; clear HO_9; clear HO_10; clear HB; have HO_3 := n0_; have HO_6 := n1_; have HO_7 := n2_; have HO_9 := n3_; have HO_10 := n4_; have HB := n5_; clear n0_ n1_ n2_ n3_ n4_ n5_; (try clear hb); (try clear hb2); (try clear hk); (try clear hi)))
                have n0_ := Aside0.mk (Kd.Q_drew HO_3.out)
                have n1_ := Aside0.mk (Kd.R_drew HO_6.out)
                have n2_ := Aside0.mk (Kd.R_drew HO_7.out)
                have n3_ := Aside0.mk (Kd.R_drew HO_9.out)
                have n4_ := Aside0.mk (Kd.R_drew HO_10.out)
                have n5_ := Aside0.mk (below_drew1 HB.out)
                clear HO_3 HO_6 HO_7 HO_9 HO_10 HB
                have HO_3 := n0_
                have HO_6 := n1_
                have HO_7 := n2_
                have HO_9 := n3_
                have HO_10 := n4_
                have HB := n5_
                clear n0_ n1_ n2_ n3_ n4_ n5_
                have p435 : 0 ≤ (t407 : Int) := oa
                have q435 : t407 < (t406.length : Int) := oa
                obtain ⟨ad435, e435, hx435_0, hx435_1⟩ := at_T33 (Kd.Q_reads' HO_3.out).2.2 t407 p435 q435
                cases e435
                replace p435 := eq_true p435
                replace q435 := eq_true q435
                have p436 : 0 ≤ (t408 : Int) := oa
                have q436 : t408 < (t406.length : Int) := oa
                obtain ⟨ad436, e436, hx436_0, hx436_1⟩ := at_T33 (Kd.Q_reads' HO_3.out).2.2 t408 p436 q436
                obtain rfl : ad435 = ad436 := (by injection e436)
                replace p436 := eq_true p436
                replace q436 := eq_true q436
                refine start_ (n := 10) (S := fun w' => w'.cell? (ad435.add ((t407).toNat * 2)) = some (.int .i64 ((rd_T33 t406 t407).f0)) ∧ w'.cell? ⟨(ad435.add ((t407).toNat * 2)).block, (ad435.add ((t407).toNat * 2)).off + 1, none⟩ = some (.int .i64 ((rd_T33 t406 t407).f1)) ∧ w'.cell? (ad435.add ((t408).toNat * 2)) = some (.int .i64 ((rd_T33 t406 t408).f0)) ∧ w'.cell? ⟨(ad435.add ((t408).toNat * 2)).block, (ad435.add ((t408).toNat * 2)).off + 1, none⟩ = some (.int .i64 ((rd_T33 t406 t408).f1))) (ds := []) #[false,false,false,false,false,false,false,false,false,false] (by kernel_rfl) rfl rfl ⟨hx435_0, hx435_1, hx436_0, hx436_1⟩ (fun hHeld => ?_); refine with_tabW laws_FnSplit.tab11 laws_FnSplit.bits11 (fun HT_ HW_ => ?_)
                generalize w62.drew = w63 at HO_3 HO_6 HO_7 HO_9 HO_10 HB hx435_0 hx435_1 hx436_0 hx436_1 hHeld ⊢
                refine pq_ 0 (some 91) ?_
                refine pq_ 1 (some 92) ?_
                refine pq_ 2 (some 93) ?_
                refine pq_ 4 (some 95) ?_
                refine pq_ 5 (some 96) ?_
                refine pq_ 6 (some 97) ?_
                refine tq_ 3 (some 94) ?_
                refine tq_ 7 (some 98) ?_
                refine one_ (i := 8) (N := some 99) #[true,true,true,true,true,true,true,true,true,false] rfl rfl (one_of HT_.out (by kernel_rfl)) (by decide) (fun K hK => ?_)
                refine goes_ Try.func12 (by kernel_rfl) rfl #[.agg #[.int .i64 ((rd_T33 t406 t407).f0), .int .i64 ((rd_T33 t406 t407).f1)], .agg #[.int .i64 ((rd_T33 t406 t408).f0), .int .i64 ((rd_T33 t406 t408).f1)]] (by rfl) rfl rfl al ?_
                with_reducible refine (impl_PointGaps.calls ((rd_T33 t406 t407).f0) ((rd_T33 t406 t407).f1) ((rd_T33 t406 t408).f0) ((rd_T33 t406 t408).f1) t437 _ A44.out).mono ?_
                rintro e w64 ⟨rfl, hb⟩
                have HS0_ := (hb.cell (World.block_lt_of_cell? _ _ (hHeld.1))).trans (hHeld.1)
                have HS1_ := (hb.cell (World.block_lt_of_cell? _ _ (hHeld.2.1))).trans (hHeld.2.1)
                have HS2_ := (hb.cell (World.block_lt_of_cell? _ _ (hHeld.2.2.1))).trans (hHeld.2.2.1)
                have HS3_ := (hb.cell (World.block_lt_of_cell? _ _ (hHeld.2.2.2))).trans (hHeld.2.2.2)
                refine ⟨_, rfl, ?_⟩
                have n0_ := Aside0.mk (Kd.Q_below (qm HO_3.out) hb)
                have n1_ := Aside0.mk (Kd.R_below (rm HO_6.out) hb)
                have n2_ := Aside0.mk (Kd.R_below (rm HO_7.out) hb)
                have n3_ := Aside0.mk (Kd.R_below (rm HO_9.out) hb)
                have n4_ := Aside0.mk (Kd.R_below (rm HO_10.out) hb)
                have n5_ := Aside0.mk (below_step (lb HB.out) hb)
                clear HO_3 HO_6 HO_7 HO_9 HO_10 HB
                have HO_3 := n0_
                have HO_6 := n1_
                have HO_7 := n2_
                have HO_9 := n3_
                have HO_10 := n4_
                have HB := n5_
                clear n0_ n1_ n2_ n3_ n4_ n5_
                (try clear hb);(try clear hb2);(try clear hk);(try clear hi)
                refine hK.out _ _ ⟨HS0_, HS1_, HS2_, HS3_⟩ (fun hHeld => ?_)
                clear hK K
                refine norm_ (a' := ?_) ?_ ?_
                rotate_left
                ·show Act.put _ (some 99) _ = _
                 simp only [Act.put, List.setIfInBounds_toArray, List.set_cons_zero, List.set_cons_succ, i64_w, i32_w]
                 rfl
                refine pq_ 9 (some 18) ?_
                refine done_ (done_of HT_.out (by kernel_rfl)) ?_
                try go_wp2_with (first | (go_at_call 13; (with_reducible refine (impl_ParcelValid.calls _ _ t411 true _ ?side1 ?side2 A49.out).mono ?_); (case side1 => exact cm (Kd.R_reads' HO_6.out).2.2); (case side2 => exact (Kd.R_reads' HO_6.out).2.1); rintro e w65 ⟨rfl, hb⟩; have n0_ := Aside0.mk (Kd.Q_below (qm HO_3.out) hb); have n1_ := Aside0.mk (Kd.R_below (rm HO_6.out) hb); have n2_ := Aside0.mk (Kd.R_below (rm HO_7.out) hb); have n3_ := Aside0.mk (Kd.R_below (rm HO_9.out) hb); have n4_ := Aside0.mk (Kd.R_below (rm HO_10.out) hb); have n5_ := Aside0.mk (below_step (lb HB.out) hb); clear HO_3; clear HO_6; clear HO_7; clear HO_9; clear HO_10; clear HB; have HO_3 := n0_; have HO_6 := n1_; have HO_7 := n2_; have HO_9 := n3_; have HO_10 := n4_; have HB := n5_; clear n0_ n1_ n2_ n3_ n4_ n5_; (try clear hb); (try clear hb2); (try clear hk); (try clear hi)) | (go_at_call 13; (with_reducible refine (impl_ParcelValid.calls _ _ t412 true _ ?side1 ?side2 A51.out).mono ?_); (case side1 => exact cm (Kd.R_reads' HO_7.out).2.2); (case side2 => exact (Kd.R_reads' HO_7.out).2.1); rintro e w66 ⟨rfl, hb⟩; have n0_ := Aside0.mk (Kd.Q_below (qm HO_3.out) hb); have n1_ := Aside0.mk (Kd.R_below (rm HO_6.out) hb); have n2_ := Aside0.mk (Kd.R_below (rm HO_7.out) hb); have n3_ := Aside0.mk (Kd.R_below (rm HO_9.out) hb); have n4_ := Aside0.mk (Kd.R_below (rm HO_10.out) hb); have n5_ := Aside0.mk (below_step (lb HB.out) hb); clear HO_3; clear HO_6; clear HO_7; clear HO_9; clear HO_10; clear HB; have HO_3 := n0_; have HO_6 := n1_; have HO_7 := n2_; have HO_9 := n3_; have HO_10 := n4_; have HB := n5_; clear n0_ n1_ n2_ n3_ n4_ n5_; (try clear hb); (try clear hb2); (try clear hk); (try clear hi)) | (go_at_call 14; (with_reducible refine (impl_PolyInside.calls _ _ t411 t440 _ ?side1 ?side2 A53.out).mono ?_); (case side1 => exact cm (Kd.R_reads' HO_6.out).2.2); (case side2 => exact (Kd.R_reads' HO_6.out).2.1); rintro e w67 ⟨rfl, hb⟩; have n0_ := Aside0.mk (Kd.Q_below (qm HO_3.out) hb); have n1_ := Aside0.mk (Kd.R_below (rm HO_6.out) hb); have n2_ := Aside0.mk (Kd.R_below (rm HO_7.out) hb); have n3_ := Aside0.mk (Kd.R_below (rm HO_9.out) hb); have n4_ := Aside0.mk (Kd.R_below (rm HO_10.out) hb); have n5_ := Aside0.mk (below_step (lb HB.out) hb); clear HO_3; clear HO_6; clear HO_7; clear HO_9; clear HO_10; clear HB; have HO_3 := n0_; have HO_6 := n1_; have HO_7 := n2_; have HO_9 := n3_; have HO_10 := n4_; have HB := n5_; clear n0_ n1_ n2_ n3_ n4_ n5_; (try clear hb); (try clear hb2); (try clear hk); (try clear hi)) | (go_at_call 14; (with_reducible refine (impl_PolyInside.calls _ _ t412 t441 _ ?side1 ?side2 A54.out).mono ?_); (case side1 => exact cm (Kd.R_reads' HO_7.out).2.2); (case side2 => exact (Kd.R_reads' HO_7.out).2.1); rintro e w68 ⟨rfl, hb⟩; have n0_ := Aside0.mk (Kd.Q_below (qm HO_3.out) hb); have n1_ := Aside0.mk (Kd.R_below (rm HO_6.out) hb); have n2_ := Aside0.mk (Kd.R_below (rm HO_7.out) hb); have n3_ := Aside0.mk (Kd.R_below (rm HO_9.out) hb); have n4_ := Aside0.mk (Kd.R_below (rm HO_10.out) hb); have n5_ := Aside0.mk (below_step (lb HB.out) hb); clear HO_3; clear HO_6; clear HO_7; clear HO_9; clear HO_10; clear HB; have HO_3 := n0_; have HO_6 := n1_; have HO_7 := n2_; have HO_9 := n3_; have HO_10 := n4_; have HB := n5_; clear n0_ n1_ n2_ n3_ n4_ n5_; (try clear hb); (try clear hb2); (try clear hk); (try clear hi)) | (go_at_call 14; (with_reducible refine (impl_PolyInside.calls _ _ t406 t442 _ ?side1 ?side2 A55.out).mono ?_); (case side1 => repeat (first | exact (Kd.Q_reads' HO_3.out).2.2 | (with_reducible refine Kd.C_alloc ?_ _) | (with_reducible refine Kd.C_drewN ?_ _) | (with_reducible refine Kd.C_drew ?_))); (case side2 => exact (Kd.Q_reads' HO_3.out).2.1); rintro e w69 ⟨rfl, hb⟩; have n0_ := Aside0.mk (Kd.Q_below (qm HO_3.out) hb); have n1_ := Aside0.mk (Kd.R_below (rm HO_6.out) hb); have n2_ := Aside0.mk (Kd.R_below (rm HO_7.out) hb); have n3_ := Aside0.mk (Kd.R_below (rm HO_9.out) hb); have n4_ := Aside0.mk (Kd.R_below (rm HO_10.out) hb); have n5_ := Aside0.mk (below_step (lb HB.out) hb); clear HO_3; clear HO_6; clear HO_7; clear HO_9; clear HO_10; clear HB; have HO_3 := n0_; have HO_6 := n1_; have HO_7 := n2_; have HO_9 := n3_; have HO_10 := n4_; have HB := n5_; clear n0_ n1_ n2_ n3_ n4_ n5_; (try clear hb); (try clear hb2); (try clear hk); (try clear hi)) | (go_at_call 15; (with_reducible refine (impl_ParcelCommon.calls _ _ t411 _ _ t412 t443 _ ?side1 ?side2 ?side3 ?side4 A57.out).mono ?_); (case side1 => exact cm (Kd.R_reads' HO_6.out).2.2); (case side2 => exact (Kd.R_reads' HO_6.out).2.1); (case side3 => exact cm (Kd.R_reads' HO_7.out).2.2); (case side4 => exact (Kd.R_reads' HO_7.out).2.1); rintro e w70 ⟨rfl, hb⟩; have n0_ := Aside0.mk (Kd.Q_below (qm HO_3.out) hb); have n1_ := Aside0.mk (Kd.R_below (rm HO_6.out) hb); have n2_ := Aside0.mk (Kd.R_below (rm HO_7.out) hb); have n3_ := Aside0.mk (Kd.R_below (rm HO_9.out) hb); have n4_ := Aside0.mk (Kd.R_below (rm HO_10.out) hb); have n5_ := Aside0.mk (below_step (lb HB.out) hb); clear HO_3; clear HO_6; clear HO_7; clear HO_9; clear HO_10; clear HB; have HO_3 := n0_; have HO_6 := n1_; have HO_7 := n2_; have HO_9 := n3_; have HO_10 := n4_; have HB := n5_; clear n0_ n1_ n2_ n3_ n4_ n5_; (try clear hb); (try clear hb2); (try clear hk); (try clear hi)))
                go_ret
                exact ⟨er, lb HB.out⟩
               ·rw [if_neg c56] at H
                have c56b0 : ((wrap64 ((wrap64 ((wrap64 (t440 + t441)) + t437)) - 1)) == t442) = false := beq_eq_false_iff_ne.mpr c56
                have c56b1 : ((wrap64 ((wrap64 ((wrap64 (t440 + t441)) + t437)) - 1)) != t442) = true := bne_iff_ne.mpr c56
                obtain rfl := Option.some.inj H
                obtain ⟨Ao71, co71, eo71⟩ := Kd.R_slice HO_6.out
                subst eo71
                try go_wp2_with (first | ((with_reducible refine gate_callee (f := 11) rfl ?_); refine goesL_ (some 78) rfl rfl Try.func11 (by kernel_rfl) rfl #[.slice Ao71 t411.length co71] rfl al ?_; (with_reducible refine (impl_PolyArea.calls _ _ t411 t429 true _ ?side1 ?side2 A37.out).mono ?_); (case side1 => exact cm (Kd.R_reads' HO_6.out).2.2); (case side2 => exact (Kd.R_reads' HO_6.out).2.1); rintro e w72 ⟨rfl, hb⟩; refine ⟨_, rfl, ?_⟩; have n0_ := Aside0.mk (Kd.Q_below (qm HO_3.out) hb); have n1_ := Aside0.mk (Kd.R_below (rm HO_6.out) hb); have n2_ := Aside0.mk (Kd.R_below (rm HO_7.out) hb); have n3_ := Aside0.mk (Kd.R_below (rm HO_9.out) hb); have n4_ := Aside0.mk (Kd.R_below (rm HO_10.out) hb); have n5_ := Aside0.mk (below_step (lb HB.out) hb); clear HO_3; clear HO_6; clear HO_7; clear HO_9; clear HO_10; clear HB; have HO_3 := n0_; have HO_6 := n1_; have HO_7 := n2_; have HO_9 := n3_; have HO_10 := n4_; have HB := n5_; clear n0_ n1_ n2_ n3_ n4_ n5_; (try clear hb); (try clear hb2); (try clear hk); (try clear hi); obtain ⟨Ao73, co73, eo73⟩ := Kd.R_slice HO_7.out; subst eo73) | ((with_reducible refine gate_callee (f := 11) rfl ?_); refine goesL_ (some 83) rfl rfl Try.func11 (by kernel_rfl) rfl #[.slice Ao73 t412.length co73] rfl al ?_; (with_reducible refine (impl_PolyArea.calls _ _ t412 t431 true _ ?side1 ?side2 A38.out).mono ?_); (case side1 => exact cm (Kd.R_reads' HO_7.out).2.2); (case side2 => exact (Kd.R_reads' HO_7.out).2.1); rintro e w74 ⟨rfl, hb⟩; refine ⟨_, rfl, ?_⟩; have n0_ := Aside0.mk (Kd.Q_below (qm HO_3.out) hb); have n1_ := Aside0.mk (Kd.R_below (rm HO_6.out) hb); have n2_ := Aside0.mk (Kd.R_below (rm HO_7.out) hb); have n3_ := Aside0.mk (Kd.R_below (rm HO_9.out) hb); have n4_ := Aside0.mk (Kd.R_below (rm HO_10.out) hb); have n5_ := Aside0.mk (below_step (lb HB.out) hb); clear HO_3; clear HO_6; clear HO_7; clear HO_9; clear HO_10; clear HB; have HO_3 := n0_; have HO_6 := n1_; have HO_7 := n2_; have HO_9 := n3_; have HO_10 := n4_; have HB := n5_; clear n0_ n1_ n2_ n3_ n4_ n5_; (try clear hb); (try clear hb2); (try clear hk); (try clear hi)) | ((with_reducible refine gate_callee (f := 11) rfl ?_); refine goesL_ (some 88) rfl rfl Try.func11 (by kernel_rfl) rfl #[.slice Ao8 t406.length co8] rfl al ?_; (with_reducible refine (impl_PolyArea.calls _ _ t406 t433 true _ ?side1 ?side2 A39.out).mono ?_); (case side1 => repeat (first | exact (Kd.Q_reads' HO_3.out).2.2 | (with_reducible refine Kd.C_alloc ?_ _) | (with_reducible refine Kd.C_drewN ?_ _) | (with_reducible refine Kd.C_drew ?_))); (case side2 => exact (Kd.Q_reads' HO_3.out).2.1); rintro e w75 ⟨rfl, hb⟩; refine ⟨_, rfl, ?_⟩; have n0_ := Aside0.mk (Kd.Q_below (qm HO_3.out) hb); have n1_ := Aside0.mk (Kd.R_below (rm HO_6.out) hb); have n2_ := Aside0.mk (Kd.R_below (rm HO_7.out) hb); have n3_ := Aside0.mk (Kd.R_below (rm HO_9.out) hb); have n4_ := Aside0.mk (Kd.R_below (rm HO_10.out) hb); have n5_ := Aside0.mk (below_step (lb HB.out) hb); clear HO_3; clear HO_6; clear HO_7; clear HO_9; clear HO_10; clear HB; have HO_3 := n0_; have HO_6 := n1_; have HO_7 := n2_; have HO_9 := n3_; have HO_10 := n4_; have HB := n5_; clear n0_ n1_ n2_ n3_ n4_ n5_; (try clear hb); (try clear hb2); (try clear hk); (try clear hi)))
                have n0_ := Aside0.mk (Kd.Q_drew HO_3.out)
                have n1_ := Aside0.mk (Kd.R_drew HO_6.out)
                have n2_ := Aside0.mk (Kd.R_drew HO_7.out)
                have n3_ := Aside0.mk (Kd.R_drew HO_9.out)
                have n4_ := Aside0.mk (Kd.R_drew HO_10.out)
                have n5_ := Aside0.mk (below_drew1 HB.out)
                clear HO_3 HO_6 HO_7 HO_9 HO_10 HB
                have HO_3 := n0_
                have HO_6 := n1_
                have HO_7 := n2_
                have HO_9 := n3_
                have HO_10 := n4_
                have HB := n5_
                clear n0_ n1_ n2_ n3_ n4_ n5_
                have p435 : 0 ≤ (t407 : Int) := oa
                have q435 : t407 < (t406.length : Int) := oa
                obtain ⟨ad435, e435, hx435_0, hx435_1⟩ := at_T33 (Kd.Q_reads' HO_3.out).2.2 t407 p435 q435
                cases e435
                replace p435 := eq_true p435
                replace q435 := eq_true q435
                have p436 : 0 ≤ (t408 : Int) := oa
                have q436 : t408 < (t406.length : Int) := oa
                obtain ⟨ad436, e436, hx436_0, hx436_1⟩ := at_T33 (Kd.Q_reads' HO_3.out).2.2 t408 p436 q436
                obtain rfl : ad435 = ad436 := (by injection e436)
                replace p436 := eq_true p436
                replace q436 := eq_true q436
                refine start_ (n := 10) (S := fun w' => w'.cell? (ad435.add ((t407).toNat * 2)) = some (.int .i64 ((rd_T33 t406 t407).f0)) ∧ w'.cell? ⟨(ad435.add ((t407).toNat * 2)).block, (ad435.add ((t407).toNat * 2)).off + 1, none⟩ = some (.int .i64 ((rd_T33 t406 t407).f1)) ∧ w'.cell? (ad435.add ((t408).toNat * 2)) = some (.int .i64 ((rd_T33 t406 t408).f0)) ∧ w'.cell? ⟨(ad435.add ((t408).toNat * 2)).block, (ad435.add ((t408).toNat * 2)).off + 1, none⟩ = some (.int .i64 ((rd_T33 t406 t408).f1))) (ds := []) #[false,false,false,false,false,false,false,false,false,false] (by kernel_rfl) rfl rfl ⟨hx435_0, hx435_1, hx436_0, hx436_1⟩ (fun hHeld => ?_); refine with_tabW laws_FnSplit.tab11 laws_FnSplit.bits11 (fun HT_ HW_ => ?_)
                generalize w75.drew = w76 at HO_3 HO_6 HO_7 HO_9 HO_10 HB hx435_0 hx435_1 hx436_0 hx436_1 hHeld ⊢
                refine pq_ 0 (some 91) ?_
                refine pq_ 1 (some 92) ?_
                refine pq_ 2 (some 93) ?_
                refine pq_ 4 (some 95) ?_
                refine pq_ 5 (some 96) ?_
                refine pq_ 6 (some 97) ?_
                refine tq_ 3 (some 94) ?_
                refine tq_ 7 (some 98) ?_
                refine one_ (i := 8) (N := some 99) #[true,true,true,true,true,true,true,true,true,false] rfl rfl (one_of HT_.out (by kernel_rfl)) (by decide) (fun K hK => ?_)
                refine goes_ Try.func12 (by kernel_rfl) rfl #[.agg #[.int .i64 ((rd_T33 t406 t407).f0), .int .i64 ((rd_T33 t406 t407).f1)], .agg #[.int .i64 ((rd_T33 t406 t408).f0), .int .i64 ((rd_T33 t406 t408).f1)]] (by rfl) rfl rfl al ?_
                with_reducible refine (impl_PointGaps.calls ((rd_T33 t406 t407).f0) ((rd_T33 t406 t407).f1) ((rd_T33 t406 t408).f0) ((rd_T33 t406 t408).f1) t437 _ A44.out).mono ?_
                rintro e w77 ⟨rfl, hb⟩
                have HS0_ := (hb.cell (World.block_lt_of_cell? _ _ (hHeld.1))).trans (hHeld.1)
                have HS1_ := (hb.cell (World.block_lt_of_cell? _ _ (hHeld.2.1))).trans (hHeld.2.1)
                have HS2_ := (hb.cell (World.block_lt_of_cell? _ _ (hHeld.2.2.1))).trans (hHeld.2.2.1)
                have HS3_ := (hb.cell (World.block_lt_of_cell? _ _ (hHeld.2.2.2))).trans (hHeld.2.2.2)
                refine ⟨_, rfl, ?_⟩
                have n0_ := Aside0.mk (Kd.Q_below (qm HO_3.out) hb)
                have n1_ := Aside0.mk (Kd.R_below (rm HO_6.out) hb)
                have n2_ := Aside0.mk (Kd.R_below (rm HO_7.out) hb)
                have n3_ := Aside0.mk (Kd.R_below (rm HO_9.out) hb)
                have n4_ := Aside0.mk (Kd.R_below (rm HO_10.out) hb)
                have n5_ := Aside0.mk (below_step (lb HB.out) hb)
                clear HO_3 HO_6 HO_7 HO_9 HO_10 HB
                have HO_3 := n0_
                have HO_6 := n1_
                have HO_7 := n2_
                have HO_9 := n3_
                have HO_10 := n4_
                have HB := n5_
                clear n0_ n1_ n2_ n3_ n4_ n5_
                (try clear hb);(try clear hb2);(try clear hk);(try clear hi)
                refine hK.out _ _ ⟨HS0_, HS1_, HS2_, HS3_⟩ (fun hHeld => ?_)
                clear hK K
                refine norm_ (a' := ?_) ?_ ?_
                rotate_left
                ·show Act.put _ (some 99) _ = _
                 simp only [Act.put, List.setIfInBounds_toArray, List.set_cons_zero, List.set_cons_succ, i64_w, i32_w]
                 rfl
                refine pq_ 9 (some 18) ?_
                refine done_ (done_of HT_.out (by kernel_rfl)) ?_
                try go_wp2_with (first | (go_at_call 13; (with_reducible refine (impl_ParcelValid.calls _ _ t411 true _ ?side1 ?side2 A49.out).mono ?_); (case side1 => exact cm (Kd.R_reads' HO_6.out).2.2); (case side2 => exact (Kd.R_reads' HO_6.out).2.1); rintro e w78 ⟨rfl, hb⟩; have n0_ := Aside0.mk (Kd.Q_below (qm HO_3.out) hb); have n1_ := Aside0.mk (Kd.R_below (rm HO_6.out) hb); have n2_ := Aside0.mk (Kd.R_below (rm HO_7.out) hb); have n3_ := Aside0.mk (Kd.R_below (rm HO_9.out) hb); have n4_ := Aside0.mk (Kd.R_below (rm HO_10.out) hb); have n5_ := Aside0.mk (below_step (lb HB.out) hb); clear HO_3; clear HO_6; clear HO_7; clear HO_9; clear HO_10; clear HB; have HO_3 := n0_; have HO_6 := n1_; have HO_7 := n2_; have HO_9 := n3_; have HO_10 := n4_; have HB := n5_; clear n0_ n1_ n2_ n3_ n4_ n5_; (try clear hb); (try clear hb2); (try clear hk); (try clear hi)) | (go_at_call 13; (with_reducible refine (impl_ParcelValid.calls _ _ t412 true _ ?side1 ?side2 A51.out).mono ?_); (case side1 => exact cm (Kd.R_reads' HO_7.out).2.2); (case side2 => exact (Kd.R_reads' HO_7.out).2.1); rintro e w79 ⟨rfl, hb⟩; have n0_ := Aside0.mk (Kd.Q_below (qm HO_3.out) hb); have n1_ := Aside0.mk (Kd.R_below (rm HO_6.out) hb); have n2_ := Aside0.mk (Kd.R_below (rm HO_7.out) hb); have n3_ := Aside0.mk (Kd.R_below (rm HO_9.out) hb); have n4_ := Aside0.mk (Kd.R_below (rm HO_10.out) hb); have n5_ := Aside0.mk (below_step (lb HB.out) hb); clear HO_3; clear HO_6; clear HO_7; clear HO_9; clear HO_10; clear HB; have HO_3 := n0_; have HO_6 := n1_; have HO_7 := n2_; have HO_9 := n3_; have HO_10 := n4_; have HB := n5_; clear n0_ n1_ n2_ n3_ n4_ n5_; (try clear hb); (try clear hb2); (try clear hk); (try clear hi)) | (go_at_call 14; (with_reducible refine (impl_PolyInside.calls _ _ t411 t440 _ ?side1 ?side2 A53.out).mono ?_); (case side1 => exact cm (Kd.R_reads' HO_6.out).2.2); (case side2 => exact (Kd.R_reads' HO_6.out).2.1); rintro e w80 ⟨rfl, hb⟩; have n0_ := Aside0.mk (Kd.Q_below (qm HO_3.out) hb); have n1_ := Aside0.mk (Kd.R_below (rm HO_6.out) hb); have n2_ := Aside0.mk (Kd.R_below (rm HO_7.out) hb); have n3_ := Aside0.mk (Kd.R_below (rm HO_9.out) hb); have n4_ := Aside0.mk (Kd.R_below (rm HO_10.out) hb); have n5_ := Aside0.mk (below_step (lb HB.out) hb); clear HO_3; clear HO_6; clear HO_7; clear HO_9; clear HO_10; clear HB; have HO_3 := n0_; have HO_6 := n1_; have HO_7 := n2_; have HO_9 := n3_; have HO_10 := n4_; have HB := n5_; clear n0_ n1_ n2_ n3_ n4_ n5_; (try clear hb); (try clear hb2); (try clear hk); (try clear hi)) | (go_at_call 14; (with_reducible refine (impl_PolyInside.calls _ _ t412 t441 _ ?side1 ?side2 A54.out).mono ?_); (case side1 => exact cm (Kd.R_reads' HO_7.out).2.2); (case side2 => exact (Kd.R_reads' HO_7.out).2.1); rintro e w81 ⟨rfl, hb⟩; have n0_ := Aside0.mk (Kd.Q_below (qm HO_3.out) hb); have n1_ := Aside0.mk (Kd.R_below (rm HO_6.out) hb); have n2_ := Aside0.mk (Kd.R_below (rm HO_7.out) hb); have n3_ := Aside0.mk (Kd.R_below (rm HO_9.out) hb); have n4_ := Aside0.mk (Kd.R_below (rm HO_10.out) hb); have n5_ := Aside0.mk (below_step (lb HB.out) hb); clear HO_3; clear HO_6; clear HO_7; clear HO_9; clear HO_10; clear HB; have HO_3 := n0_; have HO_6 := n1_; have HO_7 := n2_; have HO_9 := n3_; have HO_10 := n4_; have HB := n5_; clear n0_ n1_ n2_ n3_ n4_ n5_; (try clear hb); (try clear hb2); (try clear hk); (try clear hi)) | (go_at_call 14; (with_reducible refine (impl_PolyInside.calls _ _ t406 t442 _ ?side1 ?side2 A55.out).mono ?_); (case side1 => repeat (first | exact (Kd.Q_reads' HO_3.out).2.2 | (with_reducible refine Kd.C_alloc ?_ _) | (with_reducible refine Kd.C_drewN ?_ _) | (with_reducible refine Kd.C_drew ?_))); (case side2 => exact (Kd.Q_reads' HO_3.out).2.1); rintro e w82 ⟨rfl, hb⟩; have n0_ := Aside0.mk (Kd.Q_below (qm HO_3.out) hb); have n1_ := Aside0.mk (Kd.R_below (rm HO_6.out) hb); have n2_ := Aside0.mk (Kd.R_below (rm HO_7.out) hb); have n3_ := Aside0.mk (Kd.R_below (rm HO_9.out) hb); have n4_ := Aside0.mk (Kd.R_below (rm HO_10.out) hb); have n5_ := Aside0.mk (below_step (lb HB.out) hb); clear HO_3; clear HO_6; clear HO_7; clear HO_9; clear HO_10; clear HB; have HO_3 := n0_; have HO_6 := n1_; have HO_7 := n2_; have HO_9 := n3_; have HO_10 := n4_; have HB := n5_; clear n0_ n1_ n2_ n3_ n4_ n5_; (try clear hb); (try clear hb2); (try clear hk); (try clear hi)))
                go_ret
                exact ⟨er, lb HB.out⟩
              ·replace c52 := Bool.eq_false_iff.mpr c52
               subst c52
               have H1 : (some false) = some r := by rw [if_neg (show ¬ (false = true) by decide)] at H; exact H
               clear H
               have H := H1
               clear H1
               obtain rfl := Option.some.inj H
               obtain ⟨Ao83, co83, eo83⟩ := Kd.R_slice HO_6.out
               subst eo83
               try go_wp2_with (first | ((with_reducible refine gate_callee (f := 11) rfl ?_); refine goesL_ (some 78) rfl rfl Try.func11 (by kernel_rfl) rfl #[.slice Ao83 t411.length co83] rfl al ?_; (with_reducible refine (impl_PolyArea.calls _ _ t411 t429 true _ ?side1 ?side2 A37.out).mono ?_); (case side1 => exact cm (Kd.R_reads' HO_6.out).2.2); (case side2 => exact (Kd.R_reads' HO_6.out).2.1); rintro e w84 ⟨rfl, hb⟩; refine ⟨_, rfl, ?_⟩; have n0_ := Aside0.mk (Kd.Q_below (qm HO_3.out) hb); have n1_ := Aside0.mk (Kd.R_below (rm HO_6.out) hb); have n2_ := Aside0.mk (Kd.R_below (rm HO_7.out) hb); have n3_ := Aside0.mk (Kd.R_below (rm HO_9.out) hb); have n4_ := Aside0.mk (Kd.R_below (rm HO_10.out) hb); have n5_ := Aside0.mk (below_step (lb HB.out) hb); clear HO_3; clear HO_6; clear HO_7; clear HO_9; clear HO_10; clear HB; have HO_3 := n0_; have HO_6 := n1_; have HO_7 := n2_; have HO_9 := n3_; have HO_10 := n4_; have HB := n5_; clear n0_ n1_ n2_ n3_ n4_ n5_; (try clear hb); (try clear hb2); (try clear hk); (try clear hi); obtain ⟨Ao85, co85, eo85⟩ := Kd.R_slice HO_7.out; subst eo85) | ((with_reducible refine gate_callee (f := 11) rfl ?_); refine goesL_ (some 83) rfl rfl Try.func11 (by kernel_rfl) rfl #[.slice Ao85 t412.length co85] rfl al ?_; (with_reducible refine (impl_PolyArea.calls _ _ t412 t431 true _ ?side1 ?side2 A38.out).mono ?_); (case side1 => exact cm (Kd.R_reads' HO_7.out).2.2); (case side2 => exact (Kd.R_reads' HO_7.out).2.1); rintro e w86 ⟨rfl, hb⟩; refine ⟨_, rfl, ?_⟩; have n0_ := Aside0.mk (Kd.Q_below (qm HO_3.out) hb); have n1_ := Aside0.mk (Kd.R_below (rm HO_6.out) hb); have n2_ := Aside0.mk (Kd.R_below (rm HO_7.out) hb); have n3_ := Aside0.mk (Kd.R_below (rm HO_9.out) hb); have n4_ := Aside0.mk (Kd.R_below (rm HO_10.out) hb); have n5_ := Aside0.mk (below_step (lb HB.out) hb); clear HO_3; clear HO_6; clear HO_7; clear HO_9; clear HO_10; clear HB; have HO_3 := n0_; have HO_6 := n1_; have HO_7 := n2_; have HO_9 := n3_; have HO_10 := n4_; have HB := n5_; clear n0_ n1_ n2_ n3_ n4_ n5_; (try clear hb); (try clear hb2); (try clear hk); (try clear hi)) | ((with_reducible refine gate_callee (f := 11) rfl ?_); refine goesL_ (some 88) rfl rfl Try.func11 (by kernel_rfl) rfl #[.slice Ao8 t406.length co8] rfl al ?_; (with_reducible refine (impl_PolyArea.calls _ _ t406 t433 true _ ?side1 ?side2 A39.out).mono ?_); (case side1 => repeat (first | exact (Kd.Q_reads' HO_3.out).2.2 | (with_reducible refine Kd.C_alloc ?_ _) | (with_reducible refine Kd.C_drewN ?_ _) | (with_reducible refine Kd.C_drew ?_))); (case side2 => exact (Kd.Q_reads' HO_3.out).2.1); rintro e w87 ⟨rfl, hb⟩; refine ⟨_, rfl, ?_⟩; have n0_ := Aside0.mk (Kd.Q_below (qm HO_3.out) hb); have n1_ := Aside0.mk (Kd.R_below (rm HO_6.out) hb); have n2_ := Aside0.mk (Kd.R_below (rm HO_7.out) hb); have n3_ := Aside0.mk (Kd.R_below (rm HO_9.out) hb); have n4_ := Aside0.mk (Kd.R_below (rm HO_10.out) hb); have n5_ := Aside0.mk (below_step (lb HB.out) hb); clear HO_3; clear HO_6; clear HO_7; clear HO_9; clear HO_10; clear HB; have HO_3 := n0_; have HO_6 := n1_; have HO_7 := n2_; have HO_9 := n3_; have HO_10 := n4_; have HB := n5_; clear n0_ n1_ n2_ n3_ n4_ n5_; (try clear hb); (try clear hb2); (try clear hk); (try clear hi)))
               have n0_ := Aside0.mk (Kd.Q_drew HO_3.out)
               have n1_ := Aside0.mk (Kd.R_drew HO_6.out)
               have n2_ := Aside0.mk (Kd.R_drew HO_7.out)
               have n3_ := Aside0.mk (Kd.R_drew HO_9.out)
               have n4_ := Aside0.mk (Kd.R_drew HO_10.out)
               have n5_ := Aside0.mk (below_drew1 HB.out)
               clear HO_3 HO_6 HO_7 HO_9 HO_10 HB
               have HO_3 := n0_
               have HO_6 := n1_
               have HO_7 := n2_
               have HO_9 := n3_
               have HO_10 := n4_
               have HB := n5_
               clear n0_ n1_ n2_ n3_ n4_ n5_
               have p435 : 0 ≤ (t407 : Int) := oa
               have q435 : t407 < (t406.length : Int) := oa
               obtain ⟨ad435, e435, hx435_0, hx435_1⟩ := at_T33 (Kd.Q_reads' HO_3.out).2.2 t407 p435 q435
               cases e435
               replace p435 := eq_true p435
               replace q435 := eq_true q435
               have p436 : 0 ≤ (t408 : Int) := oa
               have q436 : t408 < (t406.length : Int) := oa
               obtain ⟨ad436, e436, hx436_0, hx436_1⟩ := at_T33 (Kd.Q_reads' HO_3.out).2.2 t408 p436 q436
               obtain rfl : ad435 = ad436 := (by injection e436)
               replace p436 := eq_true p436
               replace q436 := eq_true q436
               refine start_ (n := 10) (S := fun w' => w'.cell? (ad435.add ((t407).toNat * 2)) = some (.int .i64 ((rd_T33 t406 t407).f0)) ∧ w'.cell? ⟨(ad435.add ((t407).toNat * 2)).block, (ad435.add ((t407).toNat * 2)).off + 1, none⟩ = some (.int .i64 ((rd_T33 t406 t407).f1)) ∧ w'.cell? (ad435.add ((t408).toNat * 2)) = some (.int .i64 ((rd_T33 t406 t408).f0)) ∧ w'.cell? ⟨(ad435.add ((t408).toNat * 2)).block, (ad435.add ((t408).toNat * 2)).off + 1, none⟩ = some (.int .i64 ((rd_T33 t406 t408).f1))) (ds := []) #[false,false,false,false,false,false,false,false,false,false] (by kernel_rfl) rfl rfl ⟨hx435_0, hx435_1, hx436_0, hx436_1⟩ (fun hHeld => ?_); refine with_tabW laws_FnSplit.tab11 laws_FnSplit.bits11 (fun HT_ HW_ => ?_)
               generalize w87.drew = w88 at HO_3 HO_6 HO_7 HO_9 HO_10 HB hx435_0 hx435_1 hx436_0 hx436_1 hHeld ⊢
               refine pq_ 0 (some 91) ?_
               refine pq_ 1 (some 92) ?_
               refine pq_ 2 (some 93) ?_
               refine pq_ 4 (some 95) ?_
               refine pq_ 5 (some 96) ?_
               refine pq_ 6 (some 97) ?_
               refine tq_ 3 (some 94) ?_
               refine tq_ 7 (some 98) ?_
               refine one_ (i := 8) (N := some 99) #[true,true,true,true,true,true,true,true,true,false] rfl rfl (one_of HT_.out (by kernel_rfl)) (by decide) (fun K hK => ?_)
               refine goes_ Try.func12 (by kernel_rfl) rfl #[.agg #[.int .i64 ((rd_T33 t406 t407).f0), .int .i64 ((rd_T33 t406 t407).f1)], .agg #[.int .i64 ((rd_T33 t406 t408).f0), .int .i64 ((rd_T33 t406 t408).f1)]] (by rfl) rfl rfl al ?_
               with_reducible refine (impl_PointGaps.calls ((rd_T33 t406 t407).f0) ((rd_T33 t406 t407).f1) ((rd_T33 t406 t408).f0) ((rd_T33 t406 t408).f1) t437 _ A44.out).mono ?_
               rintro e w89 ⟨rfl, hb⟩
               have HS0_ := (hb.cell (World.block_lt_of_cell? _ _ (hHeld.1))).trans (hHeld.1)
               have HS1_ := (hb.cell (World.block_lt_of_cell? _ _ (hHeld.2.1))).trans (hHeld.2.1)
               have HS2_ := (hb.cell (World.block_lt_of_cell? _ _ (hHeld.2.2.1))).trans (hHeld.2.2.1)
               have HS3_ := (hb.cell (World.block_lt_of_cell? _ _ (hHeld.2.2.2))).trans (hHeld.2.2.2)
               refine ⟨_, rfl, ?_⟩
               have n0_ := Aside0.mk (Kd.Q_below (qm HO_3.out) hb)
               have n1_ := Aside0.mk (Kd.R_below (rm HO_6.out) hb)
               have n2_ := Aside0.mk (Kd.R_below (rm HO_7.out) hb)
               have n3_ := Aside0.mk (Kd.R_below (rm HO_9.out) hb)
               have n4_ := Aside0.mk (Kd.R_below (rm HO_10.out) hb)
               have n5_ := Aside0.mk (below_step (lb HB.out) hb)
               clear HO_3 HO_6 HO_7 HO_9 HO_10 HB
               have HO_3 := n0_
               have HO_6 := n1_
               have HO_7 := n2_
               have HO_9 := n3_
               have HO_10 := n4_
               have HB := n5_
               clear n0_ n1_ n2_ n3_ n4_ n5_
               (try clear hb);(try clear hb2);(try clear hk);(try clear hi)
               refine hK.out _ _ ⟨HS0_, HS1_, HS2_, HS3_⟩ (fun hHeld => ?_)
               clear hK K
               refine norm_ (a' := ?_) ?_ ?_
               rotate_left
               ·show Act.put _ (some 99) _ = _
                simp only [Act.put, List.setIfInBounds_toArray, List.set_cons_zero, List.set_cons_succ, i64_w, i32_w]
                rfl
               refine pq_ 9 (some 18) ?_
               refine done_ (done_of HT_.out (by kernel_rfl)) ?_
               try go_wp2_with (first | (go_at_call 13; (with_reducible refine (impl_ParcelValid.calls _ _ t411 true _ ?side1 ?side2 A49.out).mono ?_); (case side1 => exact cm (Kd.R_reads' HO_6.out).2.2); (case side2 => exact (Kd.R_reads' HO_6.out).2.1); rintro e w90 ⟨rfl, hb⟩; have n0_ := Aside0.mk (Kd.Q_below (qm HO_3.out) hb); have n1_ := Aside0.mk (Kd.R_below (rm HO_6.out) hb); have n2_ := Aside0.mk (Kd.R_below (rm HO_7.out) hb); have n3_ := Aside0.mk (Kd.R_below (rm HO_9.out) hb); have n4_ := Aside0.mk (Kd.R_below (rm HO_10.out) hb); have n5_ := Aside0.mk (below_step (lb HB.out) hb); clear HO_3; clear HO_6; clear HO_7; clear HO_9; clear HO_10; clear HB; have HO_3 := n0_; have HO_6 := n1_; have HO_7 := n2_; have HO_9 := n3_; have HO_10 := n4_; have HB := n5_; clear n0_ n1_ n2_ n3_ n4_ n5_; (try clear hb); (try clear hb2); (try clear hk); (try clear hi)) | (go_at_call 13; (with_reducible refine (impl_ParcelValid.calls _ _ t412 false _ ?side1 ?side2 A51.out).mono ?_); (case side1 => exact cm (Kd.R_reads' HO_7.out).2.2); (case side2 => exact (Kd.R_reads' HO_7.out).2.1); rintro e w91 ⟨rfl, hb⟩; have n0_ := Aside0.mk (Kd.Q_below (qm HO_3.out) hb); have n1_ := Aside0.mk (Kd.R_below (rm HO_6.out) hb); have n2_ := Aside0.mk (Kd.R_below (rm HO_7.out) hb); have n3_ := Aside0.mk (Kd.R_below (rm HO_9.out) hb); have n4_ := Aside0.mk (Kd.R_below (rm HO_10.out) hb); have n5_ := Aside0.mk (below_step (lb HB.out) hb); clear HO_3; clear HO_6; clear HO_7; clear HO_9; clear HO_10; clear HB; have HO_3 := n0_; have HO_6 := n1_; have HO_7 := n2_; have HO_9 := n3_; have HO_10 := n4_; have HB := n5_; clear n0_ n1_ n2_ n3_ n4_ n5_; (try clear hb); (try clear hb2); (try clear hk); (try clear hi)))
               go_ret
               exact ⟨er, lb HB.out⟩
             ·replace c50 := Bool.eq_false_iff.mpr c50
              subst c50
              have H1 : (some false) = some r := by rw [if_neg (show ¬ (false = true) by decide)] at H; exact H
              clear H
              have H := H1
              clear H1
              obtain rfl := Option.some.inj H
              obtain ⟨Ao92, co92, eo92⟩ := Kd.R_slice HO_6.out
              subst eo92
              try go_wp2_with (first | ((with_reducible refine gate_callee (f := 11) rfl ?_); refine goesL_ (some 78) rfl rfl Try.func11 (by kernel_rfl) rfl #[.slice Ao92 t411.length co92] rfl al ?_; (with_reducible refine (impl_PolyArea.calls _ _ t411 t429 true _ ?side1 ?side2 A37.out).mono ?_); (case side1 => exact cm (Kd.R_reads' HO_6.out).2.2); (case side2 => exact (Kd.R_reads' HO_6.out).2.1); rintro e w93 ⟨rfl, hb⟩; refine ⟨_, rfl, ?_⟩; have n0_ := Aside0.mk (Kd.Q_below (qm HO_3.out) hb); have n1_ := Aside0.mk (Kd.R_below (rm HO_6.out) hb); have n2_ := Aside0.mk (Kd.R_below (rm HO_7.out) hb); have n3_ := Aside0.mk (Kd.R_below (rm HO_9.out) hb); have n4_ := Aside0.mk (Kd.R_below (rm HO_10.out) hb); have n5_ := Aside0.mk (below_step (lb HB.out) hb); clear HO_3; clear HO_6; clear HO_7; clear HO_9; clear HO_10; clear HB; have HO_3 := n0_; have HO_6 := n1_; have HO_7 := n2_; have HO_9 := n3_; have HO_10 := n4_; have HB := n5_; clear n0_ n1_ n2_ n3_ n4_ n5_; (try clear hb); (try clear hb2); (try clear hk); (try clear hi); obtain ⟨Ao94, co94, eo94⟩ := Kd.R_slice HO_7.out; subst eo94) | ((with_reducible refine gate_callee (f := 11) rfl ?_); refine goesL_ (some 83) rfl rfl Try.func11 (by kernel_rfl) rfl #[.slice Ao94 t412.length co94] rfl al ?_; (with_reducible refine (impl_PolyArea.calls _ _ t412 t431 true _ ?side1 ?side2 A38.out).mono ?_); (case side1 => exact cm (Kd.R_reads' HO_7.out).2.2); (case side2 => exact (Kd.R_reads' HO_7.out).2.1); rintro e w95 ⟨rfl, hb⟩; refine ⟨_, rfl, ?_⟩; have n0_ := Aside0.mk (Kd.Q_below (qm HO_3.out) hb); have n1_ := Aside0.mk (Kd.R_below (rm HO_6.out) hb); have n2_ := Aside0.mk (Kd.R_below (rm HO_7.out) hb); have n3_ := Aside0.mk (Kd.R_below (rm HO_9.out) hb); have n4_ := Aside0.mk (Kd.R_below (rm HO_10.out) hb); have n5_ := Aside0.mk (below_step (lb HB.out) hb); clear HO_3; clear HO_6; clear HO_7; clear HO_9; clear HO_10; clear HB; have HO_3 := n0_; have HO_6 := n1_; have HO_7 := n2_; have HO_9 := n3_; have HO_10 := n4_; have HB := n5_; clear n0_ n1_ n2_ n3_ n4_ n5_; (try clear hb); (try clear hb2); (try clear hk); (try clear hi)) | ((with_reducible refine gate_callee (f := 11) rfl ?_); refine goesL_ (some 88) rfl rfl Try.func11 (by kernel_rfl) rfl #[.slice Ao8 t406.length co8] rfl al ?_; (with_reducible refine (impl_PolyArea.calls _ _ t406 t433 true _ ?side1 ?side2 A39.out).mono ?_); (case side1 => repeat (first | exact (Kd.Q_reads' HO_3.out).2.2 | (with_reducible refine Kd.C_alloc ?_ _) | (with_reducible refine Kd.C_drewN ?_ _) | (with_reducible refine Kd.C_drew ?_))); (case side2 => exact (Kd.Q_reads' HO_3.out).2.1); rintro e w96 ⟨rfl, hb⟩; refine ⟨_, rfl, ?_⟩; have n0_ := Aside0.mk (Kd.Q_below (qm HO_3.out) hb); have n1_ := Aside0.mk (Kd.R_below (rm HO_6.out) hb); have n2_ := Aside0.mk (Kd.R_below (rm HO_7.out) hb); have n3_ := Aside0.mk (Kd.R_below (rm HO_9.out) hb); have n4_ := Aside0.mk (Kd.R_below (rm HO_10.out) hb); have n5_ := Aside0.mk (below_step (lb HB.out) hb); clear HO_3; clear HO_6; clear HO_7; clear HO_9; clear HO_10; clear HB; have HO_3 := n0_; have HO_6 := n1_; have HO_7 := n2_; have HO_9 := n3_; have HO_10 := n4_; have HB := n5_; clear n0_ n1_ n2_ n3_ n4_ n5_; (try clear hb); (try clear hb2); (try clear hk); (try clear hi)))
              have n0_ := Aside0.mk (Kd.Q_drew HO_3.out)
              have n1_ := Aside0.mk (Kd.R_drew HO_6.out)
              have n2_ := Aside0.mk (Kd.R_drew HO_7.out)
              have n3_ := Aside0.mk (Kd.R_drew HO_9.out)
              have n4_ := Aside0.mk (Kd.R_drew HO_10.out)
              have n5_ := Aside0.mk (below_drew1 HB.out)
              clear HO_3 HO_6 HO_7 HO_9 HO_10 HB
              have HO_3 := n0_
              have HO_6 := n1_
              have HO_7 := n2_
              have HO_9 := n3_
              have HO_10 := n4_
              have HB := n5_
              clear n0_ n1_ n2_ n3_ n4_ n5_
              have p435 : 0 ≤ (t407 : Int) := oa
              have q435 : t407 < (t406.length : Int) := oa
              obtain ⟨ad435, e435, hx435_0, hx435_1⟩ := at_T33 (Kd.Q_reads' HO_3.out).2.2 t407 p435 q435
              cases e435
              replace p435 := eq_true p435
              replace q435 := eq_true q435
              have p436 : 0 ≤ (t408 : Int) := oa
              have q436 : t408 < (t406.length : Int) := oa
              obtain ⟨ad436, e436, hx436_0, hx436_1⟩ := at_T33 (Kd.Q_reads' HO_3.out).2.2 t408 p436 q436
              obtain rfl : ad435 = ad436 := (by injection e436)
              replace p436 := eq_true p436
              replace q436 := eq_true q436
              refine start_ (n := 10) (S := fun w' => w'.cell? (ad435.add ((t407).toNat * 2)) = some (.int .i64 ((rd_T33 t406 t407).f0)) ∧ w'.cell? ⟨(ad435.add ((t407).toNat * 2)).block, (ad435.add ((t407).toNat * 2)).off + 1, none⟩ = some (.int .i64 ((rd_T33 t406 t407).f1)) ∧ w'.cell? (ad435.add ((t408).toNat * 2)) = some (.int .i64 ((rd_T33 t406 t408).f0)) ∧ w'.cell? ⟨(ad435.add ((t408).toNat * 2)).block, (ad435.add ((t408).toNat * 2)).off + 1, none⟩ = some (.int .i64 ((rd_T33 t406 t408).f1))) (ds := []) #[false,false,false,false,false,false,false,false,false,false] (by kernel_rfl) rfl rfl ⟨hx435_0, hx435_1, hx436_0, hx436_1⟩ (fun hHeld => ?_); refine with_tabW laws_FnSplit.tab11 laws_FnSplit.bits11 (fun HT_ HW_ => ?_)
              generalize w96.drew = w97 at HO_3 HO_6 HO_7 HO_9 HO_10 HB hx435_0 hx435_1 hx436_0 hx436_1 hHeld ⊢
              refine pq_ 0 (some 91) ?_
              refine pq_ 1 (some 92) ?_
              refine pq_ 2 (some 93) ?_
              refine pq_ 4 (some 95) ?_
              refine pq_ 5 (some 96) ?_
              refine pq_ 6 (some 97) ?_
              refine tq_ 3 (some 94) ?_
              refine tq_ 7 (some 98) ?_
              refine one_ (i := 8) (N := some 99) #[true,true,true,true,true,true,true,true,true,false] rfl rfl (one_of HT_.out (by kernel_rfl)) (by decide) (fun K hK => ?_)
              refine goes_ Try.func12 (by kernel_rfl) rfl #[.agg #[.int .i64 ((rd_T33 t406 t407).f0), .int .i64 ((rd_T33 t406 t407).f1)], .agg #[.int .i64 ((rd_T33 t406 t408).f0), .int .i64 ((rd_T33 t406 t408).f1)]] (by rfl) rfl rfl al ?_
              with_reducible refine (impl_PointGaps.calls ((rd_T33 t406 t407).f0) ((rd_T33 t406 t407).f1) ((rd_T33 t406 t408).f0) ((rd_T33 t406 t408).f1) t437 _ A44.out).mono ?_
              rintro e w98 ⟨rfl, hb⟩
              have HS0_ := (hb.cell (World.block_lt_of_cell? _ _ (hHeld.1))).trans (hHeld.1)
              have HS1_ := (hb.cell (World.block_lt_of_cell? _ _ (hHeld.2.1))).trans (hHeld.2.1)
              have HS2_ := (hb.cell (World.block_lt_of_cell? _ _ (hHeld.2.2.1))).trans (hHeld.2.2.1)
              have HS3_ := (hb.cell (World.block_lt_of_cell? _ _ (hHeld.2.2.2))).trans (hHeld.2.2.2)
              refine ⟨_, rfl, ?_⟩
              have n0_ := Aside0.mk (Kd.Q_below (qm HO_3.out) hb)
              have n1_ := Aside0.mk (Kd.R_below (rm HO_6.out) hb)
              have n2_ := Aside0.mk (Kd.R_below (rm HO_7.out) hb)
              have n3_ := Aside0.mk (Kd.R_below (rm HO_9.out) hb)
              have n4_ := Aside0.mk (Kd.R_below (rm HO_10.out) hb)
              have n5_ := Aside0.mk (below_step (lb HB.out) hb)
              clear HO_3 HO_6 HO_7 HO_9 HO_10 HB
              have HO_3 := n0_
              have HO_6 := n1_
              have HO_7 := n2_
              have HO_9 := n3_
              have HO_10 := n4_
              have HB := n5_
              clear n0_ n1_ n2_ n3_ n4_ n5_
              (try clear hb);(try clear hb2);(try clear hk);(try clear hi)
              refine hK.out _ _ ⟨HS0_, HS1_, HS2_, HS3_⟩ (fun hHeld => ?_)
              clear hK K
              refine norm_ (a' := ?_) ?_ ?_
              rotate_left
              ·show Act.put _ (some 99) _ = _
               simp only [Act.put, List.setIfInBounds_toArray, List.set_cons_zero, List.set_cons_succ, i64_w, i32_w]
               rfl
              refine pq_ 9 (some 18) ?_
              refine done_ (done_of HT_.out (by kernel_rfl)) ?_
              try go_wp2_with (first | (go_at_call 13; (with_reducible refine (impl_ParcelValid.calls _ _ t411 false _ ?side1 ?side2 A49.out).mono ?_); (case side1 => exact cm (Kd.R_reads' HO_6.out).2.2); (case side2 => exact (Kd.R_reads' HO_6.out).2.1); rintro e w99 ⟨rfl, hb⟩; have n0_ := Aside0.mk (Kd.Q_below (qm HO_3.out) hb); have n1_ := Aside0.mk (Kd.R_below (rm HO_6.out) hb); have n2_ := Aside0.mk (Kd.R_below (rm HO_7.out) hb); have n3_ := Aside0.mk (Kd.R_below (rm HO_9.out) hb); have n4_ := Aside0.mk (Kd.R_below (rm HO_10.out) hb); have n5_ := Aside0.mk (below_step (lb HB.out) hb); clear HO_3; clear HO_6; clear HO_7; clear HO_9; clear HO_10; clear HB; have HO_3 := n0_; have HO_6 := n1_; have HO_7 := n2_; have HO_9 := n3_; have HO_10 := n4_; have HB := n5_; clear n0_ n1_ n2_ n3_ n4_ n5_; (try clear hb); (try clear hb2); (try clear hk); (try clear hi)))
              go_ret
              exact ⟨er, lb HB.out⟩
            ·rw [if_neg c48] at H
             have c48b0 : ((wrap64 (t429 + t431)) == t433) = false := beq_eq_false_iff_ne.mpr c48
             have c48b1 : ((wrap64 (t429 + t431)) != t433) = true := bne_iff_ne.mpr c48
             obtain rfl := Option.some.inj H
             obtain ⟨Ao100, co100, eo100⟩ := Kd.R_slice HO_6.out
             subst eo100
             try go_wp2_with (first | ((with_reducible refine gate_callee (f := 11) rfl ?_); refine goesL_ (some 78) rfl rfl Try.func11 (by kernel_rfl) rfl #[.slice Ao100 t411.length co100] rfl al ?_; (with_reducible refine (impl_PolyArea.calls _ _ t411 t429 true _ ?side1 ?side2 A37.out).mono ?_); (case side1 => exact cm (Kd.R_reads' HO_6.out).2.2); (case side2 => exact (Kd.R_reads' HO_6.out).2.1); rintro e w101 ⟨rfl, hb⟩; refine ⟨_, rfl, ?_⟩; have n0_ := Aside0.mk (Kd.Q_below (qm HO_3.out) hb); have n1_ := Aside0.mk (Kd.R_below (rm HO_6.out) hb); have n2_ := Aside0.mk (Kd.R_below (rm HO_7.out) hb); have n3_ := Aside0.mk (Kd.R_below (rm HO_9.out) hb); have n4_ := Aside0.mk (Kd.R_below (rm HO_10.out) hb); have n5_ := Aside0.mk (below_step (lb HB.out) hb); clear HO_3; clear HO_6; clear HO_7; clear HO_9; clear HO_10; clear HB; have HO_3 := n0_; have HO_6 := n1_; have HO_7 := n2_; have HO_9 := n3_; have HO_10 := n4_; have HB := n5_; clear n0_ n1_ n2_ n3_ n4_ n5_; (try clear hb); (try clear hb2); (try clear hk); (try clear hi); obtain ⟨Ao102, co102, eo102⟩ := Kd.R_slice HO_7.out; subst eo102) | ((with_reducible refine gate_callee (f := 11) rfl ?_); refine goesL_ (some 83) rfl rfl Try.func11 (by kernel_rfl) rfl #[.slice Ao102 t412.length co102] rfl al ?_; (with_reducible refine (impl_PolyArea.calls _ _ t412 t431 true _ ?side1 ?side2 A38.out).mono ?_); (case side1 => exact cm (Kd.R_reads' HO_7.out).2.2); (case side2 => exact (Kd.R_reads' HO_7.out).2.1); rintro e w103 ⟨rfl, hb⟩; refine ⟨_, rfl, ?_⟩; have n0_ := Aside0.mk (Kd.Q_below (qm HO_3.out) hb); have n1_ := Aside0.mk (Kd.R_below (rm HO_6.out) hb); have n2_ := Aside0.mk (Kd.R_below (rm HO_7.out) hb); have n3_ := Aside0.mk (Kd.R_below (rm HO_9.out) hb); have n4_ := Aside0.mk (Kd.R_below (rm HO_10.out) hb); have n5_ := Aside0.mk (below_step (lb HB.out) hb); clear HO_3; clear HO_6; clear HO_7; clear HO_9; clear HO_10; clear HB; have HO_3 := n0_; have HO_6 := n1_; have HO_7 := n2_; have HO_9 := n3_; have HO_10 := n4_; have HB := n5_; clear n0_ n1_ n2_ n3_ n4_ n5_; (try clear hb); (try clear hb2); (try clear hk); (try clear hi)) | ((with_reducible refine gate_callee (f := 11) rfl ?_); refine goesL_ (some 88) rfl rfl Try.func11 (by kernel_rfl) rfl #[.slice Ao8 t406.length co8] rfl al ?_; (with_reducible refine (impl_PolyArea.calls _ _ t406 t433 true _ ?side1 ?side2 A39.out).mono ?_); (case side1 => repeat (first | exact (Kd.Q_reads' HO_3.out).2.2 | (with_reducible refine Kd.C_alloc ?_ _) | (with_reducible refine Kd.C_drewN ?_ _) | (with_reducible refine Kd.C_drew ?_))); (case side2 => exact (Kd.Q_reads' HO_3.out).2.1); rintro e w104 ⟨rfl, hb⟩; refine ⟨_, rfl, ?_⟩; have n0_ := Aside0.mk (Kd.Q_below (qm HO_3.out) hb); have n1_ := Aside0.mk (Kd.R_below (rm HO_6.out) hb); have n2_ := Aside0.mk (Kd.R_below (rm HO_7.out) hb); have n3_ := Aside0.mk (Kd.R_below (rm HO_9.out) hb); have n4_ := Aside0.mk (Kd.R_below (rm HO_10.out) hb); have n5_ := Aside0.mk (below_step (lb HB.out) hb); clear HO_3; clear HO_6; clear HO_7; clear HO_9; clear HO_10; clear HB; have HO_3 := n0_; have HO_6 := n1_; have HO_7 := n2_; have HO_9 := n3_; have HO_10 := n4_; have HB := n5_; clear n0_ n1_ n2_ n3_ n4_ n5_; (try clear hb); (try clear hb2); (try clear hk); (try clear hi)))
             have n0_ := Aside0.mk (Kd.Q_drew HO_3.out)
             have n1_ := Aside0.mk (Kd.R_drew HO_6.out)
             have n2_ := Aside0.mk (Kd.R_drew HO_7.out)
             have n3_ := Aside0.mk (Kd.R_drew HO_9.out)
             have n4_ := Aside0.mk (Kd.R_drew HO_10.out)
             have n5_ := Aside0.mk (below_drew1 HB.out)
             clear HO_3 HO_6 HO_7 HO_9 HO_10 HB
             have HO_3 := n0_
             have HO_6 := n1_
             have HO_7 := n2_
             have HO_9 := n3_
             have HO_10 := n4_
             have HB := n5_
             clear n0_ n1_ n2_ n3_ n4_ n5_
             have p435 : 0 ≤ (t407 : Int) := oa
             have q435 : t407 < (t406.length : Int) := oa
             obtain ⟨ad435, e435, hx435_0, hx435_1⟩ := at_T33 (Kd.Q_reads' HO_3.out).2.2 t407 p435 q435
             cases e435
             replace p435 := eq_true p435
             replace q435 := eq_true q435
             have p436 : 0 ≤ (t408 : Int) := oa
             have q436 : t408 < (t406.length : Int) := oa
             obtain ⟨ad436, e436, hx436_0, hx436_1⟩ := at_T33 (Kd.Q_reads' HO_3.out).2.2 t408 p436 q436
             obtain rfl : ad435 = ad436 := (by injection e436)
             replace p436 := eq_true p436
             replace q436 := eq_true q436
             refine start_ (n := 10) (S := fun w' => w'.cell? (ad435.add ((t407).toNat * 2)) = some (.int .i64 ((rd_T33 t406 t407).f0)) ∧ w'.cell? ⟨(ad435.add ((t407).toNat * 2)).block, (ad435.add ((t407).toNat * 2)).off + 1, none⟩ = some (.int .i64 ((rd_T33 t406 t407).f1)) ∧ w'.cell? (ad435.add ((t408).toNat * 2)) = some (.int .i64 ((rd_T33 t406 t408).f0)) ∧ w'.cell? ⟨(ad435.add ((t408).toNat * 2)).block, (ad435.add ((t408).toNat * 2)).off + 1, none⟩ = some (.int .i64 ((rd_T33 t406 t408).f1))) (ds := []) #[false,false,false,false,false,false,false,false,false,false] (by kernel_rfl) rfl rfl ⟨hx435_0, hx435_1, hx436_0, hx436_1⟩ (fun hHeld => ?_); refine with_tabW laws_FnSplit.tab11 laws_FnSplit.bits11 (fun HT_ HW_ => ?_)
             generalize w104.drew = w105 at HO_3 HO_6 HO_7 HO_9 HO_10 HB hx435_0 hx435_1 hx436_0 hx436_1 hHeld ⊢
             refine pq_ 0 (some 91) ?_
             refine pq_ 1 (some 92) ?_
             refine pq_ 2 (some 93) ?_
             refine pq_ 4 (some 95) ?_
             refine pq_ 5 (some 96) ?_
             refine pq_ 6 (some 97) ?_
             refine tq_ 3 (some 94) ?_
             refine tq_ 7 (some 98) ?_
             refine one_ (i := 8) (N := some 99) #[true,true,true,true,true,true,true,true,true,false] rfl rfl (one_of HT_.out (by kernel_rfl)) (by decide) (fun K hK => ?_)
             refine goes_ Try.func12 (by kernel_rfl) rfl #[.agg #[.int .i64 ((rd_T33 t406 t407).f0), .int .i64 ((rd_T33 t406 t407).f1)], .agg #[.int .i64 ((rd_T33 t406 t408).f0), .int .i64 ((rd_T33 t406 t408).f1)]] (by rfl) rfl rfl al ?_
             with_reducible refine (impl_PointGaps.calls ((rd_T33 t406 t407).f0) ((rd_T33 t406 t407).f1) ((rd_T33 t406 t408).f0) ((rd_T33 t406 t408).f1) t437 _ A44.out).mono ?_
             rintro e w106 ⟨rfl, hb⟩
             have HS0_ := (hb.cell (World.block_lt_of_cell? _ _ (hHeld.1))).trans (hHeld.1)
             have HS1_ := (hb.cell (World.block_lt_of_cell? _ _ (hHeld.2.1))).trans (hHeld.2.1)
             have HS2_ := (hb.cell (World.block_lt_of_cell? _ _ (hHeld.2.2.1))).trans (hHeld.2.2.1)
             have HS3_ := (hb.cell (World.block_lt_of_cell? _ _ (hHeld.2.2.2))).trans (hHeld.2.2.2)
             refine ⟨_, rfl, ?_⟩
             have n0_ := Aside0.mk (Kd.Q_below (qm HO_3.out) hb)
             have n1_ := Aside0.mk (Kd.R_below (rm HO_6.out) hb)
             have n2_ := Aside0.mk (Kd.R_below (rm HO_7.out) hb)
             have n3_ := Aside0.mk (Kd.R_below (rm HO_9.out) hb)
             have n4_ := Aside0.mk (Kd.R_below (rm HO_10.out) hb)
             have n5_ := Aside0.mk (below_step (lb HB.out) hb)
             clear HO_3 HO_6 HO_7 HO_9 HO_10 HB
             have HO_3 := n0_
             have HO_6 := n1_
             have HO_7 := n2_
             have HO_9 := n3_
             have HO_10 := n4_
             have HB := n5_
             clear n0_ n1_ n2_ n3_ n4_ n5_
             (try clear hb);(try clear hb2);(try clear hk);(try clear hi)
             refine hK.out _ _ ⟨HS0_, HS1_, HS2_, HS3_⟩ (fun hHeld => ?_)
             clear hK K
             refine norm_ (a' := ?_) ?_ ?_
             rotate_left
             ·show Act.put _ (some 99) _ = _
              simp only [Act.put, List.setIfInBounds_toArray, List.set_cons_zero, List.set_cons_succ, i64_w, i32_w]
              rfl
             refine pq_ 9 (some 18) ?_
             refine done_ (done_of HT_.out (by kernel_rfl)) ?_
             try go_wp2
             go_ret
             exact ⟨er, lb HB.out⟩
           ·replace c47 := Bool.eq_false_iff.mpr c47
            subst c47
            have H1 : (some false) = some r := by rw [if_neg (show ¬ (false = true) by decide)] at H; exact H
            clear H
            have H := H1
            clear H1
            obtain rfl := Option.some.inj H
            obtain ⟨Ao107, co107, eo107⟩ := Kd.R_slice HO_6.out
            subst eo107
            try go_wp2_with (first | ((with_reducible refine gate_callee (f := 11) rfl ?_); refine goesL_ (some 78) rfl rfl Try.func11 (by kernel_rfl) rfl #[.slice Ao107 t411.length co107] rfl al ?_; (with_reducible refine (impl_PolyArea.calls _ _ t411 t429 true _ ?side1 ?side2 A37.out).mono ?_); (case side1 => exact cm (Kd.R_reads' HO_6.out).2.2); (case side2 => exact (Kd.R_reads' HO_6.out).2.1); rintro e w108 ⟨rfl, hb⟩; refine ⟨_, rfl, ?_⟩; have n0_ := Aside0.mk (Kd.Q_below (qm HO_3.out) hb); have n1_ := Aside0.mk (Kd.R_below (rm HO_6.out) hb); have n2_ := Aside0.mk (Kd.R_below (rm HO_7.out) hb); have n3_ := Aside0.mk (Kd.R_below (rm HO_9.out) hb); have n4_ := Aside0.mk (Kd.R_below (rm HO_10.out) hb); have n5_ := Aside0.mk (below_step (lb HB.out) hb); clear HO_3; clear HO_6; clear HO_7; clear HO_9; clear HO_10; clear HB; have HO_3 := n0_; have HO_6 := n1_; have HO_7 := n2_; have HO_9 := n3_; have HO_10 := n4_; have HB := n5_; clear n0_ n1_ n2_ n3_ n4_ n5_; (try clear hb); (try clear hb2); (try clear hk); (try clear hi); obtain ⟨Ao109, co109, eo109⟩ := Kd.R_slice HO_7.out; subst eo109) | ((with_reducible refine gate_callee (f := 11) rfl ?_); refine goesL_ (some 83) rfl rfl Try.func11 (by kernel_rfl) rfl #[.slice Ao109 t412.length co109] rfl al ?_; (with_reducible refine (impl_PolyArea.calls _ _ t412 t431 true _ ?side1 ?side2 A38.out).mono ?_); (case side1 => exact cm (Kd.R_reads' HO_7.out).2.2); (case side2 => exact (Kd.R_reads' HO_7.out).2.1); rintro e w110 ⟨rfl, hb⟩; refine ⟨_, rfl, ?_⟩; have n0_ := Aside0.mk (Kd.Q_below (qm HO_3.out) hb); have n1_ := Aside0.mk (Kd.R_below (rm HO_6.out) hb); have n2_ := Aside0.mk (Kd.R_below (rm HO_7.out) hb); have n3_ := Aside0.mk (Kd.R_below (rm HO_9.out) hb); have n4_ := Aside0.mk (Kd.R_below (rm HO_10.out) hb); have n5_ := Aside0.mk (below_step (lb HB.out) hb); clear HO_3; clear HO_6; clear HO_7; clear HO_9; clear HO_10; clear HB; have HO_3 := n0_; have HO_6 := n1_; have HO_7 := n2_; have HO_9 := n3_; have HO_10 := n4_; have HB := n5_; clear n0_ n1_ n2_ n3_ n4_ n5_; (try clear hb); (try clear hb2); (try clear hk); (try clear hi)) | ((with_reducible refine gate_callee (f := 11) rfl ?_); refine goesL_ (some 88) rfl rfl Try.func11 (by kernel_rfl) rfl #[.slice Ao8 t406.length co8] rfl al ?_; (with_reducible refine (impl_PolyArea.calls _ _ t406 t433 false _ ?side1 ?side2 A39.out).mono ?_); (case side1 => repeat (first | exact (Kd.Q_reads' HO_3.out).2.2 | (with_reducible refine Kd.C_alloc ?_ _) | (with_reducible refine Kd.C_drewN ?_ _) | (with_reducible refine Kd.C_drew ?_))); (case side2 => exact (Kd.Q_reads' HO_3.out).2.1); rintro e w111 ⟨rfl, hb⟩; refine ⟨_, rfl, ?_⟩; have n0_ := Aside0.mk (Kd.Q_below (qm HO_3.out) hb); have n1_ := Aside0.mk (Kd.R_below (rm HO_6.out) hb); have n2_ := Aside0.mk (Kd.R_below (rm HO_7.out) hb); have n3_ := Aside0.mk (Kd.R_below (rm HO_9.out) hb); have n4_ := Aside0.mk (Kd.R_below (rm HO_10.out) hb); have n5_ := Aside0.mk (below_step (lb HB.out) hb); clear HO_3; clear HO_6; clear HO_7; clear HO_9; clear HO_10; clear HB; have HO_3 := n0_; have HO_6 := n1_; have HO_7 := n2_; have HO_9 := n3_; have HO_10 := n4_; have HB := n5_; clear n0_ n1_ n2_ n3_ n4_ n5_; (try clear hb); (try clear hb2); (try clear hk); (try clear hi)))
            have n0_ := Aside0.mk (Kd.Q_drew HO_3.out)
            have n1_ := Aside0.mk (Kd.R_drew HO_6.out)
            have n2_ := Aside0.mk (Kd.R_drew HO_7.out)
            have n3_ := Aside0.mk (Kd.R_drew HO_9.out)
            have n4_ := Aside0.mk (Kd.R_drew HO_10.out)
            have n5_ := Aside0.mk (below_drew1 HB.out)
            clear HO_3 HO_6 HO_7 HO_9 HO_10 HB
            have HO_3 := n0_
            have HO_6 := n1_
            have HO_7 := n2_
            have HO_9 := n3_
            have HO_10 := n4_
            have HB := n5_
            clear n0_ n1_ n2_ n3_ n4_ n5_
            have p435 : 0 ≤ (t407 : Int) := oa
            have q435 : t407 < (t406.length : Int) := oa
            obtain ⟨ad435, e435, hx435_0, hx435_1⟩ := at_T33 (Kd.Q_reads' HO_3.out).2.2 t407 p435 q435
            cases e435
            replace p435 := eq_true p435
            replace q435 := eq_true q435
            have p436 : 0 ≤ (t408 : Int) := oa
            have q436 : t408 < (t406.length : Int) := oa
            obtain ⟨ad436, e436, hx436_0, hx436_1⟩ := at_T33 (Kd.Q_reads' HO_3.out).2.2 t408 p436 q436
            obtain rfl : ad435 = ad436 := (by injection e436)
            replace p436 := eq_true p436
            replace q436 := eq_true q436
            refine start_ (n := 10) (S := fun w' => w'.cell? (ad435.add ((t407).toNat * 2)) = some (.int .i64 ((rd_T33 t406 t407).f0)) ∧ w'.cell? ⟨(ad435.add ((t407).toNat * 2)).block, (ad435.add ((t407).toNat * 2)).off + 1, none⟩ = some (.int .i64 ((rd_T33 t406 t407).f1)) ∧ w'.cell? (ad435.add ((t408).toNat * 2)) = some (.int .i64 ((rd_T33 t406 t408).f0)) ∧ w'.cell? ⟨(ad435.add ((t408).toNat * 2)).block, (ad435.add ((t408).toNat * 2)).off + 1, none⟩ = some (.int .i64 ((rd_T33 t406 t408).f1))) (ds := []) #[false,false,false,false,false,false,false,false,false,false] (by kernel_rfl) rfl rfl ⟨hx435_0, hx435_1, hx436_0, hx436_1⟩ (fun hHeld => ?_); refine with_tabW laws_FnSplit.tab11 laws_FnSplit.bits11 (fun HT_ HW_ => ?_)
            generalize w111.drew = w112 at HO_3 HO_6 HO_7 HO_9 HO_10 HB hx435_0 hx435_1 hx436_0 hx436_1 hHeld ⊢
            refine pq_ 0 (some 91) ?_
            refine pq_ 1 (some 92) ?_
            refine pq_ 2 (some 93) ?_
            refine pq_ 4 (some 95) ?_
            refine pq_ 5 (some 96) ?_
            refine pq_ 6 (some 97) ?_
            refine tq_ 3 (some 94) ?_
            refine tq_ 7 (some 98) ?_
            refine one_ (i := 8) (N := some 99) #[true,true,true,true,true,true,true,true,true,false] rfl rfl (one_of HT_.out (by kernel_rfl)) (by decide) (fun K hK => ?_)
            refine goes_ Try.func12 (by kernel_rfl) rfl #[.agg #[.int .i64 ((rd_T33 t406 t407).f0), .int .i64 ((rd_T33 t406 t407).f1)], .agg #[.int .i64 ((rd_T33 t406 t408).f0), .int .i64 ((rd_T33 t406 t408).f1)]] (by rfl) rfl rfl al ?_
            with_reducible refine (impl_PointGaps.calls ((rd_T33 t406 t407).f0) ((rd_T33 t406 t407).f1) ((rd_T33 t406 t408).f0) ((rd_T33 t406 t408).f1) t437 _ A44.out).mono ?_
            rintro e w113 ⟨rfl, hb⟩
            have HS0_ := (hb.cell (World.block_lt_of_cell? _ _ (hHeld.1))).trans (hHeld.1)
            have HS1_ := (hb.cell (World.block_lt_of_cell? _ _ (hHeld.2.1))).trans (hHeld.2.1)
            have HS2_ := (hb.cell (World.block_lt_of_cell? _ _ (hHeld.2.2.1))).trans (hHeld.2.2.1)
            have HS3_ := (hb.cell (World.block_lt_of_cell? _ _ (hHeld.2.2.2))).trans (hHeld.2.2.2)
            refine ⟨_, rfl, ?_⟩
            have n0_ := Aside0.mk (Kd.Q_below (qm HO_3.out) hb)
            have n1_ := Aside0.mk (Kd.R_below (rm HO_6.out) hb)
            have n2_ := Aside0.mk (Kd.R_below (rm HO_7.out) hb)
            have n3_ := Aside0.mk (Kd.R_below (rm HO_9.out) hb)
            have n4_ := Aside0.mk (Kd.R_below (rm HO_10.out) hb)
            have n5_ := Aside0.mk (below_step (lb HB.out) hb)
            clear HO_3 HO_6 HO_7 HO_9 HO_10 HB
            have HO_3 := n0_
            have HO_6 := n1_
            have HO_7 := n2_
            have HO_9 := n3_
            have HO_10 := n4_
            have HB := n5_
            clear n0_ n1_ n2_ n3_ n4_ n5_
            (try clear hb);(try clear hb2);(try clear hk);(try clear hi)
            refine hK.out _ _ ⟨HS0_, HS1_, HS2_, HS3_⟩ (fun hHeld => ?_)
            clear hK K
            refine norm_ (a' := ?_) ?_ ?_
            rotate_left
            ·show Act.put _ (some 99) _ = _
             simp only [Act.put, List.setIfInBounds_toArray, List.set_cons_zero, List.set_cons_succ, i64_w, i32_w]
             rfl
            refine pq_ 9 (some 18) ?_
            refine done_ (done_of HT_.out (by kernel_rfl)) ?_
            try go_wp2
            go_ret
            exact ⟨er, lb HB.out⟩
          ·replace c46 := Bool.eq_false_iff.mpr c46
           subst c46
           have H1 : (some false) = some r := by rw [if_neg (show ¬ (false = true) by decide)] at H; exact H
           clear H
           have H := H1
           clear H1
           obtain rfl := Option.some.inj H
           obtain ⟨Ao114, co114, eo114⟩ := Kd.R_slice HO_6.out
           subst eo114
           try go_wp2_with (first | ((with_reducible refine gate_callee (f := 11) rfl ?_); refine goesL_ (some 78) rfl rfl Try.func11 (by kernel_rfl) rfl #[.slice Ao114 t411.length co114] rfl al ?_; (with_reducible refine (impl_PolyArea.calls _ _ t411 t429 true _ ?side1 ?side2 A37.out).mono ?_); (case side1 => exact cm (Kd.R_reads' HO_6.out).2.2); (case side2 => exact (Kd.R_reads' HO_6.out).2.1); rintro e w115 ⟨rfl, hb⟩; refine ⟨_, rfl, ?_⟩; have n0_ := Aside0.mk (Kd.Q_below (qm HO_3.out) hb); have n1_ := Aside0.mk (Kd.R_below (rm HO_6.out) hb); have n2_ := Aside0.mk (Kd.R_below (rm HO_7.out) hb); have n3_ := Aside0.mk (Kd.R_below (rm HO_9.out) hb); have n4_ := Aside0.mk (Kd.R_below (rm HO_10.out) hb); have n5_ := Aside0.mk (below_step (lb HB.out) hb); clear HO_3; clear HO_6; clear HO_7; clear HO_9; clear HO_10; clear HB; have HO_3 := n0_; have HO_6 := n1_; have HO_7 := n2_; have HO_9 := n3_; have HO_10 := n4_; have HB := n5_; clear n0_ n1_ n2_ n3_ n4_ n5_; (try clear hb); (try clear hb2); (try clear hk); (try clear hi); obtain ⟨Ao116, co116, eo116⟩ := Kd.R_slice HO_7.out; subst eo116) | ((with_reducible refine gate_callee (f := 11) rfl ?_); refine goesL_ (some 83) rfl rfl Try.func11 (by kernel_rfl) rfl #[.slice Ao116 t412.length co116] rfl al ?_; (with_reducible refine (impl_PolyArea.calls _ _ t412 t431 false _ ?side1 ?side2 A38.out).mono ?_); (case side1 => exact cm (Kd.R_reads' HO_7.out).2.2); (case side2 => exact (Kd.R_reads' HO_7.out).2.1); rintro e w117 ⟨rfl, hb⟩; refine ⟨_, rfl, ?_⟩; have n0_ := Aside0.mk (Kd.Q_below (qm HO_3.out) hb); have n1_ := Aside0.mk (Kd.R_below (rm HO_6.out) hb); have n2_ := Aside0.mk (Kd.R_below (rm HO_7.out) hb); have n3_ := Aside0.mk (Kd.R_below (rm HO_9.out) hb); have n4_ := Aside0.mk (Kd.R_below (rm HO_10.out) hb); have n5_ := Aside0.mk (below_step (lb HB.out) hb); clear HO_3; clear HO_6; clear HO_7; clear HO_9; clear HO_10; clear HB; have HO_3 := n0_; have HO_6 := n1_; have HO_7 := n2_; have HO_9 := n3_; have HO_10 := n4_; have HB := n5_; clear n0_ n1_ n2_ n3_ n4_ n5_; (try clear hb); (try clear hb2); (try clear hk); (try clear hi)) | ((with_reducible refine gate_callee (f := 11) rfl ?_); refine goesL_ (some 88) rfl rfl Try.func11 (by kernel_rfl) rfl #[.slice Ao8 t406.length co8] rfl al ?_; (with_reducible refine (impl_PolyArea.calls _ _ t406 t433 t434 _ ?side1 ?side2 A39.out).mono ?_); (case side1 => repeat (first | exact (Kd.Q_reads' HO_3.out).2.2 | (with_reducible refine Kd.C_alloc ?_ _) | (with_reducible refine Kd.C_drewN ?_ _) | (with_reducible refine Kd.C_drew ?_))); (case side2 => exact (Kd.Q_reads' HO_3.out).2.1); rintro e w118 ⟨rfl, hb⟩; refine ⟨_, rfl, ?_⟩; have n0_ := Aside0.mk (Kd.Q_below (qm HO_3.out) hb); have n1_ := Aside0.mk (Kd.R_below (rm HO_6.out) hb); have n2_ := Aside0.mk (Kd.R_below (rm HO_7.out) hb); have n3_ := Aside0.mk (Kd.R_below (rm HO_9.out) hb); have n4_ := Aside0.mk (Kd.R_below (rm HO_10.out) hb); have n5_ := Aside0.mk (below_step (lb HB.out) hb); clear HO_3; clear HO_6; clear HO_7; clear HO_9; clear HO_10; clear HB; have HO_3 := n0_; have HO_6 := n1_; have HO_7 := n2_; have HO_9 := n3_; have HO_10 := n4_; have HB := n5_; clear n0_ n1_ n2_ n3_ n4_ n5_; (try clear hb); (try clear hb2); (try clear hk); (try clear hi)))
           have n0_ := Aside0.mk (Kd.Q_drew HO_3.out)
           have n1_ := Aside0.mk (Kd.R_drew HO_6.out)
           have n2_ := Aside0.mk (Kd.R_drew HO_7.out)
           have n3_ := Aside0.mk (Kd.R_drew HO_9.out)
           have n4_ := Aside0.mk (Kd.R_drew HO_10.out)
           have n5_ := Aside0.mk (below_drew1 HB.out)
           clear HO_3 HO_6 HO_7 HO_9 HO_10 HB
           have HO_3 := n0_
           have HO_6 := n1_
           have HO_7 := n2_
           have HO_9 := n3_
           have HO_10 := n4_
           have HB := n5_
           clear n0_ n1_ n2_ n3_ n4_ n5_
           have p435 : 0 ≤ (t407 : Int) := oa
           have q435 : t407 < (t406.length : Int) := oa
           obtain ⟨ad435, e435, hx435_0, hx435_1⟩ := at_T33 (Kd.Q_reads' HO_3.out).2.2 t407 p435 q435
           cases e435
           replace p435 := eq_true p435
           replace q435 := eq_true q435
           have p436 : 0 ≤ (t408 : Int) := oa
           have q436 : t408 < (t406.length : Int) := oa
           obtain ⟨ad436, e436, hx436_0, hx436_1⟩ := at_T33 (Kd.Q_reads' HO_3.out).2.2 t408 p436 q436
           obtain rfl : ad435 = ad436 := (by injection e436)
           replace p436 := eq_true p436
           replace q436 := eq_true q436
           refine start_ (n := 10) (S := fun w' => w'.cell? (ad435.add ((t407).toNat * 2)) = some (.int .i64 ((rd_T33 t406 t407).f0)) ∧ w'.cell? ⟨(ad435.add ((t407).toNat * 2)).block, (ad435.add ((t407).toNat * 2)).off + 1, none⟩ = some (.int .i64 ((rd_T33 t406 t407).f1)) ∧ w'.cell? (ad435.add ((t408).toNat * 2)) = some (.int .i64 ((rd_T33 t406 t408).f0)) ∧ w'.cell? ⟨(ad435.add ((t408).toNat * 2)).block, (ad435.add ((t408).toNat * 2)).off + 1, none⟩ = some (.int .i64 ((rd_T33 t406 t408).f1))) (ds := []) #[false,false,false,false,false,false,false,false,false,false] (by kernel_rfl) rfl rfl ⟨hx435_0, hx435_1, hx436_0, hx436_1⟩ (fun hHeld => ?_); refine with_tabW laws_FnSplit.tab11 laws_FnSplit.bits11 (fun HT_ HW_ => ?_)
           generalize w118.drew = w119 at HO_3 HO_6 HO_7 HO_9 HO_10 HB hx435_0 hx435_1 hx436_0 hx436_1 hHeld ⊢
           refine pq_ 0 (some 91) ?_
           refine pq_ 1 (some 92) ?_
           refine pq_ 2 (some 93) ?_
           refine pq_ 4 (some 95) ?_
           refine pq_ 5 (some 96) ?_
           refine pq_ 6 (some 97) ?_
           refine tq_ 3 (some 94) ?_
           refine tq_ 7 (some 98) ?_
           refine one_ (i := 8) (N := some 99) #[true,true,true,true,true,true,true,true,true,false] rfl rfl (one_of HT_.out (by kernel_rfl)) (by decide) (fun K hK => ?_)
           refine goes_ Try.func12 (by kernel_rfl) rfl #[.agg #[.int .i64 ((rd_T33 t406 t407).f0), .int .i64 ((rd_T33 t406 t407).f1)], .agg #[.int .i64 ((rd_T33 t406 t408).f0), .int .i64 ((rd_T33 t406 t408).f1)]] (by rfl) rfl rfl al ?_
           with_reducible refine (impl_PointGaps.calls ((rd_T33 t406 t407).f0) ((rd_T33 t406 t407).f1) ((rd_T33 t406 t408).f0) ((rd_T33 t406 t408).f1) t437 _ A44.out).mono ?_
           rintro e w120 ⟨rfl, hb⟩
           have HS0_ := (hb.cell (World.block_lt_of_cell? _ _ (hHeld.1))).trans (hHeld.1)
           have HS1_ := (hb.cell (World.block_lt_of_cell? _ _ (hHeld.2.1))).trans (hHeld.2.1)
           have HS2_ := (hb.cell (World.block_lt_of_cell? _ _ (hHeld.2.2.1))).trans (hHeld.2.2.1)
           have HS3_ := (hb.cell (World.block_lt_of_cell? _ _ (hHeld.2.2.2))).trans (hHeld.2.2.2)
           refine ⟨_, rfl, ?_⟩
           have n0_ := Aside0.mk (Kd.Q_below (qm HO_3.out) hb)
           have n1_ := Aside0.mk (Kd.R_below (rm HO_6.out) hb)
           have n2_ := Aside0.mk (Kd.R_below (rm HO_7.out) hb)
           have n3_ := Aside0.mk (Kd.R_below (rm HO_9.out) hb)
           have n4_ := Aside0.mk (Kd.R_below (rm HO_10.out) hb)
           have n5_ := Aside0.mk (below_step (lb HB.out) hb)
           clear HO_3 HO_6 HO_7 HO_9 HO_10 HB
           have HO_3 := n0_
           have HO_6 := n1_
           have HO_7 := n2_
           have HO_9 := n3_
           have HO_10 := n4_
           have HB := n5_
           clear n0_ n1_ n2_ n3_ n4_ n5_
           (try clear hb);(try clear hb2);(try clear hk);(try clear hi)
           refine hK.out _ _ ⟨HS0_, HS1_, HS2_, HS3_⟩ (fun hHeld => ?_)
           clear hK K
           refine norm_ (a' := ?_) ?_ ?_
           rotate_left
           ·show Act.put _ (some 99) _ = _
            simp only [Act.put, List.setIfInBounds_toArray, List.set_cons_zero, List.set_cons_succ, i64_w, i32_w]
            rfl
           refine pq_ 9 (some 18) ?_
           refine done_ (done_of HT_.out (by kernel_rfl)) ?_
           try go_wp2
           go_ret
           exact ⟨er, lb HB.out⟩
         ·replace c45 := Bool.eq_false_iff.mpr c45
          subst c45
          have H1 : (some false) = some r := by rw [if_neg (show ¬ (false = true) by decide)] at H; exact H
          clear H
          have H := H1
          clear H1
          obtain rfl := Option.some.inj H
          obtain ⟨Ao121, co121, eo121⟩ := Kd.R_slice HO_6.out
          subst eo121
          try go_wp2_with (first | ((with_reducible refine gate_callee (f := 11) rfl ?_); refine goesL_ (some 78) rfl rfl Try.func11 (by kernel_rfl) rfl #[.slice Ao121 t411.length co121] rfl al ?_; (with_reducible refine (impl_PolyArea.calls _ _ t411 t429 false _ ?side1 ?side2 A37.out).mono ?_); (case side1 => exact cm (Kd.R_reads' HO_6.out).2.2); (case side2 => exact (Kd.R_reads' HO_6.out).2.1); rintro e w122 ⟨rfl, hb⟩; refine ⟨_, rfl, ?_⟩; have n0_ := Aside0.mk (Kd.Q_below (qm HO_3.out) hb); have n1_ := Aside0.mk (Kd.R_below (rm HO_6.out) hb); have n2_ := Aside0.mk (Kd.R_below (rm HO_7.out) hb); have n3_ := Aside0.mk (Kd.R_below (rm HO_9.out) hb); have n4_ := Aside0.mk (Kd.R_below (rm HO_10.out) hb); have n5_ := Aside0.mk (below_step (lb HB.out) hb); clear HO_3; clear HO_6; clear HO_7; clear HO_9; clear HO_10; clear HB; have HO_3 := n0_; have HO_6 := n1_; have HO_7 := n2_; have HO_9 := n3_; have HO_10 := n4_; have HB := n5_; clear n0_ n1_ n2_ n3_ n4_ n5_; (try clear hb); (try clear hb2); (try clear hk); (try clear hi); obtain ⟨Ao123, co123, eo123⟩ := Kd.R_slice HO_7.out; subst eo123) | ((with_reducible refine gate_callee (f := 11) rfl ?_); refine goesL_ (some 83) rfl rfl Try.func11 (by kernel_rfl) rfl #[.slice Ao123 t412.length co123] rfl al ?_; (with_reducible refine (impl_PolyArea.calls _ _ t412 t431 t432 _ ?side1 ?side2 A38.out).mono ?_); (case side1 => exact cm (Kd.R_reads' HO_7.out).2.2); (case side2 => exact (Kd.R_reads' HO_7.out).2.1); rintro e w124 ⟨rfl, hb⟩; refine ⟨_, rfl, ?_⟩; have n0_ := Aside0.mk (Kd.Q_below (qm HO_3.out) hb); have n1_ := Aside0.mk (Kd.R_below (rm HO_6.out) hb); have n2_ := Aside0.mk (Kd.R_below (rm HO_7.out) hb); have n3_ := Aside0.mk (Kd.R_below (rm HO_9.out) hb); have n4_ := Aside0.mk (Kd.R_below (rm HO_10.out) hb); have n5_ := Aside0.mk (below_step (lb HB.out) hb); clear HO_3; clear HO_6; clear HO_7; clear HO_9; clear HO_10; clear HB; have HO_3 := n0_; have HO_6 := n1_; have HO_7 := n2_; have HO_9 := n3_; have HO_10 := n4_; have HB := n5_; clear n0_ n1_ n2_ n3_ n4_ n5_; (try clear hb); (try clear hb2); (try clear hk); (try clear hi)) | ((with_reducible refine gate_callee (f := 11) rfl ?_); refine goesL_ (some 88) rfl rfl Try.func11 (by kernel_rfl) rfl #[.slice Ao8 t406.length co8] rfl al ?_; (with_reducible refine (impl_PolyArea.calls _ _ t406 t433 t434 _ ?side1 ?side2 A39.out).mono ?_); (case side1 => repeat (first | exact (Kd.Q_reads' HO_3.out).2.2 | (with_reducible refine Kd.C_alloc ?_ _) | (with_reducible refine Kd.C_drewN ?_ _) | (with_reducible refine Kd.C_drew ?_))); (case side2 => exact (Kd.Q_reads' HO_3.out).2.1); rintro e w125 ⟨rfl, hb⟩; refine ⟨_, rfl, ?_⟩; have n0_ := Aside0.mk (Kd.Q_below (qm HO_3.out) hb); have n1_ := Aside0.mk (Kd.R_below (rm HO_6.out) hb); have n2_ := Aside0.mk (Kd.R_below (rm HO_7.out) hb); have n3_ := Aside0.mk (Kd.R_below (rm HO_9.out) hb); have n4_ := Aside0.mk (Kd.R_below (rm HO_10.out) hb); have n5_ := Aside0.mk (below_step (lb HB.out) hb); clear HO_3; clear HO_6; clear HO_7; clear HO_9; clear HO_10; clear HB; have HO_3 := n0_; have HO_6 := n1_; have HO_7 := n2_; have HO_9 := n3_; have HO_10 := n4_; have HB := n5_; clear n0_ n1_ n2_ n3_ n4_ n5_; (try clear hb); (try clear hb2); (try clear hk); (try clear hi)))
          have n0_ := Aside0.mk (Kd.Q_drew HO_3.out)
          have n1_ := Aside0.mk (Kd.R_drew HO_6.out)
          have n2_ := Aside0.mk (Kd.R_drew HO_7.out)
          have n3_ := Aside0.mk (Kd.R_drew HO_9.out)
          have n4_ := Aside0.mk (Kd.R_drew HO_10.out)
          have n5_ := Aside0.mk (below_drew1 HB.out)
          clear HO_3 HO_6 HO_7 HO_9 HO_10 HB
          have HO_3 := n0_
          have HO_6 := n1_
          have HO_7 := n2_
          have HO_9 := n3_
          have HO_10 := n4_
          have HB := n5_
          clear n0_ n1_ n2_ n3_ n4_ n5_
          have p435 : 0 ≤ (t407 : Int) := oa
          have q435 : t407 < (t406.length : Int) := oa
          obtain ⟨ad435, e435, hx435_0, hx435_1⟩ := at_T33 (Kd.Q_reads' HO_3.out).2.2 t407 p435 q435
          cases e435
          replace p435 := eq_true p435
          replace q435 := eq_true q435
          have p436 : 0 ≤ (t408 : Int) := oa
          have q436 : t408 < (t406.length : Int) := oa
          obtain ⟨ad436, e436, hx436_0, hx436_1⟩ := at_T33 (Kd.Q_reads' HO_3.out).2.2 t408 p436 q436
          obtain rfl : ad435 = ad436 := (by injection e436)
          replace p436 := eq_true p436
          replace q436 := eq_true q436
          refine start_ (n := 10) (S := fun w' => w'.cell? (ad435.add ((t407).toNat * 2)) = some (.int .i64 ((rd_T33 t406 t407).f0)) ∧ w'.cell? ⟨(ad435.add ((t407).toNat * 2)).block, (ad435.add ((t407).toNat * 2)).off + 1, none⟩ = some (.int .i64 ((rd_T33 t406 t407).f1)) ∧ w'.cell? (ad435.add ((t408).toNat * 2)) = some (.int .i64 ((rd_T33 t406 t408).f0)) ∧ w'.cell? ⟨(ad435.add ((t408).toNat * 2)).block, (ad435.add ((t408).toNat * 2)).off + 1, none⟩ = some (.int .i64 ((rd_T33 t406 t408).f1))) (ds := []) #[false,false,false,false,false,false,false,false,false,false] (by kernel_rfl) rfl rfl ⟨hx435_0, hx435_1, hx436_0, hx436_1⟩ (fun hHeld => ?_); refine with_tabW laws_FnSplit.tab11 laws_FnSplit.bits11 (fun HT_ HW_ => ?_)
          generalize w125.drew = w126 at HO_3 HO_6 HO_7 HO_9 HO_10 HB hx435_0 hx435_1 hx436_0 hx436_1 hHeld ⊢
          refine pq_ 0 (some 91) ?_
          refine pq_ 1 (some 92) ?_
          refine pq_ 2 (some 93) ?_
          refine pq_ 4 (some 95) ?_
          refine pq_ 5 (some 96) ?_
          refine pq_ 6 (some 97) ?_
          refine tq_ 3 (some 94) ?_
          refine tq_ 7 (some 98) ?_
          refine one_ (i := 8) (N := some 99) #[true,true,true,true,true,true,true,true,true,false] rfl rfl (one_of HT_.out (by kernel_rfl)) (by decide) (fun K hK => ?_)
          refine goes_ Try.func12 (by kernel_rfl) rfl #[.agg #[.int .i64 ((rd_T33 t406 t407).f0), .int .i64 ((rd_T33 t406 t407).f1)], .agg #[.int .i64 ((rd_T33 t406 t408).f0), .int .i64 ((rd_T33 t406 t408).f1)]] (by rfl) rfl rfl al ?_
          with_reducible refine (impl_PointGaps.calls ((rd_T33 t406 t407).f0) ((rd_T33 t406 t407).f1) ((rd_T33 t406 t408).f0) ((rd_T33 t406 t408).f1) t437 _ A44.out).mono ?_
          rintro e w127 ⟨rfl, hb⟩
          have HS0_ := (hb.cell (World.block_lt_of_cell? _ _ (hHeld.1))).trans (hHeld.1)
          have HS1_ := (hb.cell (World.block_lt_of_cell? _ _ (hHeld.2.1))).trans (hHeld.2.1)
          have HS2_ := (hb.cell (World.block_lt_of_cell? _ _ (hHeld.2.2.1))).trans (hHeld.2.2.1)
          have HS3_ := (hb.cell (World.block_lt_of_cell? _ _ (hHeld.2.2.2))).trans (hHeld.2.2.2)
          refine ⟨_, rfl, ?_⟩
          have n0_ := Aside0.mk (Kd.Q_below (qm HO_3.out) hb)
          have n1_ := Aside0.mk (Kd.R_below (rm HO_6.out) hb)
          have n2_ := Aside0.mk (Kd.R_below (rm HO_7.out) hb)
          have n3_ := Aside0.mk (Kd.R_below (rm HO_9.out) hb)
          have n4_ := Aside0.mk (Kd.R_below (rm HO_10.out) hb)
          have n5_ := Aside0.mk (below_step (lb HB.out) hb)
          clear HO_3 HO_6 HO_7 HO_9 HO_10 HB
          have HO_3 := n0_
          have HO_6 := n1_
          have HO_7 := n2_
          have HO_9 := n3_
          have HO_10 := n4_
          have HB := n5_
          clear n0_ n1_ n2_ n3_ n4_ n5_
          (try clear hb);(try clear hb2);(try clear hk);(try clear hi)
          refine hK.out _ _ ⟨HS0_, HS1_, HS2_, HS3_⟩ (fun hHeld => ?_)
          clear hK K
          refine norm_ (a' := ?_) ?_ ?_
          rotate_left
          ·show Act.put _ (some 99) _ = _
           simp only [Act.put, List.setIfInBounds_toArray, List.set_cons_zero, List.set_cons_succ, i64_w, i32_w]
           rfl
          refine pq_ 9 (some 18) ?_
          refine done_ (done_of HT_.out (by kernel_rfl)) ?_
          try go_wp2
          go_ret
          exact ⟨er, lb HB.out⟩
        ·rw [if_neg c43] at H
         exact absurd H (by simp)
       ·rw [if_neg c42] at H
        exact absurd H (by simp)
      ·rw [if_neg c41] at H
       exact absurd H (by simp)
     ·rw [if_neg c40] at H
      exact absurd H (by simp)
def laws_FnSplit.Pure : Prop := ∀ (l0 : List Int), l0.length ≤ maxLen → l0.length * 1 ≤ 140737488351232 → (∀ x ∈ l0, (Lit.int .u8 x).wf = true) → ∃ k, laws_FnSplit.f k l0 = some true
theorem laws_FnSplit.walk (P : laws_FnSplit.Pure) (a0 : Option Addr) (len0 cap0 : Nat) (z0 : List Int) (w : World) (w0 : (a0 = none ∧ len0 = 0 ∧ cap0 = 0 ∧ z0 = []) ∨ ∃ x, a0 = some x ∧ len0 ≤ cap0 ∧ cap0 ≤ maxLen ∧ z0.length = cap0 ∧ (∀ i, i < z0.length → w.cell? (x.add i) = some (.int .u8 (z0.getD i 0))) ∧ ∀ n ∈ z0, (Lit.int .u8 n).wf = true) (y0 : len0 * 1 ≤ 140737488351232) :
  Calls Try.prog 3 #[.slice a0 len0 cap0] w fun e w' => e = .returned (.bool true) ∧ Below w.heap.size w w' := by
 obtain ⟨l0, rfl, hr0, hm0, hw0, hc0⟩ := ReadsInt.ofRowC w0
 obtain ⟨k, h⟩ := P l0 hm0 y0 hw0
 refine (laws_FnSplit.calls k _ _ l0 true w (Kd.C_of_reads (d := (0 : Int)) (h1 := fun _ => rfl) hr0) hc0 h).mono ?_
 rintro e w' ⟨rfl, hd⟩
 exact ⟨rfl, hd⟩
end Go.Proofs.Ytfonigbkoligmaa.P
-- squeezed

import Derived.Test.YtfonigbkoligmaaPx0
import Derived.Test.YtfonigbkoligmaaPx2
import Derived.Test.YtfonigbkoligmaaPx4
import Derived.Test.YtfonigbkoligmaaPx7
import Derived.Test.YtfonigbkoligmaaPx10
namespace Go.Proofs.Ytfonigbkoligmaa.P
open Go.RowKit Go.Proofs.YtfonigbkoligmaaW.PrintWords Go.Proofs.YtfonigbkoligmaaW.PrintLast Go.Proofs.YtfonigbkoligmaaW.PrintMore
attribute [local go_sem] max2_int min2_int max_two min_two max_three min_three max_four min_four
set_option linter.unusedVariables false
set_option linter.unusedSimpArgs false
attribute [local go_sem high] eqA39
def laws_FnShareParcel.j0 : Nat → List (S33) → Int → Int → Bool → Bool → Bool → Int → Int → Int → Int → Option (Bool)
 | 0, _, _, _, _, _, _, _, _, _, _ => none
 | k + 1, x3, x4, x5, x7, x9, x49, x480000, x480001, x484000, x484001 => if x49 = true then (if (x7 == x9) = true then (some (x480000 == x484000 && (x480001 == x484001))) else (some false)) else ((laws_begunAt.f x3 x5).bind fun t484 => ((impl_ParcelShare.f k t484 0 (wrap64 ((wrap64 ((x3.length : Int) - x5)) + x4))).bind fun bt487 => ((impl_QuoAdd.f k x480000 x480001 bt487.1 bt487.2.1).bind fun bt491 => (if x480000 > 0 then (if x480000 < x480001 then (if bt487.2.2 = true then (if bt491.2.2 = true then ((laws_whole.f 1).bind fun bt495 => (some (bt491.1 == bt495.1 && (bt491.2.1 == bt495.2)))) else (some false)) else (some false)) else (some false)) else (some false)))))
def laws_FnShareParcel.f (k : Nat) (l0 : List Int) : Option (Bool) := if (l0.length : Int) > 1048576 then (some true) else ((spec_DrawParcelShare.f k l0).bind fun bt471 => ((impl_ParcelShare.f k bt471.1 bt471.2.1 bt471.2.2).bind fun bt476 => ((spec_ParcelShare.f k bt471.1 bt471.2.1 bt471.2.2).bind fun bt480 => (if (bt476.2.2 != bt480.2.2) = true then (laws_FnShareParcel.j0 k bt471.1 bt471.2.1 bt471.2.2 bt476.2.2 bt480.2.2 true bt476.1 bt476.2.1 bt480.1 bt480.2.1) else (if (!(bt476.1 == bt480.1) || (!(bt476.2.1 == bt480.2.1))) = true then (laws_FnShareParcel.j0 k bt471.1 bt471.2.1 bt471.2.2 bt476.2.2 bt480.2.2 true bt476.1 bt476.2.1 bt480.1 bt480.2.1) else (laws_FnShareParcel.j0 k bt471.1 bt471.2.1 bt471.2.2 bt476.2.2 bt480.2.2 (!bt476.2.2) bt476.1 bt476.2.1 bt480.1 bt480.2.1))))))
theorem laws_FnShareParcel.mono_l : ∀ k, (∀ y0 y1 y2 y3 y4 y5 y6 y7 y8 y9, LeO (laws_FnShareParcel.j0 k y0 y1 y2 y3 y4 y5 y6 y7 y8 y9) (laws_FnShareParcel.j0 (k + 1) y0 y1 y2 y3 y4 y5 y6 y7 y8 y9))
 | 0 => fun _ _ _ _ _ _ _ _ _ _ r h => by simp [laws_FnShareParcel.j0] at h
 | k + 1 => by
  have ih0 := laws_FnShareParcel.mono_l k
  ·intro y0 y1 y2 y3 y4 y5 y6 y7 y8 y9
   unfold laws_FnShareParcel.j0
   repeat' first
   | (with_reducible exact ih0 _ _ _ _ _ _ _ _ _ _)
   | (with_reducible exact impl_ParcelShare.mono _ _ _ _)
   | (with_reducible exact impl_QuoAdd.mono _ _ _ _ _)
   | (with_reducible exact spec_DrawParcelShare.mono _ _)
   | (with_reducible exact spec_ParcelShare.mono _ _ _ _)
   | (with_reducible exact LeO.refl _)
   | (with_reducible exact LeO.none _)
   | (with_reducible refine LeO.ite ?_ ?_)
   | (with_reducible refine LeO.bind ?_ (fun _ => ?_))
   | exact ih0 _ _ _ _ _ _ _ _ _ _
   | exact impl_ParcelShare.mono _ _ _ _
   | exact impl_QuoAdd.mono _ _ _ _ _
   | exact spec_DrawParcelShare.mono _ _
   | exact spec_ParcelShare.mono _ _ _ _
   | exact LeO.none _
   | refine LeO.ite ?_ ?_
   | refine LeO.bind ?_ (fun _ => ?_)
theorem laws_FnShareParcel.mono : ∀ a0 k, LeO (laws_FnShareParcel.f k a0) (laws_FnShareParcel.f (k + 1) a0) := by
 intro a0 k
 have ih0 := laws_FnShareParcel.mono_l k
 unfold laws_FnShareParcel.f
 repeat' first
   | (with_reducible exact ih0 _ _ _ _ _ _ _ _ _ _)
   | (with_reducible exact impl_ParcelShare.mono _ _ _ _)
   | (with_reducible exact impl_QuoAdd.mono _ _ _ _ _)
   | (with_reducible exact spec_DrawParcelShare.mono _ _)
   | (with_reducible exact spec_ParcelShare.mono _ _ _ _)
   | (with_reducible exact LeO.refl _)
   | (with_reducible exact LeO.none _)
   | (with_reducible refine LeO.ite ?_ ?_)
   | (with_reducible refine LeO.bind ?_ (fun _ => ?_))
   | exact ih0 _ _ _ _ _ _ _ _ _ _
   | exact impl_ParcelShare.mono _ _ _ _
   | exact impl_QuoAdd.mono _ _ _ _ _
   | exact spec_DrawParcelShare.mono _ _
   | exact spec_ParcelShare.mono _ _ _ _
   | exact LeO.none _
   | refine LeO.ite ?_ ?_
   | refine LeO.bind ?_ (fun _ => ?_)
def laws_FnShareParcel.T11 : Bool × List (List Nat × List Nat) := (true,[([],[]),([0],[0]),([1],[1]),([2],[2]),([3],[3]),([4,3],[3,4]),([3],[3]),([6,3],[3,6]),([5,7,3],[3,5,7]),([3,8],[3,8]),([9,3],[9]),([10],[10]),([10,11],[10,11]),([12,10],[12]),([13],[13]),([13,14],[13,14]),([15,13],[15]),([16],[16]),([16,16],[16]),([17,18,16],[16,17,18]),([16,19],[16,19]),([20,18,0,1,2,3,4,5,6,7,8,9,10,11,12,13,14,15,16,17,18,19,20],[20])])
def laws_FnShareParcel.B11 : List Nat := [0,1,3,7,15,31,15,79,255,511,1023,2047,4095,8191,16383,32767,65535,131071,131071,524287,1048575,2097151]
theorem laws_FnShareParcel.tab11 : rtab .any (opsOf Try.f4 11) = laws_FnShareParcel.T11 := by kernel_rfl
theorem laws_FnShareParcel.bits11 : waitsOk laws_FnShareParcel.T11.2 laws_FnShareParcel.B11 = true := by kernel_rfl
set_option maxHeartbeats 8000000 in
set_option maxRecDepth 100000 in
theorem laws_FnShareParcel.calls (k : Nat) (A0 : Option Addr) (c0 : Nat) (l0 : List Int) (r : Bool) (w : World) (hr0 : Kd.C (Kd.int .u8) w A0 l0.length l0) (hc0 : l0.length ≤ c0) (h : laws_FnShareParcel.f k l0 = some r) :
  Calls Try.prog 4 #[.slice A0 l0.length c0] w fun e w' => e = .returned (.bool r) ∧ Below w.heap.size w w' := by
 have hu39 := Try.underlying39
 have HR0 := Aside0.mk hr0
 have HC0 := Aside0.mk hc0
 clear hr0 hc0
 have HB := Aside0.mk (Below.refl w.heap.size w)
 have H : (if (l0.length : Int) > 1048576 then (some true) else ((spec_DrawParcelShare.f k l0).bind fun bt471 => ((impl_ParcelShare.f k bt471.1 bt471.2.1 bt471.2.2).bind fun bt476 => ((spec_ParcelShare.f k bt471.1 bt471.2.1 bt471.2.2).bind fun bt480 => (if (bt476.2.2 != bt480.2.2) = true then (laws_FnShareParcel.j0 k bt471.1 bt471.2.1 bt471.2.2 bt476.2.2 bt480.2.2 true bt476.1 bt476.2.1 bt480.1 bt480.2.1) else (if (!(bt476.1 == bt480.1) || (!(bt476.2.1 == bt480.2.1))) = true then (laws_FnShareParcel.j0 k bt471.1 bt471.2.1 bt471.2.2 bt476.2.2 bt480.2.2 true bt476.1 bt476.2.1 bt480.1 bt480.2.1) else (laws_FnShareParcel.j0 k bt471.1 bt471.2.1 bt471.2.2 bt476.2.2 bt480.2.2 (!bt476.2.2) bt476.1 bt476.2.1 bt480.1 bt480.2.1))))))) = some r := h
 clear h
 by_cases c2 : (l0.length : Int) > 1048576
 ·rw [if_pos c2] at H
  have c2b0 : decide (1048576 < (l0.length : Int)) = true := decide_eq_true c2
  have c2b1 : decide (1048576 < l0.length) = true := decide_eq_true (by omega)
  clear c2
  obtain rfl := Option.some.inj H
  go_enter Try.func4, Try.ntmps4
  go_wp2
  go_ret
  exact ⟨er, lb HB.out⟩
 ·rw [if_neg c2] at H
  have c2b0 : decide (1048576 < (l0.length : Int)) = false := decide_eq_false c2
  have c2b1 : decide (1048576 < l0.length) = false := decide_eq_false (by omega)
  clear c2
  replace H := Option.bind_eq_some_iff.mp H
  obtain ⟨⟨t471, t472, t473⟩, A30, H⟩ := H
  replace H : ((impl_ParcelShare.f k t471 t472 t473).bind fun bt476 => ((spec_ParcelShare.f k t471 t472 t473).bind fun bt480 => (if (bt476.2.2 != bt480.2.2) = true then (laws_FnShareParcel.j0 k t471 t472 t473 bt476.2.2 bt480.2.2 true bt476.1 bt476.2.1 bt480.1 bt480.2.1) else (if (!(bt476.1 == bt480.1) || (!(bt476.2.1 == bt480.2.1))) = true then (laws_FnShareParcel.j0 k t471 t472 t473 bt476.2.2 bt480.2.2 true bt476.1 bt476.2.1 bt480.1 bt480.2.1) else (laws_FnShareParcel.j0 k t471 t472 t473 bt476.2.2 bt480.2.2 (!bt476.2.2) bt476.1 bt476.2.1 bt480.1 bt480.2.1))))) = some r := H
  have A3 := Aside0.mk A30
  clear A30
  replace H := Option.bind_eq_some_iff.mp H
  obtain ⟨⟨t476, t477, t478⟩, A40, H⟩ := H
  replace H : ((spec_ParcelShare.f k t471 t472 t473).bind fun bt480 => (if (t478 != bt480.2.2) = true then (laws_FnShareParcel.j0 k t471 t472 t473 t478 bt480.2.2 true t476 t477 bt480.1 bt480.2.1) else (if (!(t476 == bt480.1) || (!(t477 == bt480.2.1))) = true then (laws_FnShareParcel.j0 k t471 t472 t473 t478 bt480.2.2 true t476 t477 bt480.1 bt480.2.1) else (laws_FnShareParcel.j0 k t471 t472 t473 t478 bt480.2.2 (!t478) t476 t477 bt480.1 bt480.2.1)))) = some r := H
  have A4 := Aside0.mk A40
  clear A40
  replace H := Option.bind_eq_some_iff.mp H
  obtain ⟨⟨t480, t481, t482⟩, A50, H⟩ := H
  replace H : (if (t478 != t482) = true then (laws_FnShareParcel.j0 k t471 t472 t473 t478 t482 true t476 t477 t480 t481) else (if (!(t476 == t480) || (!(t477 == t481))) = true then (laws_FnShareParcel.j0 k t471 t472 t473 t478 t482 true t476 t477 t480 t481) else (laws_FnShareParcel.j0 k t471 t472 t473 t478 t482 (!t478) t476 t477 t480 t481))) = some r := H
  have A5 := Aside0.mk A50
  clear A50
  have HC6 := Aside0.mk H
  clear H
  go_enter Try.func4, Try.ntmps4
  go_upto_region 6 with (first | ((with_reducible refine gate_callee (f := 16) rfl ?_); refine goesL_ (some 20) rfl rfl Try.func16 (by kernel_rfl) rfl #[.slice A0 l0.length c0] rfl al ?_; (with_reducible refine (spec_DrawParcelShare.calls k _ _ l0 t471 t472 t473 _ ?side1 ?side2 A3.out).mono ?_); (case side1 => repeat (first | exact HR0.out | (with_reducible refine Kd.C_alloc ?_ _) | (with_reducible refine Kd.C_drewN ?_ _) | (with_reducible refine Kd.C_drew ?_))); (case side2 => exact HC0.out); rintro e w7 ⟨v474, rfl, ho0, hb⟩; refine ⟨_, rfl, ?_⟩; have n0_ := Aside0.mk (Kd.Q_lower ho0 (below_size (lb HB.out))); have n1_ := Aside0.mk (below_step (lb HB.out) hb); clear HB; have HO475 := n0_; have HB := n1_; clear n0_ n1_; (try clear hb); (try clear hb2); (try clear hk); (try clear hi); (try clear ho0); obtain ⟨Ao8, co8, eo8, _⟩ := Kd.Q_slice HO475.out; subst eo8) | ((with_reducible refine gate_callee (f := 17) rfl ?_); refine goesL_ (some 28) rfl rfl Try.func17 (by kernel_rfl) rfl #[.slice Ao8 t471.length co8, .int .i64 t472, .int .i64 t473] rfl al ?_; (with_reducible refine (impl_ParcelShare.calls k _ _ t471 t472 t473 t476 t477 t478 _ ?side1 ?side2 A4.out).mono ?_); (case side1 => repeat (first | exact (Kd.Q_reads' HO475.out).2.2 | (with_reducible refine Kd.C_alloc ?_ _) | (with_reducible refine Kd.C_drewN ?_ _) | (with_reducible refine Kd.C_drew ?_))); (case side2 => exact (Kd.Q_reads' HO475.out).2.1); rintro e w9 ⟨rfl, hb⟩; refine ⟨_, rfl, ?_⟩; have n0_ := Aside0.mk (Kd.Q_below (qm HO475.out) hb); have n1_ := Aside0.mk (below_step (lb HB.out) hb); clear HO475; clear HB; have HO475 := n0_; have HB := n1_; clear n0_ n1_; (try clear hb); (try clear hb2); (try clear hk); (try clear hi)) | ((with_reducible refine gate_dst (N := 6) rfl ?_); refine bx_ 6 (cs := #[.int .i64 0, .int .i64 0]) (t := 39) ?_; intro gb479 hg w10 hbox hb; have n0_ := Aside0.mk (Kd.Q_below (qm HO475.out) hb); have n1_ := Aside0.mk (below_step (lb HB.out) hb); have n2_ := Aside0.mk (hbox); have n3_ := Aside0.mk ((by rw [hg]; exact (below_size (lb HB.out)) : w.heap.size ≤ gb479)); have n4_ := Aside0.mk ((by rw [hg]; exact (below_size (lb HB.out)) : w.heap.size ≤ gb479)); clear HO475; clear HB; have HO475 := n0_; have HB := n1_; have BK479 := n2_; have GW479 := n3_; have GE479 := n4_; clear n0_ n1_ n2_ n3_ n4_; clear hb hbox hg; have hcz11_0 : w10.cell? ⟨gb479, 0, none⟩ = some (.int .i64 0) := (blk_cell BK479.out 0).trans rfl; have hcz11_1 : w10.cell? ⟨gb479, 1, none⟩ = some (.int .i64 0) := (blk_cell BK479.out 1).trans rfl; have hfz11_0 := blk_frozen BK479.out 0; have hfz11_1 := blk_frozen BK479.out 1) | ((with_reducible refine gate_callee (f := 18) rfl ?_); refine goesL_ (some 35) rfl rfl Try.func18 (by kernel_rfl) rfl #[.slice Ao8 t471.length co8, .int .i64 t472, .int .i64 t473] rfl al ?_; (with_reducible refine (spec_ParcelShare.calls k _ _ t471 t472 t473 t480 t481 t482 _ ?side1 ?side2 A5.out).mono ?_); (case side1 => refine (Kd.Q_reads' (e := 33) (base := w.heap.size) (ok := fun k_ => True) (n := t471.length) (c := co8) ?_).2.2; exact (by (with_reducible repeat (first | apply Kd.Q_alloc | apply Kd.Q_drewN | apply Kd.Q_drew)); exact (Kd.Q_mono (Kd.Q_far (p := ⟨gb479, 1, none⟩) (Kd.Q_far (p := ⟨gb479, 0, none⟩) (Kd.Q_types HO475.out BK479.out (by decide)) (fun _ hk => hk.2) (.int .i64 t476)) (fun _ hk => hk.2) (.int .i64 t477)) (fun _ h_ => h_.1)))); (case side2 => exact (Kd.Q_reads' HO475.out).2.1); rintro e w12 ⟨rfl, hb⟩; refine ⟨_, rfl, ?_⟩; have n0_ := Aside0.mk (Kd.Q_below (by (with_reducible repeat (first | apply Kd.Q_alloc | apply Kd.Q_drewN | apply Kd.Q_drew)); exact (Kd.Q_mono (Kd.Q_far (p := ⟨gb479, 1, none⟩) (Kd.Q_far (p := ⟨gb479, 0, none⟩) (Kd.Q_types HO475.out BK479.out (by decide)) (fun _ hk => hk.2) (.int .i64 t476)) (fun _ hk => hk.2) (.int .i64 t477)) (fun _ h_ => h_.1))) hb); have n1_ := Aside0.mk (blk_below (bp BK479.out) hb); have n2_ := Aside0.mk (below_step (lb HB.out) hb); clear HO475; clear BK479; clear HB; have HO475 := n0_; have BK479 := n1_; have HB := n2_; clear n0_ n1_ n2_; (try clear hb); (try clear hb2); (try clear hk); (try clear hi)) | ((with_reducible refine gate_dst (N := 8) rfl ?_); refine bx_ 8 (cs := #[.int .i64 0, .int .i64 0]) (t := 39) ?_; intro gb483 hg w13 hbox hb; have n0_ := Aside0.mk (Kd.Q_below (qm HO475.out) hb); have n1_ := Aside0.mk (blk_below (bf BK479.out) hb); have n2_ := Aside0.mk (below_step (lb HB.out) hb); have n3_ := Aside0.mk (hbox); have n4_ := Aside0.mk ((by rw [hg]; exact (below_size (lb HB.out)) : w.heap.size ≤ gb483)); have n5_ := Aside0.mk ((by rw [hg]; exact (below_size (lb HB.out)) : w.heap.size ≤ gb483)); have n6_ := Aside0.mk ((by rw [hg]; exact Nat.ne_of_lt (blk_lt (bf BK479.out)) : gb479 ≠ gb483)); have n7_ := Aside0.mk ((by rw [hg]; exact Nat.ne_of_gt (blk_lt (bf BK479.out)) : gb483 ≠ gb479)); clear HO475; clear BK479; clear HB; have HO475 := n0_; have BK479 := n1_; have HB := n2_; have BK483 := n3_; have GW483 := n4_; have GE483 := n5_; have NB479_483 := n6_; have NB483_479 := n7_; clear n0_ n1_ n2_ n3_ n4_ n5_ n6_ n7_; clear hb hbox hg; have hnb14 := NB483_479.out; have hnc14 := NB479_483.out; have hcz15_0 : w13.cell? ⟨gb483, 0, none⟩ = some (.int .i64 0) := (blk_cell BK483.out 0).trans rfl; have hcz15_1 : w13.cell? ⟨gb483, 1, none⟩ = some (.int .i64 0) := (blk_cell BK483.out 1).trans rfl; have hfz15_0 := blk_frozen BK483.out 0; have hfz15_1 := blk_frozen BK483.out 1))
  (try simp only [Act.put, List.setIfInBounds_toArray, List.set_cons_zero, List.set_cons_succ])
  go_cut [49] (fun v49 wc => ∃ (kq : Nat) (x49_5 : Bool), v49 = .bool x49_5 ∧ Aside0 (laws_FnShareParcel.j0 kq t471 t472 t473 t478 t482 x49_5 t476 t477 t480 t481 = some r) ∧ Aside0 (kq ≤ k) ∧ Aside0 (Kd.Q k33 33 wc w.heap.size (fun _ => True) (.slice Ao8 t471.length co8) t471) ∧ Aside0 (wc.heap[gb479]? = some (.cells #[.int .i64 t476, .int .i64 t477] 39 (0, 0))) ∧ Aside0 (wc.heap[gb483]? = some (.cells #[.int .i64 t480, .int .i64 t481] 39 (0, 0))) ∧ Aside0 (Below w.heap.size w wc))
  case first =>
   have H := HC6.out
   clear HC6
   by_cases c16 : (t478 != t482) = true
   ·rw [if_pos c16] at H
    have c16b0 : (t478 != t482) = true := c16
    (try (have c16b1 : decide (t478 = t482) = false := by simpa using c16))
    (try (have c16b2 : (t478 == t482) = false := by simpa using c16))
    (try (have c16b3 : ¬ (t478 = t482) := by simpa using c16))
    clear c16
    (first | rw [c16b0] | (simp only [i64_w, i32_w]; rw [c16b0]) | skip)
    have H' := Aside0.mk H
    clear H
    go_wp2
    go_meet
    case rel => exact ⟨_, (true), (by first | rfl | (simp; done) | (simp [*]; done)), H', ⟨by first | omega | exact Nat.le_refl _⟩, ⟨by (with_reducible repeat (first | apply Kd.Q_alloc | apply Kd.Q_drewN | apply Kd.Q_drew)); exact Kd.Q_mono (Kd.Q_far (p := ⟨gb483, 1, none⟩) (Kd.Q_far (p := ⟨gb483, 0, none⟩) (Kd.Q_types HO475.out BK483.out (by decide)) (fun _ hk => hk.2) (.int .i64 t480)) (fun _ hk => hk.2) (.int .i64 t481)) (fun _ hk => trivial)⟩, ⟨by (with_reducible repeat (first | refine blk_drewN ?_ _ | refine blk_drew ?_ | refine blk_alloc ?_ _)); refine blk_far ?_ NB479_483.out _; (with_reducible repeat (first | refine blk_drewN ?_ _ | refine blk_drew ?_ | refine blk_alloc ?_ _)); refine blk_far ?_ NB479_483.out _; (with_reducible repeat (first | refine blk_drewN ?_ _ | refine blk_drew ?_ | refine blk_alloc ?_ _)); exact BK479.out⟩, ⟨by (with_reducible repeat (first | refine blk_drewN ?_ _ | refine blk_drew ?_ | refine blk_alloc ?_ _)); refine blk_put (cs := #[.int .i64 t480, .int .i64 0]) ?_ 1 _ rfl; (with_reducible repeat (first | refine blk_drewN ?_ _ | refine blk_drew ?_ | refine blk_alloc ?_ _)); refine blk_put (cs := #[.int .i64 0, .int .i64 0]) ?_ 0 _ rfl; (with_reducible repeat (first | refine blk_drewN ?_ _ | refine blk_drew ?_ | refine blk_alloc ?_ _)); exact BK483.out⟩, ⟨lb HB.out⟩⟩
   ·rw [if_neg c16] at H
    have c16b0 : (t478 != t482) = false := by simpa using c16
    (try (have c16b1 : decide (t478 = t482) = true := by simpa using c16))
    (try (have c16b2 : (t478 == t482) = true := by simpa using c16))
    clear c16
    (first | rw [c16b0] | (simp only [i64_w, i32_w]; rw [c16b0]) | skip)
    by_cases c17 : (!(t476 == t480) || (!(t477 == t481))) = true
    ·rw [if_pos c17] at H
     have c17b0 : (!(t476 == t480) || (!(t477 == t481))) = true := c17
     clear c17
     have H' := Aside0.mk H
     clear H
     have hnb18 := NB479_483.out
     have hnc18 := NB483_479.out
     have hcz19_0 : w13.cell? ⟨gb479, 0, none⟩ = some (.int .i64 t476) := (blk_cell BK479.out 0).trans rfl
     have hcz19_1 : w13.cell? ⟨gb479, 1, none⟩ = some (.int .i64 t477) := (blk_cell BK479.out 1).trans rfl
     have hfz19_0 := blk_frozen BK479.out 0
     have hfz19_1 := blk_frozen BK479.out 1
     have hcz20_0 : w13.cell? ⟨gb483, 0, none⟩ = some (.int .i64 0) := (blk_cell BK483.out 0).trans rfl
     have hcz20_1 : w13.cell? ⟨gb483, 1, none⟩ = some (.int .i64 0) := (blk_cell BK483.out 1).trans rfl
     have hfz20_0 := blk_frozen BK483.out 0
     have hfz20_1 := blk_frozen BK483.out 1
     go_wp2
     go_meet
     case rel => exact ⟨_, (true), (by first | rfl | (simp; done) | (simp [*]; done)), H', ⟨by first | omega | exact Nat.le_refl _⟩, ⟨by (with_reducible repeat (first | apply Kd.Q_alloc | apply Kd.Q_drewN | apply Kd.Q_drew)); exact Kd.Q_mono (Kd.Q_far (p := ⟨gb483, 1, none⟩) (Kd.Q_far (p := ⟨gb483, 0, none⟩) (Kd.Q_types HO475.out BK483.out (by decide)) (fun _ hk => hk.2) (.int .i64 t480)) (fun _ hk => hk.2) (.int .i64 t481)) (fun _ hk => trivial)⟩, ⟨by (with_reducible repeat (first | refine blk_drewN ?_ _ | refine blk_drew ?_ | refine blk_alloc ?_ _)); refine blk_far ?_ NB479_483.out _; (with_reducible repeat (first | refine blk_drewN ?_ _ | refine blk_drew ?_ | refine blk_alloc ?_ _)); refine blk_far ?_ NB479_483.out _; (with_reducible repeat (first | refine blk_drewN ?_ _ | refine blk_drew ?_ | refine blk_alloc ?_ _)); exact BK479.out⟩, ⟨by (with_reducible repeat (first | refine blk_drewN ?_ _ | refine blk_drew ?_ | refine blk_alloc ?_ _)); refine blk_put (cs := #[.int .i64 t480, .int .i64 0]) ?_ 1 _ rfl; (with_reducible repeat (first | refine blk_drewN ?_ _ | refine blk_drew ?_ | refine blk_alloc ?_ _)); refine blk_put (cs := #[.int .i64 0, .int .i64 0]) ?_ 0 _ rfl; (with_reducible repeat (first | refine blk_drewN ?_ _ | refine blk_drew ?_ | refine blk_alloc ?_ _)); exact BK483.out⟩, ⟨lb HB.out⟩⟩
    ·rw [if_neg c17] at H
     have c17b0 : (!(t476 == t480) || (!(t477 == t481))) = false := by simpa using c17
     clear c17
     have H' := Aside0.mk H
     clear H
     have hnb21 := NB479_483.out
     have hnc21 := NB483_479.out
     have hcz22_0 : w13.cell? ⟨gb479, 0, none⟩ = some (.int .i64 t476) := (blk_cell BK479.out 0).trans rfl
     have hcz22_1 : w13.cell? ⟨gb479, 1, none⟩ = some (.int .i64 t477) := (blk_cell BK479.out 1).trans rfl
     have hfz22_0 := blk_frozen BK479.out 0
     have hfz22_1 := blk_frozen BK479.out 1
     have hcz23_0 : w13.cell? ⟨gb483, 0, none⟩ = some (.int .i64 0) := (blk_cell BK483.out 0).trans rfl
     have hcz23_1 : w13.cell? ⟨gb483, 1, none⟩ = some (.int .i64 0) := (blk_cell BK483.out 1).trans rfl
     have hfz23_0 := blk_frozen BK483.out 0
     have hfz23_1 := blk_frozen BK483.out 1
     go_wp2
     go_meet
     case rel => exact ⟨_, (!t478), (by first | rfl | (simp; done) | (simp [*]; done)), H', ⟨by first | omega | exact Nat.le_refl _⟩, ⟨by (with_reducible repeat (first | apply Kd.Q_alloc | apply Kd.Q_drewN | apply Kd.Q_drew)); exact Kd.Q_mono (Kd.Q_far (p := ⟨gb483, 1, none⟩) (Kd.Q_far (p := ⟨gb483, 0, none⟩) (Kd.Q_types HO475.out BK483.out (by decide)) (fun _ hk => hk.2) (.int .i64 t480)) (fun _ hk => hk.2) (.int .i64 t481)) (fun _ hk => trivial)⟩, ⟨by (with_reducible repeat (first | refine blk_drewN ?_ _ | refine blk_drew ?_ | refine blk_alloc ?_ _)); refine blk_far ?_ NB479_483.out _; (with_reducible repeat (first | refine blk_drewN ?_ _ | refine blk_drew ?_ | refine blk_alloc ?_ _)); refine blk_far ?_ NB479_483.out _; (with_reducible repeat (first | refine blk_drewN ?_ _ | refine blk_drew ?_ | refine blk_alloc ?_ _)); exact BK479.out⟩, ⟨by (with_reducible repeat (first | refine blk_drewN ?_ _ | refine blk_drew ?_ | refine blk_alloc ?_ _)); refine blk_put (cs := #[.int .i64 t480, .int .i64 0]) ?_ 1 _ rfl; (with_reducible repeat (first | refine blk_drewN ?_ _ | refine blk_drew ?_ | refine blk_alloc ?_ _)); refine blk_put (cs := #[.int .i64 0, .int .i64 0]) ?_ 0 _ rfl; (with_reducible repeat (first | refine blk_drewN ?_ _ | refine blk_drew ?_ | refine blk_alloc ?_ _)); exact BK483.out⟩, ⟨lb HB.out⟩⟩
  case rest =>
   clear HC6
   try clear c1
   try clear c2
   try clear c2b0
   try clear c2b1
   try clear p2
   try clear c4
   try clear c14
   try clear c16
   try clear c16b0
   try clear c16b1
   try clear c16b2
   try clear c17
   try clear c17b0
   try clear c18
   try clear c21
   try clear hcz11_0
   try clear hcz11_1
   try clear hcz15_0
   try clear hcz15_1
   try clear hcz19_0
   try clear hcz19_1
   try clear hcz20_0
   try clear hcz20_1
   try clear hcz22_0
   try clear hcz22_1
   try clear hcz23_0
   try clear hcz23_1
   try clear hfz11_0
   try clear hfz11_1
   try clear hfz15_0
   try clear hfz15_1
   try clear hfz19_0
   try clear hfz19_1
   try clear hfz20_0
   try clear hfz20_1
   try clear hfz22_0
   try clear hfz22_1
   try clear hfz23_0
   try clear hfz23_1
   obtain ⟨kq, x49_5, rfl, HA, HJ5, HO_3, BK479, BK483, HB⟩ := hcut
   cases kq with
   | zero => exact absurd HA.out (by simp [laws_FnShareParcel.j0])
   | succ kj5 =>
    have H := HA.out
    clear HA
    simp only [laws_FnShareParcel.j0] at H
    by_cases c24 : x49_5 = true
    ·subst c24
     have H1 : (if (t478 == t482) = true then (some (t476 == t480 && (t477 == t481))) else (some false)) = some r := by rw [if_pos rfl] at H; exact H
     clear H
     have H := H1
     clear H1
     by_cases c25 : (t478 == t482) = true
     ·rw [if_pos c25] at H
      have c25b0 : (t478 == t482) = true := c25
      (try (have c25b1 : decide (t478 = t482) = true := by simpa using c25))
      (try (have c25b2 : (t478 == t482) = true := by simpa using c25))
      clear c25
      obtain rfl := Option.some.inj H
      have hnb26 := NB479_483.out
      have hnc26 := NB483_479.out
      have hcz27_0 : wc.cell? ⟨gb479, 0, none⟩ = some (.int .i64 t476) := (blk_cell BK479.out 0).trans rfl
      have hcz27_1 : wc.cell? ⟨gb479, 1, none⟩ = some (.int .i64 t477) := (blk_cell BK479.out 1).trans rfl
      have hfz27_0 := blk_frozen BK479.out 0
      have hfz27_1 := blk_frozen BK479.out 1
      have hcz28_0 : wc.cell? ⟨gb483, 0, none⟩ = some (.int .i64 t480) := (blk_cell BK483.out 0).trans rfl
      have hcz28_1 : wc.cell? ⟨gb483, 1, none⟩ = some (.int .i64 t481) := (blk_cell BK483.out 1).trans rfl
      have hfz28_0 := blk_frozen BK483.out 0
      have hfz28_1 := blk_frozen BK483.out 1
      go_wp2
      go_ret
      exact ⟨er, lb HB.out⟩
     ·rw [if_neg c25] at H
      have c25b0 : (t478 == t482) = false := by simpa using c25
      (try (have c25b1 : decide (t478 = t482) = false := by simpa using c25))
      (try (have c25b2 : (t478 == t482) = false := by simpa using c25))
      (try (have c25b3 : ¬ (t478 = t482) := by simpa using c25))
      clear c25
      obtain rfl := Option.some.inj H
      go_wp2
      go_ret
      exact ⟨er, lb HB.out⟩
    ·replace c24 := Bool.eq_false_iff.mpr c24
     subst c24
     have H1 : ((laws_begunAt.f t471 t473).bind fun t484 => ((impl_ParcelShare.f kj5 t484 0 (wrap64 ((wrap64 ((t471.length : Int) - t473)) + t472))).bind fun bt487 => ((impl_QuoAdd.f kj5 t476 t477 bt487.1 bt487.2.1).bind fun bt491 => (if t476 > 0 then (if t476 < t477 then (if bt487.2.2 = true then (if bt491.2.2 = true then ((laws_whole.f 1).bind fun bt495 => (some (bt491.1 == bt495.1 && (bt491.2.1 == bt495.2)))) else (some false)) else (some false)) else (some false)) else (some false))))) = some r := by rw [if_neg (show ¬ (false = true) by decide)] at H; exact H
     clear H
     have H := H1
     clear H1
     replace H := Option.bind_eq_some_iff.mp H
     obtain ⟨t484, A290, H⟩ := H
     replace H : ((impl_ParcelShare.f kj5 t484 0 (wrap64 ((wrap64 ((t471.length : Int) - t473)) + t472))).bind fun bt487 => ((impl_QuoAdd.f kj5 t476 t477 bt487.1 bt487.2.1).bind fun bt491 => (if t476 > 0 then (if t476 < t477 then (if bt487.2.2 = true then (if bt491.2.2 = true then ((laws_whole.f 1).bind fun bt495 => (some (bt491.1 == bt495.1 && (bt491.2.1 == bt495.2)))) else (some false)) else (some false)) else (some false)) else (some false)))) = some r := H
     have A29 := Aside0.mk A290
     clear A290
     replace H := Option.bind_eq_some_iff.mp H
     obtain ⟨⟨t487, t488, t489⟩, A300, H⟩ := H
     replace H : ((impl_QuoAdd.f kj5 t476 t477 t487 t488).bind fun bt491 => (if t476 > 0 then (if t476 < t477 then (if t489 = true then (if bt491.2.2 = true then ((laws_whole.f 1).bind fun bt495 => (some (bt491.1 == bt495.1 && (bt491.2.1 == bt495.2)))) else (some false)) else (some false)) else (some false)) else (some false))) = some r := H
     have A30 := Aside0.mk A300
     clear A300
     replace H := Option.bind_eq_some_iff.mp H
     obtain ⟨⟨t491, t492, t493⟩, A310, H⟩ := H
     replace H : (if t476 > 0 then (if t476 < t477 then (if t489 = true then (if t493 = true then ((laws_whole.f 1).bind fun bt495 => (some (t491 == bt495.1 && (t492 == bt495.2)))) else (some false)) else (some false)) else (some false)) else (some false)) = some r := H
     have A31 := Aside0.mk A310
     clear A310
     by_cases c32 : t476 > 0
     ·rw [if_pos c32] at H
      have c32b0 : decide (0 < t476) = true := decide_eq_true c32
      clear c32
      by_cases c33 : t476 < t477
      ·rw [if_pos c33] at H
       have c33b0 : decide (t476 < t477) = true := decide_eq_true c33
       clear c33
       by_cases c34 : t489 = true
       ·subst c34
        have H1 : (if t493 = true then ((laws_whole.f 1).bind fun bt495 => (some (t491 == bt495.1 && (t492 == bt495.2)))) else (some false)) = some r := by rw [if_pos rfl] at H; exact H
        clear H
        have H := H1
        clear H1
        by_cases c35 : t493 = true
        ·subst c35
         have H1 : ((laws_whole.f 1).bind fun bt495 => (some (t491 == bt495.1 && (t492 == bt495.2)))) = some r := by rw [if_pos rfl] at H; exact H
         clear H
         have H := H1
         clear H1
         replace H := Option.bind_eq_some_iff.mp H
         obtain ⟨⟨t495, t496⟩, A360, H⟩ := H
         replace H : (some (t491 == t495 && (t492 == t496))) = some r := H
         have A36 := Aside0.mk A360
         clear A360
         obtain rfl := Option.some.inj H
         try go_wp2_with (first | ((with_reducible refine gate_callee (f := 19) rfl ?_); refine goesL_ (some 63) rfl rfl Try.func19 (by kernel_rfl) rfl #[.slice Ao8 t471.length co8, .int .i64 t473] rfl al ?_; (with_reducible refine (laws_begunAt.calls _ _ t471 t473 t484 _ ?side1 ?side2 A29.out).mono ?_); (case side1 => repeat (first | exact (Kd.Q_reads' HO_3.out).2.2 | (with_reducible refine Kd.C_alloc ?_ _) | (with_reducible refine Kd.C_drewN ?_ _) | (with_reducible refine Kd.C_drew ?_))); (case side2 => exact (Kd.Q_reads' HO_3.out).2.1); rintro e w37 ⟨v485, rfl, ho0, hb⟩; refine ⟨_, rfl, ?_⟩; have n0_ := Aside0.mk (Kd.Q_elder' (qm HO_3.out) (Kd.R_base ho0) hb); have n1_ := Aside0.mk (Kd.R_lower (Kd.R_new' ho0 (Kd.Q_lt (qm HO_3.out))) (below_size (lb HB.out))); have n2_ := Aside0.mk (blk_below (bf BK479.out) hb); have n3_ := Aside0.mk (blk_below (bf BK483.out) hb); have n4_ := Aside0.mk (below_step (lb HB.out) hb); clear HO_3; clear BK479; clear BK483; clear HB; have HO_3 := n0_; have HO486 := n1_; have BK479 := n2_; have BK483 := n3_; have HB := n4_; clear n0_ n1_ n2_ n3_ n4_; (try clear hb); (try clear hb2); (try clear hk); (try clear hi); (try clear ho0); obtain ⟨Ao38, co38, eo38⟩ := Kd.R_slice HO486.out; subst eo38) | ((with_reducible refine gate_callee (f := 17) rfl ?_); refine goesL_ (some 69) rfl rfl Try.func17 (by kernel_rfl) rfl #[.slice Ao38 t484.length co38, .int .i64 0, .int .i64 (wrap64 ((wrap64 ((t471.length : Int) - t473)) + t472))] rfl al ?_; (with_reducible refine (impl_ParcelShare.calls kj5 _ _ t484 0 (wrap64 ((wrap64 ((t471.length : Int) - t473)) + t472)) t487 t488 true _ ?side1 ?side2 A30.out).mono ?_); (case side1 => exact cm (Kd.R_reads' HO486.out).2.2); (case side2 => exact (Kd.R_reads' HO486.out).2.1); rintro e w39 ⟨rfl, hb⟩; refine ⟨_, rfl, ?_⟩; have n0_ := Aside0.mk (Kd.Q_below (qm HO_3.out) hb); have n1_ := Aside0.mk (Kd.R_below (rm HO486.out) hb); have n2_ := Aside0.mk (blk_below (bf BK479.out) hb); have n3_ := Aside0.mk (blk_below (bf BK483.out) hb); have n4_ := Aside0.mk (below_step (lb HB.out) hb); clear HO_3; clear HO486; clear BK479; clear BK483; clear HB; have HO_3 := n0_; have HO486 := n1_; have BK479 := n2_; have BK483 := n3_; have HB := n4_; clear n0_ n1_ n2_ n3_ n4_; (try clear hb); (try clear hb2); (try clear hk); (try clear hi)) | ((with_reducible refine gate_dst (N := 11) rfl ?_); refine bx_ 11 (cs := #[.int .i64 0, .int .i64 0]) (t := 39) ?_; intro gb490 hg w40 hbox hb; have n0_ := Aside0.mk (Kd.Q_below (qm HO_3.out) hb); have n1_ := Aside0.mk (Kd.R_below (rm HO486.out) hb); have n2_ := Aside0.mk (blk_below (bf BK479.out) hb); have n3_ := Aside0.mk (blk_below (bf BK483.out) hb); have n4_ := Aside0.mk (below_step (lb HB.out) hb); have n5_ := Aside0.mk (hbox); have n6_ := Aside0.mk ((by rw [hg]; exact (below_size (lb HB.out)) : w.heap.size ≤ gb490)); have n7_ := Aside0.mk ((by rw [hg]; exact (below_size (lb HB.out)) : w.heap.size ≤ gb490)); have n8_ := Aside0.mk ((by rw [hg]; exact Nat.ne_of_lt (blk_lt (bf BK479.out)) : gb479 ≠ gb490)); have n9_ := Aside0.mk ((by rw [hg]; exact Nat.ne_of_gt (blk_lt (bf BK479.out)) : gb490 ≠ gb479)); have n10_ := Aside0.mk ((by rw [hg]; exact Nat.ne_of_lt (blk_lt (bf BK483.out)) : gb483 ≠ gb490)); have n11_ := Aside0.mk ((by rw [hg]; exact Nat.ne_of_gt (blk_lt (bf BK483.out)) : gb490 ≠ gb483)); clear HO_3; clear HO486; clear BK479; clear BK483; clear HB; have HO_3 := n0_; have HO486 := n1_; have BK479 := n2_; have BK483 := n3_; have HB := n4_; have BK490 := n5_; have GW490 := n6_; have GE490 := n7_; have NB479_490 := n8_; have NB490_479 := n9_; have NB483_490 := n10_; have NB490_483 := n11_; clear n0_ n1_ n2_ n3_ n4_ n5_ n6_ n7_ n8_ n9_ n10_ n11_; clear hb hbox hg; have hnb41 := NB490_479.out; have hnc41 := NB479_490.out; have hnb42 := NB490_483.out; have hnc42 := NB483_490.out; have hcz43_0 : w40.cell? ⟨gb490, 0, none⟩ = some (.int .i64 0) := (blk_cell BK490.out 0).trans rfl; have hcz43_1 : w40.cell? ⟨gb490, 1, none⟩ = some (.int .i64 0) := (blk_cell BK490.out 1).trans rfl; have hfz43_0 := blk_frozen BK490.out 0; have hfz43_1 := blk_frozen BK490.out 1; have hnb44 := NB479_483.out; have hnc44 := NB483_479.out; have hcz45_0 : w40.cell? ⟨gb479, 0, none⟩ = some (.int .i64 t476) := (blk_cell BK479.out 0).trans rfl; have hcz45_1 : w40.cell? ⟨gb479, 1, none⟩ = some (.int .i64 t477) := (blk_cell BK479.out 1).trans rfl; have hfz45_0 := blk_frozen BK479.out 0; have hfz45_1 := blk_frozen BK479.out 1) | ((with_reducible refine gate_callee (f := 20) rfl ?_); refine goesL_ (some 75) rfl rfl Try.func20 (by kernel_rfl) rfl #[.agg #[.int .i64 t476, .int .i64 t477], .agg #[.int .i64 t487, .int .i64 t488]] rfl al ?_; (with_reducible refine (impl_QuoAdd.calls kj5 t476 t477 t487 t488 t491 t492 true _ A31.out).mono ?_); rintro e w46 ⟨rfl, hb⟩; refine ⟨_, rfl, ?_⟩; have n0_ := Aside0.mk (Kd.Q_below (by (with_reducible repeat (first | apply Kd.Q_alloc | apply Kd.Q_drewN | apply Kd.Q_drew)); exact (Kd.Q_mono (Kd.Q_far (p := ⟨gb490, 1, none⟩) (Kd.Q_far (p := ⟨gb490, 0, none⟩) (Kd.Q_types HO_3.out BK490.out (by decide)) (fun _ hk => hk.2) (.int .i64 t487)) (fun _ hk => hk.2) (.int .i64 t488)) (fun _ h_ => h_.1))) hb); have n1_ := Aside0.mk (Kd.R_below (by (with_reducible repeat (first | apply Kd.R_alloc | apply Kd.R_drewN | apply Kd.R_drew)); exact (Kd.R_mono (Kd.R_far (p := ⟨gb490, 1, none⟩) (Kd.R_far (p := ⟨gb490, 0, none⟩) (Kd.R_types HO486.out BK490.out (by decide)) (fun _ hk => hk.2) (.int .i64 t487)) (fun _ hk => hk.2) (.int .i64 t488)) (fun _ h_ => h_.1))) hb); have n2_ := Aside0.mk (blk_below (bf BK479.out) hb); have n3_ := Aside0.mk (blk_below (bf BK483.out) hb); have n4_ := Aside0.mk (blk_below (bp BK490.out) hb); have n5_ := Aside0.mk (below_step (lb HB.out) hb); clear HO_3; clear HO486; clear BK479; clear BK483; clear BK490; clear HB; have HO_3 := n0_; have HO486 := n1_; have BK479 := n2_; have BK483 := n3_; have BK490 := n4_; have HB := n5_; clear n0_ n1_ n2_ n3_ n4_ n5_; (try clear hb); (try clear hb2); (try clear hk); (try clear hi)) | ((with_reducible refine gate_dst (N := 13) rfl ?_); refine bx_ 13 (cs := #[.int .i64 0, .int .i64 0]) (t := 39) ?_; intro gb494 hg w47 hbox hb; have n0_ := Aside0.mk (Kd.Q_below (qm HO_3.out) hb); have n1_ := Aside0.mk (Kd.R_below (rm HO486.out) hb); have n2_ := Aside0.mk (blk_below (bf BK479.out) hb); have n3_ := Aside0.mk (blk_below (bf BK483.out) hb); have n4_ := Aside0.mk (blk_below (bf BK490.out) hb); have n5_ := Aside0.mk (below_step (lb HB.out) hb); have n6_ := Aside0.mk (hbox); have n7_ := Aside0.mk ((by rw [hg]; exact (below_size (lb HB.out)) : w.heap.size ≤ gb494)); have n8_ := Aside0.mk ((by rw [hg]; exact (below_size (lb HB.out)) : w.heap.size ≤ gb494)); have n9_ := Aside0.mk ((by rw [hg]; exact Nat.ne_of_lt (blk_lt (bf BK479.out)) : gb479 ≠ gb494)); have n10_ := Aside0.mk ((by rw [hg]; exact Nat.ne_of_gt (blk_lt (bf BK479.out)) : gb494 ≠ gb479)); have n11_ := Aside0.mk ((by rw [hg]; exact Nat.ne_of_lt (blk_lt (bf BK483.out)) : gb483 ≠ gb494)); have n12_ := Aside0.mk ((by rw [hg]; exact Nat.ne_of_gt (blk_lt (bf BK483.out)) : gb494 ≠ gb483)); have n13_ := Aside0.mk ((by rw [hg]; exact Nat.ne_of_lt (blk_lt (bf BK490.out)) : gb490 ≠ gb494)); have n14_ := Aside0.mk ((by rw [hg]; exact Nat.ne_of_gt (blk_lt (bf BK490.out)) : gb494 ≠ gb490)); clear HO_3; clear HO486; clear BK479; clear BK483; clear BK490; clear HB; have HO_3 := n0_; have HO486 := n1_; have BK479 := n2_; have BK483 := n3_; have BK490 := n4_; have HB := n5_; have BK494 := n6_; have GW494 := n7_; have GE494 := n8_; have NB479_494 := n9_; have NB494_479 := n10_; have NB483_494 := n11_; have NB494_483 := n12_; have NB490_494 := n13_; have NB494_490 := n14_; clear n0_ n1_ n2_ n3_ n4_ n5_ n6_ n7_ n8_ n9_ n10_ n11_ n12_ n13_ n14_; clear hb hbox hg; have hnb48 := NB494_479.out; have hnc48 := NB479_494.out; have hnb49 := NB494_483.out; have hnc49 := NB483_494.out; have hnb50 := NB494_490.out; have hnc50 := NB490_494.out; have hcz51_0 : w47.cell? ⟨gb494, 0, none⟩ = some (.int .i64 0) := (blk_cell BK494.out 0).trans rfl; have hcz51_1 : w47.cell? ⟨gb494, 1, none⟩ = some (.int .i64 0) := (blk_cell BK494.out 1).trans rfl; have hfz51_0 := blk_frozen BK494.out 0; have hfz51_1 := blk_frozen BK494.out 1))
         have n0_ : Aside0 (Kd.Q k33 33 ((w47.setCell ⟨gb494, 0, none⟩ (.int .i64 t491)).setCell ⟨gb494, 1, none⟩ (.int .i64 t492)) w.heap.size (fun k_ => some k_ ≠ (.slice Ao38 t484.length co38 : Value).ownBlock) (.slice Ao8 t471.length co8) t471) := ⟨by (with_reducible repeat (first | apply Kd.Q_alloc | apply Kd.Q_drewN | apply Kd.Q_drew)); exact Kd.Q_mono (Kd.Q_far (p := ⟨gb494, 1, none⟩) (Kd.Q_far (p := ⟨gb494, 0, none⟩) (Kd.Q_types HO_3.out BK494.out (by decide)) (fun _ hk => hk.2) (.int .i64 t491)) (fun _ hk => hk.2) (.int .i64 t492)) (fun _ hk => hk.1.2)⟩
         have n1_ : Aside0 (Kd.R k33 33 ((w47.setCell ⟨gb494, 0, none⟩ (.int .i64 t491)).setCell ⟨gb494, 1, none⟩ (.int .i64 t492)) w.heap.size (fun k_ => some k_ ≠ (.slice Ao8 t471.length co8 : Value).ownBlock) (.slice Ao38 t484.length co38) t484) := ⟨by (with_reducible repeat (first | apply Kd.R_alloc | apply Kd.R_drewN | apply Kd.R_drew)); exact Kd.R_mono (Kd.R_far (p := ⟨gb494, 1, none⟩) (Kd.R_far (p := ⟨gb494, 0, none⟩) (Kd.R_types HO486.out BK494.out (by decide)) (fun _ hk => hk.2) (.int .i64 t491)) (fun _ hk => hk.2) (.int .i64 t492)) (fun _ hk => hk.1.2)⟩
         have n2_ : Aside0 (((w47.setCell ⟨gb494, 0, none⟩ (.int .i64 t491)).setCell ⟨gb494, 1, none⟩ (.int .i64 t492)).heap[gb479]? = some (.cells #[.int .i64 t476, .int .i64 t477] 39 (0, 0))) := ⟨by (with_reducible repeat (first | refine blk_drewN ?_ _ | refine blk_drew ?_ | refine blk_alloc ?_ _)); refine blk_far ?_ NB479_494.out _; (with_reducible repeat (first | refine blk_drewN ?_ _ | refine blk_drew ?_ | refine blk_alloc ?_ _)); refine blk_far ?_ NB479_494.out _; (with_reducible repeat (first | refine blk_drewN ?_ _ | refine blk_drew ?_ | refine blk_alloc ?_ _)); exact BK479.out⟩
         have n3_ : Aside0 (((w47.setCell ⟨gb494, 0, none⟩ (.int .i64 t491)).setCell ⟨gb494, 1, none⟩ (.int .i64 t492)).heap[gb483]? = some (.cells #[.int .i64 t480, .int .i64 t481] 39 (0, 0))) := ⟨by (with_reducible repeat (first | refine blk_drewN ?_ _ | refine blk_drew ?_ | refine blk_alloc ?_ _)); refine blk_far ?_ NB483_494.out _; (with_reducible repeat (first | refine blk_drewN ?_ _ | refine blk_drew ?_ | refine blk_alloc ?_ _)); refine blk_far ?_ NB483_494.out _; (with_reducible repeat (first | refine blk_drewN ?_ _ | refine blk_drew ?_ | refine blk_alloc ?_ _)); exact BK483.out⟩
         have n4_ : Aside0 (((w47.setCell ⟨gb494, 0, none⟩ (.int .i64 t491)).setCell ⟨gb494, 1, none⟩ (.int .i64 t492)).heap[gb490]? = some (.cells #[.int .i64 t487, .int .i64 t488] 39 (0, 0))) := ⟨by (with_reducible repeat (first | refine blk_drewN ?_ _ | refine blk_drew ?_ | refine blk_alloc ?_ _)); refine blk_far ?_ NB490_494.out _; (with_reducible repeat (first | refine blk_drewN ?_ _ | refine blk_drew ?_ | refine blk_alloc ?_ _)); refine blk_far ?_ NB490_494.out _; (with_reducible repeat (first | refine blk_drewN ?_ _ | refine blk_drew ?_ | refine blk_alloc ?_ _)); exact BK490.out⟩
         have n5_ : Aside0 (((w47.setCell ⟨gb494, 0, none⟩ (.int .i64 t491)).setCell ⟨gb494, 1, none⟩ (.int .i64 t492)).heap[gb494]? = some (.cells #[.int .i64 t491, .int .i64 t492] 39 (0, 0))) := ⟨by (with_reducible repeat (first | refine blk_drewN ?_ _ | refine blk_drew ?_ | refine blk_alloc ?_ _)); refine blk_put (cs := #[.int .i64 t491, .int .i64 0]) ?_ 1 _ rfl; (with_reducible repeat (first | refine blk_drewN ?_ _ | refine blk_drew ?_ | refine blk_alloc ?_ _)); refine blk_put (cs := #[.int .i64 0, .int .i64 0]) ?_ 0 _ rfl; (with_reducible repeat (first | refine blk_drewN ?_ _ | refine blk_drew ?_ | refine blk_alloc ?_ _)); exact BK494.out⟩
         have n6_ : Aside0 (Below w.heap.size w ((w47.setCell ⟨gb494, 0, none⟩ (.int .i64 t491)).setCell ⟨gb494, 1, none⟩ (.int .i64 t492))) := ⟨lb HB.out⟩
         (try clear HO_3);(try clear HO486);(try clear BK479);(try clear BK483)
         (try clear BK490)
         (try clear BK494)
         (try clear HB)
         generalize ((w47.setCell ⟨gb494, 0, none⟩ (.int .i64 t491)).setCell ⟨gb494, 1, none⟩ (.int .i64 t492)) = w52 at n0_ n1_ n2_ n3_ n4_ n5_ n6_ ⊢
         have HO_3 := n0_
         have HO486 := n1_
         have BK479 := n2_
         have BK483 := n3_
         have BK490 := n4_
         have BK494 := n5_
         have HB := n6_
         clear n0_ n1_ n2_ n3_ n4_ n5_ n6_
         have n0_ := Aside0.mk (Kd.Q_drew HO_3.out)
         have n1_ := Aside0.mk (Kd.R_drew HO486.out)
         have n2_ := Aside0.mk (blk_drew BK479.out)
         have n3_ := Aside0.mk (blk_drew BK483.out)
         have n4_ := Aside0.mk (blk_drew BK490.out)
         have n5_ := Aside0.mk (blk_drew BK494.out)
         have n6_ := Aside0.mk (below_drew1 HB.out)
         clear HO_3 HO486 BK479 BK483 BK490 BK494 HB
         have HO_3 := n0_
         have HO486 := n1_
         have BK479 := n2_
         have BK483 := n3_
         have BK490 := n4_
         have BK494 := n5_
         have HB := n6_
         clear n0_ n1_ n2_ n3_ n4_ n5_ n6_
         refine start_ (n := 22) (S := fun w' => w'.cell? ⟨gb479, 0, none⟩ = some (.int .i64 t476) ∧ w'.cell? ⟨gb479, 1, none⟩ = some (.int .i64 t477) ∧ w'.cell? ⟨gb494, 0, none⟩ = some (.int .i64 t491) ∧ w'.cell? ⟨gb494, 1, none⟩ = some (.int .i64 t492)) (ds := []) #[false,false,false,false,false,false,false,false,false,false,false,false,false,false,false,false,false,false,false,false,false,false] (by kernel_rfl) rfl rfl ⟨(blk_cell BK479.out 0).trans rfl, (blk_cell BK479.out 1).trans rfl, (blk_cell BK494.out 0).trans rfl, (blk_cell BK494.out 1).trans rfl⟩ (fun hHeld => ?_); refine with_tabW laws_FnShareParcel.tab11 laws_FnShareParcel.bits11 (fun HT_ HW_ => ?_)
         generalize w52.drew = w53 at HO_3 HO486 BK479 BK483 BK490 BK494 HB hHeld ⊢
         refine pq_ 0 (some 78) ?_
         refine tq_ 1 (some 79) ?_
         refine pq_ 2 (some 80) ?_
         refine pq_ 3 (some 81) ?_
         refine pq_ 4 (some 82) ?_
         refine pq_ 6 (some 84) ?_
         refine tq_ 5 (some 83) ?_
         refine tq_ 7 (some 85) ?_
         refine pq_ 8 (some 86) ?_
         refine pq_ 9 (some 87) ?_
         refine pq_ 10 (some 88) ?_
         refine pq_ 11 (some 89) ?_
         refine pq_ 12 (some 90) ?_
         refine pq_ 13 (some 91) ?_
         refine pq_ 14 (some 92) ?_
         refine pq_ 15 (some 93) ?_
         refine pq_ 16 (some 94) ?_
         refine tq_ 17 (some 95) ?_
         refine one_ (i := 18) (N := some 96) #[true,true,true,true,true,true,true,true,true,true,true,true,true,true,true,true,true,true,true,false,false,false] rfl rfl (one_of HT_.out (by kernel_rfl)) (by decide) (fun K hK => ?_)
         refine goes_ Try.func21 (by kernel_rfl) rfl #[.int .i64 1] (by rfl) rfl rfl al ?_
         with_reducible refine (laws_whole.calls 1 t495 t496 _ A36.out).mono ?_
         rintro e w54 ⟨rfl, hb⟩
         refine ⟨_, rfl, ?_⟩
         have n0_ := Aside0.mk (Kd.Q_below (qm HO_3.out) hb)
         have n1_ := Aside0.mk (Kd.R_below (rm HO486.out) hb)
         have n2_ := Aside0.mk (blk_below (bf BK479.out) hb)
         have n3_ := Aside0.mk (blk_below (bf BK483.out) hb)
         have n4_ := Aside0.mk (blk_below (bf BK490.out) hb)
         have n5_ := Aside0.mk (blk_below (bf BK494.out) hb)
         have n6_ := Aside0.mk (below_step (lb HB.out) hb)
         clear HO_3 HO486 BK479 BK483 BK490 BK494 HB
         have HO_3 := n0_
         have HO486 := n1_
         have BK479 := n2_
         have BK483 := n3_
         have BK490 := n4_
         have BK494 := n5_
         have HB := n6_
         clear n0_ n1_ n2_ n3_ n4_ n5_ n6_
         (try clear hb);(try clear hb2);(try clear hk);(try clear hi)
         refine hK.out _ _ ⟨(blk_cell BK479.out 0).trans rfl, (blk_cell BK479.out 1).trans rfl, (blk_cell BK494.out 0).trans rfl, (blk_cell BK494.out 1).trans rfl⟩ (fun hHeld => ?_)
         clear hK K
         refine norm_ (a' := ?_) ?_ ?_
         rotate_left
         ·show Act.put _ (some 96) _ = _
          simp only [Act.put, List.setIfInBounds_toArray, List.set_cons_zero, List.set_cons_succ, i64_w, i32_w]
          rfl
         refine pq_ 19 (some 97) ?_
         refine pq_ 20 (some 98) ?_
         refine pq_ 21 (some 2) ?_
         refine done_ (done_of HT_.out (by kernel_rfl)) ?_
         try go_wp2
         go_ret
         exact ⟨er, lb HB.out⟩
        ·replace c35 := Bool.eq_false_iff.mpr c35
         subst c35
         have H1 : (some false) = some r := by rw [if_neg (show ¬ (false = true) by decide)] at H; exact H
         clear H
         have H := H1
         clear H1
         obtain rfl := Option.some.inj H
         try go_wp2_with (first | ((with_reducible refine gate_callee (f := 19) rfl ?_); refine goesL_ (some 63) rfl rfl Try.func19 (by kernel_rfl) rfl #[.slice Ao8 t471.length co8, .int .i64 t473] rfl al ?_; (with_reducible refine (laws_begunAt.calls _ _ t471 t473 t484 _ ?side1 ?side2 A29.out).mono ?_); (case side1 => repeat (first | exact (Kd.Q_reads' HO_3.out).2.2 | (with_reducible refine Kd.C_alloc ?_ _) | (with_reducible refine Kd.C_drewN ?_ _) | (with_reducible refine Kd.C_drew ?_))); (case side2 => exact (Kd.Q_reads' HO_3.out).2.1); rintro e w55 ⟨v485, rfl, ho0, hb⟩; refine ⟨_, rfl, ?_⟩; have n0_ := Aside0.mk (Kd.Q_elder' (qm HO_3.out) (Kd.R_base ho0) hb); have n1_ := Aside0.mk (Kd.R_lower (Kd.R_new' ho0 (Kd.Q_lt (qm HO_3.out))) (below_size (lb HB.out))); have n2_ := Aside0.mk (blk_below (bf BK479.out) hb); have n3_ := Aside0.mk (blk_below (bf BK483.out) hb); have n4_ := Aside0.mk (below_step (lb HB.out) hb); clear HO_3; clear BK479; clear BK483; clear HB; have HO_3 := n0_; have HO486 := n1_; have BK479 := n2_; have BK483 := n3_; have HB := n4_; clear n0_ n1_ n2_ n3_ n4_; (try clear hb); (try clear hb2); (try clear hk); (try clear hi); (try clear ho0); obtain ⟨Ao56, co56, eo56⟩ := Kd.R_slice HO486.out; subst eo56) | ((with_reducible refine gate_callee (f := 17) rfl ?_); refine goesL_ (some 69) rfl rfl Try.func17 (by kernel_rfl) rfl #[.slice Ao56 t484.length co56, .int .i64 0, .int .i64 (wrap64 ((wrap64 ((t471.length : Int) - t473)) + t472))] rfl al ?_; (with_reducible refine (impl_ParcelShare.calls kj5 _ _ t484 0 (wrap64 ((wrap64 ((t471.length : Int) - t473)) + t472)) t487 t488 true _ ?side1 ?side2 A30.out).mono ?_); (case side1 => exact cm (Kd.R_reads' HO486.out).2.2); (case side2 => exact (Kd.R_reads' HO486.out).2.1); rintro e w57 ⟨rfl, hb⟩; refine ⟨_, rfl, ?_⟩; have n0_ := Aside0.mk (Kd.Q_below (qm HO_3.out) hb); have n1_ := Aside0.mk (Kd.R_below (rm HO486.out) hb); have n2_ := Aside0.mk (blk_below (bf BK479.out) hb); have n3_ := Aside0.mk (blk_below (bf BK483.out) hb); have n4_ := Aside0.mk (below_step (lb HB.out) hb); clear HO_3; clear HO486; clear BK479; clear BK483; clear HB; have HO_3 := n0_; have HO486 := n1_; have BK479 := n2_; have BK483 := n3_; have HB := n4_; clear n0_ n1_ n2_ n3_ n4_; (try clear hb); (try clear hb2); (try clear hk); (try clear hi)) | ((with_reducible refine gate_dst (N := 11) rfl ?_); refine bx_ 11 (cs := #[.int .i64 0, .int .i64 0]) (t := 39) ?_; intro gb490 hg w58 hbox hb; have n0_ := Aside0.mk (Kd.Q_below (qm HO_3.out) hb); have n1_ := Aside0.mk (Kd.R_below (rm HO486.out) hb); have n2_ := Aside0.mk (blk_below (bf BK479.out) hb); have n3_ := Aside0.mk (blk_below (bf BK483.out) hb); have n4_ := Aside0.mk (below_step (lb HB.out) hb); have n5_ := Aside0.mk (hbox); have n6_ := Aside0.mk ((by rw [hg]; exact (below_size (lb HB.out)) : w.heap.size ≤ gb490)); have n7_ := Aside0.mk ((by rw [hg]; exact (below_size (lb HB.out)) : w.heap.size ≤ gb490)); have n8_ := Aside0.mk ((by rw [hg]; exact Nat.ne_of_lt (blk_lt (bf BK479.out)) : gb479 ≠ gb490)); have n9_ := Aside0.mk ((by rw [hg]; exact Nat.ne_of_gt (blk_lt (bf BK479.out)) : gb490 ≠ gb479)); have n10_ := Aside0.mk ((by rw [hg]; exact Nat.ne_of_lt (blk_lt (bf BK483.out)) : gb483 ≠ gb490)); have n11_ := Aside0.mk ((by rw [hg]; exact Nat.ne_of_gt (blk_lt (bf BK483.out)) : gb490 ≠ gb483)); clear HO_3; clear HO486; clear BK479; clear BK483; clear HB; have HO_3 := n0_; have HO486 := n1_; have BK479 := n2_; have BK483 := n3_; have HB := n4_; have BK490 := n5_; have GW490 := n6_; have GE490 := n7_; have NB479_490 := n8_; have NB490_479 := n9_; have NB483_490 := n10_; have NB490_483 := n11_; clear n0_ n1_ n2_ n3_ n4_ n5_ n6_ n7_ n8_ n9_ n10_ n11_; clear hb hbox hg; have hnb59 := NB490_479.out; have hnc59 := NB479_490.out; have hnb60 := NB490_483.out; have hnc60 := NB483_490.out; have hcz61_0 : w58.cell? ⟨gb490, 0, none⟩ = some (.int .i64 0) := (blk_cell BK490.out 0).trans rfl; have hcz61_1 : w58.cell? ⟨gb490, 1, none⟩ = some (.int .i64 0) := (blk_cell BK490.out 1).trans rfl; have hfz61_0 := blk_frozen BK490.out 0; have hfz61_1 := blk_frozen BK490.out 1; have hnb62 := NB479_483.out; have hnc62 := NB483_479.out; have hcz63_0 : w58.cell? ⟨gb479, 0, none⟩ = some (.int .i64 t476) := (blk_cell BK479.out 0).trans rfl; have hcz63_1 : w58.cell? ⟨gb479, 1, none⟩ = some (.int .i64 t477) := (blk_cell BK479.out 1).trans rfl; have hfz63_0 := blk_frozen BK479.out 0; have hfz63_1 := blk_frozen BK479.out 1) | ((with_reducible refine gate_callee (f := 20) rfl ?_); refine goesL_ (some 75) rfl rfl Try.func20 (by kernel_rfl) rfl #[.agg #[.int .i64 t476, .int .i64 t477], .agg #[.int .i64 t487, .int .i64 t488]] rfl al ?_; (with_reducible refine (impl_QuoAdd.calls kj5 t476 t477 t487 t488 t491 t492 false _ A31.out).mono ?_); rintro e w64 ⟨rfl, hb⟩; refine ⟨_, rfl, ?_⟩; have n0_ := Aside0.mk (Kd.Q_below (by (with_reducible repeat (first | apply Kd.Q_alloc | apply Kd.Q_drewN | apply Kd.Q_drew)); exact (Kd.Q_mono (Kd.Q_far (p := ⟨gb490, 1, none⟩) (Kd.Q_far (p := ⟨gb490, 0, none⟩) (Kd.Q_types HO_3.out BK490.out (by decide)) (fun _ hk => hk.2) (.int .i64 t487)) (fun _ hk => hk.2) (.int .i64 t488)) (fun _ h_ => h_.1))) hb); have n1_ := Aside0.mk (Kd.R_below (by (with_reducible repeat (first | apply Kd.R_alloc | apply Kd.R_drewN | apply Kd.R_drew)); exact (Kd.R_mono (Kd.R_far (p := ⟨gb490, 1, none⟩) (Kd.R_far (p := ⟨gb490, 0, none⟩) (Kd.R_types HO486.out BK490.out (by decide)) (fun _ hk => hk.2) (.int .i64 t487)) (fun _ hk => hk.2) (.int .i64 t488)) (fun _ h_ => h_.1))) hb); have n2_ := Aside0.mk (blk_below (bf BK479.out) hb); have n3_ := Aside0.mk (blk_below (bf BK483.out) hb); have n4_ := Aside0.mk (blk_below (bp BK490.out) hb); have n5_ := Aside0.mk (below_step (lb HB.out) hb); clear HO_3; clear HO486; clear BK479; clear BK483; clear BK490; clear HB; have HO_3 := n0_; have HO486 := n1_; have BK479 := n2_; have BK483 := n3_; have BK490 := n4_; have HB := n5_; clear n0_ n1_ n2_ n3_ n4_ n5_; (try clear hb); (try clear hb2); (try clear hk); (try clear hi)) | ((with_reducible refine gate_dst (N := 13) rfl ?_); refine bx_ 13 (cs := #[.int .i64 0, .int .i64 0]) (t := 39) ?_; intro gb494 hg w65 hbox hb; have n0_ := Aside0.mk (Kd.Q_below (qm HO_3.out) hb); have n1_ := Aside0.mk (Kd.R_below (rm HO486.out) hb); have n2_ := Aside0.mk (blk_below (bf BK479.out) hb); have n3_ := Aside0.mk (blk_below (bf BK483.out) hb); have n4_ := Aside0.mk (blk_below (bf BK490.out) hb); have n5_ := Aside0.mk (below_step (lb HB.out) hb); have n6_ := Aside0.mk (hbox); have n7_ := Aside0.mk ((by rw [hg]; exact (below_size (lb HB.out)) : w.heap.size ≤ gb494)); have n8_ := Aside0.mk ((by rw [hg]; exact (below_size (lb HB.out)) : w.heap.size ≤ gb494)); have n9_ := Aside0.mk ((by rw [hg]; exact Nat.ne_of_lt (blk_lt (bf BK479.out)) : gb479 ≠ gb494)); have n10_ := Aside0.mk ((by rw [hg]; exact Nat.ne_of_gt (blk_lt (bf BK479.out)) : gb494 ≠ gb479)); have n11_ := Aside0.mk ((by rw [hg]; exact Nat.ne_of_lt (blk_lt (bf BK483.out)) : gb483 ≠ gb494)); have n12_ := Aside0.mk ((by rw [hg]; exact Nat.ne_of_gt (blk_lt (bf BK483.out)) : gb494 ≠ gb483)); have n13_ := Aside0.mk ((by rw [hg]; exact Nat.ne_of_lt (blk_lt (bf BK490.out)) : gb490 ≠ gb494)); have n14_ := Aside0.mk ((by rw [hg]; exact Nat.ne_of_gt (blk_lt (bf BK490.out)) : gb494 ≠ gb490)); clear HO_3; clear HO486; clear BK479; clear BK483; clear BK490; clear HB; have HO_3 := n0_; have HO486 := n1_; have BK479 := n2_; have BK483 := n3_; have BK490 := n4_; have HB := n5_; have BK494 := n6_; have GW494 := n7_; have GE494 := n8_; have NB479_494 := n9_; have NB494_479 := n10_; have NB483_494 := n11_; have NB494_483 := n12_; have NB490_494 := n13_; have NB494_490 := n14_; clear n0_ n1_ n2_ n3_ n4_ n5_ n6_ n7_ n8_ n9_ n10_ n11_ n12_ n13_ n14_; clear hb hbox hg; have hnb66 := NB494_479.out; have hnc66 := NB479_494.out; have hnb67 := NB494_483.out; have hnc67 := NB483_494.out; have hnb68 := NB494_490.out; have hnc68 := NB490_494.out; have hcz69_0 : w65.cell? ⟨gb494, 0, none⟩ = some (.int .i64 0) := (blk_cell BK494.out 0).trans rfl; have hcz69_1 : w65.cell? ⟨gb494, 1, none⟩ = some (.int .i64 0) := (blk_cell BK494.out 1).trans rfl; have hfz69_0 := blk_frozen BK494.out 0; have hfz69_1 := blk_frozen BK494.out 1))
         have n0_ : Aside0 (Kd.Q k33 33 ((w65.setCell ⟨gb494, 0, none⟩ (.int .i64 t491)).setCell ⟨gb494, 1, none⟩ (.int .i64 t492)) w.heap.size (fun k_ => some k_ ≠ (.slice Ao56 t484.length co56 : Value).ownBlock) (.slice Ao8 t471.length co8) t471) := ⟨by (with_reducible repeat (first | apply Kd.Q_alloc | apply Kd.Q_drewN | apply Kd.Q_drew)); exact Kd.Q_mono (Kd.Q_far (p := ⟨gb494, 1, none⟩) (Kd.Q_far (p := ⟨gb494, 0, none⟩) (Kd.Q_types HO_3.out BK494.out (by decide)) (fun _ hk => hk.2) (.int .i64 t491)) (fun _ hk => hk.2) (.int .i64 t492)) (fun _ hk => hk.1.2)⟩
         have n1_ : Aside0 (Kd.R k33 33 ((w65.setCell ⟨gb494, 0, none⟩ (.int .i64 t491)).setCell ⟨gb494, 1, none⟩ (.int .i64 t492)) w.heap.size (fun k_ => some k_ ≠ (.slice Ao8 t471.length co8 : Value).ownBlock) (.slice Ao56 t484.length co56) t484) := ⟨by (with_reducible repeat (first | apply Kd.R_alloc | apply Kd.R_drewN | apply Kd.R_drew)); exact Kd.R_mono (Kd.R_far (p := ⟨gb494, 1, none⟩) (Kd.R_far (p := ⟨gb494, 0, none⟩) (Kd.R_types HO486.out BK494.out (by decide)) (fun _ hk => hk.2) (.int .i64 t491)) (fun _ hk => hk.2) (.int .i64 t492)) (fun _ hk => hk.1.2)⟩
         have n2_ : Aside0 (((w65.setCell ⟨gb494, 0, none⟩ (.int .i64 t491)).setCell ⟨gb494, 1, none⟩ (.int .i64 t492)).heap[gb479]? = some (.cells #[.int .i64 t476, .int .i64 t477] 39 (0, 0))) := ⟨by (with_reducible repeat (first | refine blk_drewN ?_ _ | refine blk_drew ?_ | refine blk_alloc ?_ _)); refine blk_far ?_ NB479_494.out _; (with_reducible repeat (first | refine blk_drewN ?_ _ | refine blk_drew ?_ | refine blk_alloc ?_ _)); refine blk_far ?_ NB479_494.out _; (with_reducible repeat (first | refine blk_drewN ?_ _ | refine blk_drew ?_ | refine blk_alloc ?_ _)); exact BK479.out⟩
         have n3_ : Aside0 (((w65.setCell ⟨gb494, 0, none⟩ (.int .i64 t491)).setCell ⟨gb494, 1, none⟩ (.int .i64 t492)).heap[gb483]? = some (.cells #[.int .i64 t480, .int .i64 t481] 39 (0, 0))) := ⟨by (with_reducible repeat (first | refine blk_drewN ?_ _ | refine blk_drew ?_ | refine blk_alloc ?_ _)); refine blk_far ?_ NB483_494.out _; (with_reducible repeat (first | refine blk_drewN ?_ _ | refine blk_drew ?_ | refine blk_alloc ?_ _)); refine blk_far ?_ NB483_494.out _; (with_reducible repeat (first | refine blk_drewN ?_ _ | refine blk_drew ?_ | refine blk_alloc ?_ _)); exact BK483.out⟩
         have n4_ : Aside0 (((w65.setCell ⟨gb494, 0, none⟩ (.int .i64 t491)).setCell ⟨gb494, 1, none⟩ (.int .i64 t492)).heap[gb490]? = some (.cells #[.int .i64 t487, .int .i64 t488] 39 (0, 0))) := ⟨by (with_reducible repeat (first | refine blk_drewN ?_ _ | refine blk_drew ?_ | refine blk_alloc ?_ _)); refine blk_far ?_ NB490_494.out _; (with_reducible repeat (first | refine blk_drewN ?_ _ | refine blk_drew ?_ | refine blk_alloc ?_ _)); refine blk_far ?_ NB490_494.out _; (with_reducible repeat (first | refine blk_drewN ?_ _ | refine blk_drew ?_ | refine blk_alloc ?_ _)); exact BK490.out⟩
         have n5_ : Aside0 (((w65.setCell ⟨gb494, 0, none⟩ (.int .i64 t491)).setCell ⟨gb494, 1, none⟩ (.int .i64 t492)).heap[gb494]? = some (.cells #[.int .i64 t491, .int .i64 t492] 39 (0, 0))) := ⟨by (with_reducible repeat (first | refine blk_drewN ?_ _ | refine blk_drew ?_ | refine blk_alloc ?_ _)); refine blk_put (cs := #[.int .i64 t491, .int .i64 0]) ?_ 1 _ rfl; (with_reducible repeat (first | refine blk_drewN ?_ _ | refine blk_drew ?_ | refine blk_alloc ?_ _)); refine blk_put (cs := #[.int .i64 0, .int .i64 0]) ?_ 0 _ rfl; (with_reducible repeat (first | refine blk_drewN ?_ _ | refine blk_drew ?_ | refine blk_alloc ?_ _)); exact BK494.out⟩
         have n6_ : Aside0 (Below w.heap.size w ((w65.setCell ⟨gb494, 0, none⟩ (.int .i64 t491)).setCell ⟨gb494, 1, none⟩ (.int .i64 t492))) := ⟨lb HB.out⟩
         (try clear HO_3);(try clear HO486);(try clear BK479);(try clear BK483)
         (try clear BK490)
         (try clear BK494)
         (try clear HB)
         generalize ((w65.setCell ⟨gb494, 0, none⟩ (.int .i64 t491)).setCell ⟨gb494, 1, none⟩ (.int .i64 t492)) = w70 at n0_ n1_ n2_ n3_ n4_ n5_ n6_ ⊢
         have HO_3 := n0_
         have HO486 := n1_
         have BK479 := n2_
         have BK483 := n3_
         have BK490 := n4_
         have BK494 := n5_
         have HB := n6_
         clear n0_ n1_ n2_ n3_ n4_ n5_ n6_
         have n0_ := Aside0.mk (Kd.Q_drew HO_3.out)
         have n1_ := Aside0.mk (Kd.R_drew HO486.out)
         have n2_ := Aside0.mk (blk_drew BK479.out)
         have n3_ := Aside0.mk (blk_drew BK483.out)
         have n4_ := Aside0.mk (blk_drew BK490.out)
         have n5_ := Aside0.mk (blk_drew BK494.out)
         have n6_ := Aside0.mk (below_drew1 HB.out)
         clear HO_3 HO486 BK479 BK483 BK490 BK494 HB
         have HO_3 := n0_
         have HO486 := n1_
         have BK479 := n2_
         have BK483 := n3_
         have BK490 := n4_
         have BK494 := n5_
         have HB := n6_
         clear n0_ n1_ n2_ n3_ n4_ n5_ n6_
         refine start_ (n := 22) (S := fun w' => w'.cell? ⟨gb479, 0, none⟩ = some (.int .i64 t476) ∧ w'.cell? ⟨gb479, 1, none⟩ = some (.int .i64 t477)) (ds := []) #[false,false,false,false,false,false,false,false,false,false,false,false,false,false,false,false,false,false,false,false,false,false] (by kernel_rfl) rfl rfl ⟨(blk_cell BK479.out 0).trans rfl, (blk_cell BK479.out 1).trans rfl⟩ (fun hHeld => ?_); refine with_tabW laws_FnShareParcel.tab11 laws_FnShareParcel.bits11 (fun HT_ HW_ => ?_)
         generalize w70.drew = w71 at HO_3 HO486 BK479 BK483 BK490 BK494 HB hHeld ⊢
         refine pq_ 0 (some 78) ?_
         refine tq_ 1 (some 79) ?_
         refine pq_ 2 (some 80) ?_
         refine pq_ 3 (some 81) ?_
         refine pq_ 4 (some 82) ?_
         refine pq_ 6 (some 84) ?_
         refine tq_ 5 (some 83) ?_
         refine tq_ 7 (some 85) ?_
         refine pq_ 8 (some 86) ?_
         refine pq_ 9 (some 87) ?_
         refine pq_ 10 (some 88) ?_
         refine pq_ 11 (some 89) ?_
         refine pq_ 12 (some 90) ?_
         refine pq_ 13 (some 91) ?_
         refine pq_ 14 (some 92) ?_
         refine pq_ 15 (some 93) ?_
         refine pq_ 16 (some 94) ?_
         refine pure_ (i := 17) (N := some 95) (v := undef) (a' := ?_) #[true,true,true,true,true,true,true,true,true,true,true,true,true,true,true,true,true,true,false,false,false,false] rfl rfl (any_of HT_.out (by kernel_rfl)) (fun _ _ _ h => h) (Or.inr ⟨by rfl, rfl⟩) ?_ ?_
         rotate_left
         ·simp only [Act.put, List.setIfInBounds_toArray, List.set_cons_zero, List.set_cons_succ, i64_w, i32_w]
          rfl
         refine pure_ (i := 18) (N := some 96) (v := undef) (a' := ?_) #[true,true,true,true,true,true,true,true,true,true,true,true,true,true,true,true,true,true,true,false,false,false] rfl rfl (any_of HT_.out (by kernel_rfl)) (fun _ _ _ h => h) (Or.inr ⟨by rfl, rfl⟩) ?_ ?_
         rotate_left
         ·simp only [Act.put, List.setIfInBounds_toArray, List.set_cons_zero, List.set_cons_succ, i64_w, i32_w]
          rfl
         refine pure_ (i := 19) (N := some 97) (v := undef) (a' := ?_) #[true,true,true,true,true,true,true,true,true,true,true,true,true,true,true,true,true,true,true,true,false,false] rfl rfl (any_of HT_.out (by kernel_rfl)) (fun _ _ _ h => h) (Or.inr ⟨by rfl, rfl⟩) ?_ ?_
         rotate_left
         ·simp only [Act.put, List.setIfInBounds_toArray, List.set_cons_zero, List.set_cons_succ, i64_w, i32_w]
          rfl
         refine pq_ 20 (some 98) ?_
         refine pq_ 21 (some 2) ?_
         refine done_ (done_of HT_.out (by kernel_rfl)) ?_
         try go_wp2
         go_ret
         exact ⟨er, lb HB.out⟩
       ·replace c34 := Bool.eq_false_iff.mpr c34
        subst c34
        have H1 : (some false) = some r := by rw [if_neg (show ¬ (false = true) by decide)] at H; exact H
        clear H
        have H := H1
        clear H1
        obtain rfl := Option.some.inj H
        try go_wp2_with (first | ((with_reducible refine gate_callee (f := 19) rfl ?_); refine goesL_ (some 63) rfl rfl Try.func19 (by kernel_rfl) rfl #[.slice Ao8 t471.length co8, .int .i64 t473] rfl al ?_; (with_reducible refine (laws_begunAt.calls _ _ t471 t473 t484 _ ?side1 ?side2 A29.out).mono ?_); (case side1 => repeat (first | exact (Kd.Q_reads' HO_3.out).2.2 | (with_reducible refine Kd.C_alloc ?_ _) | (with_reducible refine Kd.C_drewN ?_ _) | (with_reducible refine Kd.C_drew ?_))); (case side2 => exact (Kd.Q_reads' HO_3.out).2.1); rintro e w72 ⟨v485, rfl, ho0, hb⟩; refine ⟨_, rfl, ?_⟩; have n0_ := Aside0.mk (Kd.Q_elder' (qm HO_3.out) (Kd.R_base ho0) hb); have n1_ := Aside0.mk (Kd.R_lower (Kd.R_new' ho0 (Kd.Q_lt (qm HO_3.out))) (below_size (lb HB.out))); have n2_ := Aside0.mk (blk_below (bf BK479.out) hb); have n3_ := Aside0.mk (blk_below (bf BK483.out) hb); have n4_ := Aside0.mk (below_step (lb HB.out) hb); clear HO_3; clear BK479; clear BK483; clear HB; have HO_3 := n0_; have HO486 := n1_; have BK479 := n2_; have BK483 := n3_; have HB := n4_; clear n0_ n1_ n2_ n3_ n4_; (try clear hb); (try clear hb2); (try clear hk); (try clear hi); (try clear ho0); obtain ⟨Ao73, co73, eo73⟩ := Kd.R_slice HO486.out; subst eo73) | ((with_reducible refine gate_callee (f := 17) rfl ?_); refine goesL_ (some 69) rfl rfl Try.func17 (by kernel_rfl) rfl #[.slice Ao73 t484.length co73, .int .i64 0, .int .i64 (wrap64 ((wrap64 ((t471.length : Int) - t473)) + t472))] rfl al ?_; (with_reducible refine (impl_ParcelShare.calls kj5 _ _ t484 0 (wrap64 ((wrap64 ((t471.length : Int) - t473)) + t472)) t487 t488 false _ ?side1 ?side2 A30.out).mono ?_); (case side1 => exact cm (Kd.R_reads' HO486.out).2.2); (case side2 => exact (Kd.R_reads' HO486.out).2.1); rintro e w74 ⟨rfl, hb⟩; refine ⟨_, rfl, ?_⟩; have n0_ := Aside0.mk (Kd.Q_below (qm HO_3.out) hb); have n1_ := Aside0.mk (Kd.R_below (rm HO486.out) hb); have n2_ := Aside0.mk (blk_below (bf BK479.out) hb); have n3_ := Aside0.mk (blk_below (bf BK483.out) hb); have n4_ := Aside0.mk (below_step (lb HB.out) hb); clear HO_3; clear HO486; clear BK479; clear BK483; clear HB; have HO_3 := n0_; have HO486 := n1_; have BK479 := n2_; have BK483 := n3_; have HB := n4_; clear n0_ n1_ n2_ n3_ n4_; (try clear hb); (try clear hb2); (try clear hk); (try clear hi)) | ((with_reducible refine gate_dst (N := 11) rfl ?_); refine bx_ 11 (cs := #[.int .i64 0, .int .i64 0]) (t := 39) ?_; intro gb490 hg w75 hbox hb; have n0_ := Aside0.mk (Kd.Q_below (qm HO_3.out) hb); have n1_ := Aside0.mk (Kd.R_below (rm HO486.out) hb); have n2_ := Aside0.mk (blk_below (bf BK479.out) hb); have n3_ := Aside0.mk (blk_below (bf BK483.out) hb); have n4_ := Aside0.mk (below_step (lb HB.out) hb); have n5_ := Aside0.mk (hbox); have n6_ := Aside0.mk ((by rw [hg]; exact (below_size (lb HB.out)) : w.heap.size ≤ gb490)); have n7_ := Aside0.mk ((by rw [hg]; exact (below_size (lb HB.out)) : w.heap.size ≤ gb490)); have n8_ := Aside0.mk ((by rw [hg]; exact Nat.ne_of_lt (blk_lt (bf BK479.out)) : gb479 ≠ gb490)); have n9_ := Aside0.mk ((by rw [hg]; exact Nat.ne_of_gt (blk_lt (bf BK479.out)) : gb490 ≠ gb479)); have n10_ := Aside0.mk ((by rw [hg]; exact Nat.ne_of_lt (blk_lt (bf BK483.out)) : gb483 ≠ gb490)); have n11_ := Aside0.mk ((by rw [hg]; exact Nat.ne_of_gt (blk_lt (bf BK483.out)) : gb490 ≠ gb483)); clear HO_3; clear HO486; clear BK479; clear BK483; clear HB; have HO_3 := n0_; have HO486 := n1_; have BK479 := n2_; have BK483 := n3_; have HB := n4_; have BK490 := n5_; have GW490 := n6_; have GE490 := n7_; have NB479_490 := n8_; have NB490_479 := n9_; have NB483_490 := n10_; have NB490_483 := n11_; clear n0_ n1_ n2_ n3_ n4_ n5_ n6_ n7_ n8_ n9_ n10_ n11_; clear hb hbox hg; have hnb76 := NB490_479.out; have hnc76 := NB479_490.out; have hnb77 := NB490_483.out; have hnc77 := NB483_490.out; have hcz78_0 : w75.cell? ⟨gb490, 0, none⟩ = some (.int .i64 0) := (blk_cell BK490.out 0).trans rfl; have hcz78_1 : w75.cell? ⟨gb490, 1, none⟩ = some (.int .i64 0) := (blk_cell BK490.out 1).trans rfl; have hfz78_0 := blk_frozen BK490.out 0; have hfz78_1 := blk_frozen BK490.out 1; have hnb79 := NB479_483.out; have hnc79 := NB483_479.out; have hcz80_0 : w75.cell? ⟨gb479, 0, none⟩ = some (.int .i64 t476) := (blk_cell BK479.out 0).trans rfl; have hcz80_1 : w75.cell? ⟨gb479, 1, none⟩ = some (.int .i64 t477) := (blk_cell BK479.out 1).trans rfl; have hfz80_0 := blk_frozen BK479.out 0; have hfz80_1 := blk_frozen BK479.out 1) | ((with_reducible refine gate_callee (f := 20) rfl ?_); refine goesL_ (some 75) rfl rfl Try.func20 (by kernel_rfl) rfl #[.agg #[.int .i64 t476, .int .i64 t477], .agg #[.int .i64 t487, .int .i64 t488]] rfl al ?_; (with_reducible refine (impl_QuoAdd.calls kj5 t476 t477 t487 t488 t491 t492 t493 _ A31.out).mono ?_); rintro e w81 ⟨rfl, hb⟩; refine ⟨_, rfl, ?_⟩; have n0_ := Aside0.mk (Kd.Q_below (by (with_reducible repeat (first | apply Kd.Q_alloc | apply Kd.Q_drewN | apply Kd.Q_drew)); exact (Kd.Q_mono (Kd.Q_far (p := ⟨gb490, 1, none⟩) (Kd.Q_far (p := ⟨gb490, 0, none⟩) (Kd.Q_types HO_3.out BK490.out (by decide)) (fun _ hk => hk.2) (.int .i64 t487)) (fun _ hk => hk.2) (.int .i64 t488)) (fun _ h_ => h_.1))) hb); have n1_ := Aside0.mk (Kd.R_below (by (with_reducible repeat (first | apply Kd.R_alloc | apply Kd.R_drewN | apply Kd.R_drew)); exact (Kd.R_mono (Kd.R_far (p := ⟨gb490, 1, none⟩) (Kd.R_far (p := ⟨gb490, 0, none⟩) (Kd.R_types HO486.out BK490.out (by decide)) (fun _ hk => hk.2) (.int .i64 t487)) (fun _ hk => hk.2) (.int .i64 t488)) (fun _ h_ => h_.1))) hb); have n2_ := Aside0.mk (blk_below (bf BK479.out) hb); have n3_ := Aside0.mk (blk_below (bf BK483.out) hb); have n4_ := Aside0.mk (blk_below (bp BK490.out) hb); have n5_ := Aside0.mk (below_step (lb HB.out) hb); clear HO_3; clear HO486; clear BK479; clear BK483; clear BK490; clear HB; have HO_3 := n0_; have HO486 := n1_; have BK479 := n2_; have BK483 := n3_; have BK490 := n4_; have HB := n5_; clear n0_ n1_ n2_ n3_ n4_ n5_; (try clear hb); (try clear hb2); (try clear hk); (try clear hi)) | ((with_reducible refine gate_dst (N := 13) rfl ?_); refine bx_ 13 (cs := #[.int .i64 0, .int .i64 0]) (t := 39) ?_; intro gb494 hg w82 hbox hb; have n0_ := Aside0.mk (Kd.Q_below (qm HO_3.out) hb); have n1_ := Aside0.mk (Kd.R_below (rm HO486.out) hb); have n2_ := Aside0.mk (blk_below (bf BK479.out) hb); have n3_ := Aside0.mk (blk_below (bf BK483.out) hb); have n4_ := Aside0.mk (blk_below (bf BK490.out) hb); have n5_ := Aside0.mk (below_step (lb HB.out) hb); have n6_ := Aside0.mk (hbox); have n7_ := Aside0.mk ((by rw [hg]; exact (below_size (lb HB.out)) : w.heap.size ≤ gb494)); have n8_ := Aside0.mk ((by rw [hg]; exact (below_size (lb HB.out)) : w.heap.size ≤ gb494)); have n9_ := Aside0.mk ((by rw [hg]; exact Nat.ne_of_lt (blk_lt (bf BK479.out)) : gb479 ≠ gb494)); have n10_ := Aside0.mk ((by rw [hg]; exact Nat.ne_of_gt (blk_lt (bf BK479.out)) : gb494 ≠ gb479)); have n11_ := Aside0.mk ((by rw [hg]; exact Nat.ne_of_lt (blk_lt (bf BK483.out)) : gb483 ≠ gb494)); have n12_ := Aside0.mk ((by rw [hg]; exact Nat.ne_of_gt (blk_lt (bf BK483.out)) : gb494 ≠ gb483)); have n13_ := Aside0.mk ((by rw [hg]; exact Nat.ne_of_lt (blk_lt (bf BK490.out)) : gb490 ≠ gb494)); have n14_ := Aside0.mk ((by rw [hg]; exact Nat.ne_of_gt (blk_lt (bf BK490.out)) : gb494 ≠ gb490)); clear HO_3; clear HO486; clear BK479; clear BK483; clear BK490; clear HB; have HO_3 := n0_; have HO486 := n1_; have BK479 := n2_; have BK483 := n3_; have BK490 := n4_; have HB := n5_; have BK494 := n6_; have GW494 := n7_; have GE494 := n8_; have NB479_494 := n9_; have NB494_479 := n10_; have NB483_494 := n11_; have NB494_483 := n12_; have NB490_494 := n13_; have NB494_490 := n14_; clear n0_ n1_ n2_ n3_ n4_ n5_ n6_ n7_ n8_ n9_ n10_ n11_ n12_ n13_ n14_; clear hb hbox hg; have hnb83 := NB494_479.out; have hnc83 := NB479_494.out; have hnb84 := NB494_483.out; have hnc84 := NB483_494.out; have hnb85 := NB494_490.out; have hnc85 := NB490_494.out; have hcz86_0 : w82.cell? ⟨gb494, 0, none⟩ = some (.int .i64 0) := (blk_cell BK494.out 0).trans rfl; have hcz86_1 : w82.cell? ⟨gb494, 1, none⟩ = some (.int .i64 0) := (blk_cell BK494.out 1).trans rfl; have hfz86_0 := blk_frozen BK494.out 0; have hfz86_1 := blk_frozen BK494.out 1))
        have n0_ : Aside0 (Kd.Q k33 33 ((w82.setCell ⟨gb494, 0, none⟩ (.int .i64 t491)).setCell ⟨gb494, 1, none⟩ (.int .i64 t492)) w.heap.size (fun k_ => some k_ ≠ (.slice Ao73 t484.length co73 : Value).ownBlock) (.slice Ao8 t471.length co8) t471) := ⟨by (with_reducible repeat (first | apply Kd.Q_alloc | apply Kd.Q_drewN | apply Kd.Q_drew)); exact Kd.Q_mono (Kd.Q_far (p := ⟨gb494, 1, none⟩) (Kd.Q_far (p := ⟨gb494, 0, none⟩) (Kd.Q_types HO_3.out BK494.out (by decide)) (fun _ hk => hk.2) (.int .i64 t491)) (fun _ hk => hk.2) (.int .i64 t492)) (fun _ hk => hk.1.2)⟩
        have n1_ : Aside0 (Kd.R k33 33 ((w82.setCell ⟨gb494, 0, none⟩ (.int .i64 t491)).setCell ⟨gb494, 1, none⟩ (.int .i64 t492)) w.heap.size (fun k_ => some k_ ≠ (.slice Ao8 t471.length co8 : Value).ownBlock) (.slice Ao73 t484.length co73) t484) := ⟨by (with_reducible repeat (first | apply Kd.R_alloc | apply Kd.R_drewN | apply Kd.R_drew)); exact Kd.R_mono (Kd.R_far (p := ⟨gb494, 1, none⟩) (Kd.R_far (p := ⟨gb494, 0, none⟩) (Kd.R_types HO486.out BK494.out (by decide)) (fun _ hk => hk.2) (.int .i64 t491)) (fun _ hk => hk.2) (.int .i64 t492)) (fun _ hk => hk.1.2)⟩
        have n2_ : Aside0 (((w82.setCell ⟨gb494, 0, none⟩ (.int .i64 t491)).setCell ⟨gb494, 1, none⟩ (.int .i64 t492)).heap[gb479]? = some (.cells #[.int .i64 t476, .int .i64 t477] 39 (0, 0))) := ⟨by (with_reducible repeat (first | refine blk_drewN ?_ _ | refine blk_drew ?_ | refine blk_alloc ?_ _)); refine blk_far ?_ NB479_494.out _; (with_reducible repeat (first | refine blk_drewN ?_ _ | refine blk_drew ?_ | refine blk_alloc ?_ _)); refine blk_far ?_ NB479_494.out _; (with_reducible repeat (first | refine blk_drewN ?_ _ | refine blk_drew ?_ | refine blk_alloc ?_ _)); exact BK479.out⟩
        have n3_ : Aside0 (((w82.setCell ⟨gb494, 0, none⟩ (.int .i64 t491)).setCell ⟨gb494, 1, none⟩ (.int .i64 t492)).heap[gb483]? = some (.cells #[.int .i64 t480, .int .i64 t481] 39 (0, 0))) := ⟨by (with_reducible repeat (first | refine blk_drewN ?_ _ | refine blk_drew ?_ | refine blk_alloc ?_ _)); refine blk_far ?_ NB483_494.out _; (with_reducible repeat (first | refine blk_drewN ?_ _ | refine blk_drew ?_ | refine blk_alloc ?_ _)); refine blk_far ?_ NB483_494.out _; (with_reducible repeat (first | refine blk_drewN ?_ _ | refine blk_drew ?_ | refine blk_alloc ?_ _)); exact BK483.out⟩
        have n4_ : Aside0 (((w82.setCell ⟨gb494, 0, none⟩ (.int .i64 t491)).setCell ⟨gb494, 1, none⟩ (.int .i64 t492)).heap[gb490]? = some (.cells #[.int .i64 t487, .int .i64 t488] 39 (0, 0))) := ⟨by (with_reducible repeat (first | refine blk_drewN ?_ _ | refine blk_drew ?_ | refine blk_alloc ?_ _)); refine blk_far ?_ NB490_494.out _; (with_reducible repeat (first | refine blk_drewN ?_ _ | refine blk_drew ?_ | refine blk_alloc ?_ _)); refine blk_far ?_ NB490_494.out _; (with_reducible repeat (first | refine blk_drewN ?_ _ | refine blk_drew ?_ | refine blk_alloc ?_ _)); exact BK490.out⟩
        have n5_ : Aside0 (((w82.setCell ⟨gb494, 0, none⟩ (.int .i64 t491)).setCell ⟨gb494, 1, none⟩ (.int .i64 t492)).heap[gb494]? = some (.cells #[.int .i64 t491, .int .i64 t492] 39 (0, 0))) := ⟨by (with_reducible repeat (first | refine blk_drewN ?_ _ | refine blk_drew ?_ | refine blk_alloc ?_ _)); refine blk_put (cs := #[.int .i64 t491, .int .i64 0]) ?_ 1 _ rfl; (with_reducible repeat (first | refine blk_drewN ?_ _ | refine blk_drew ?_ | refine blk_alloc ?_ _)); refine blk_put (cs := #[.int .i64 0, .int .i64 0]) ?_ 0 _ rfl; (with_reducible repeat (first | refine blk_drewN ?_ _ | refine blk_drew ?_ | refine blk_alloc ?_ _)); exact BK494.out⟩
        have n6_ : Aside0 (Below w.heap.size w ((w82.setCell ⟨gb494, 0, none⟩ (.int .i64 t491)).setCell ⟨gb494, 1, none⟩ (.int .i64 t492))) := ⟨lb HB.out⟩
        (try clear HO_3);(try clear HO486);(try clear BK479);(try clear BK483)
        (try clear BK490)
        (try clear BK494)
        (try clear HB)
        generalize ((w82.setCell ⟨gb494, 0, none⟩ (.int .i64 t491)).setCell ⟨gb494, 1, none⟩ (.int .i64 t492)) = w87 at n0_ n1_ n2_ n3_ n4_ n5_ n6_ ⊢
        have HO_3 := n0_
        have HO486 := n1_
        have BK479 := n2_
        have BK483 := n3_
        have BK490 := n4_
        have BK494 := n5_
        have HB := n6_
        clear n0_ n1_ n2_ n3_ n4_ n5_ n6_
        have n0_ := Aside0.mk (Kd.Q_drew HO_3.out)
        have n1_ := Aside0.mk (Kd.R_drew HO486.out)
        have n2_ := Aside0.mk (blk_drew BK479.out)
        have n3_ := Aside0.mk (blk_drew BK483.out)
        have n4_ := Aside0.mk (blk_drew BK490.out)
        have n5_ := Aside0.mk (blk_drew BK494.out)
        have n6_ := Aside0.mk (below_drew1 HB.out)
        clear HO_3 HO486 BK479 BK483 BK490 BK494 HB
        have HO_3 := n0_
        have HO486 := n1_
        have BK479 := n2_
        have BK483 := n3_
        have BK490 := n4_
        have BK494 := n5_
        have HB := n6_
        clear n0_ n1_ n2_ n3_ n4_ n5_ n6_
        refine start_ (n := 22) (S := fun w' => w'.cell? ⟨gb479, 0, none⟩ = some (.int .i64 t476) ∧ w'.cell? ⟨gb479, 1, none⟩ = some (.int .i64 t477)) (ds := []) #[false,false,false,false,false,false,false,false,false,false,false,false,false,false,false,false,false,false,false,false,false,false] (by kernel_rfl) rfl rfl ⟨(blk_cell BK479.out 0).trans rfl, (blk_cell BK479.out 1).trans rfl⟩ (fun hHeld => ?_); refine with_tabW laws_FnShareParcel.tab11 laws_FnShareParcel.bits11 (fun HT_ HW_ => ?_)
        generalize w87.drew = w88 at HO_3 HO486 BK479 BK483 BK490 BK494 HB hHeld ⊢
        refine pq_ 0 (some 78) ?_
        refine tq_ 1 (some 79) ?_
        refine pq_ 2 (some 80) ?_
        refine pq_ 3 (some 81) ?_
        refine pq_ 4 (some 82) ?_
        refine pq_ 6 (some 84) ?_
        refine tq_ 5 (some 83) ?_
        refine tq_ 7 (some 85) ?_
        refine pq_ 8 (some 86) ?_
        refine pq_ 9 (some 87) ?_
        refine pq_ 10 (some 88) ?_
        refine pq_ 11 (some 89) ?_
        refine pq_ 12 (some 90) ?_
        refine pq_ 13 (some 91) ?_
        refine pure_ (i := 14) (N := some 92) (v := undef) (a' := ?_) #[true,true,true,true,true,true,true,true,true,true,true,true,true,true,true,false,false,false,false,false,false,false] rfl rfl (any_of HT_.out (by kernel_rfl)) (fun _ _ _ h => h) (Or.inr ⟨by rfl, rfl⟩) ?_ ?_
        rotate_left
        ·simp only [Act.put, List.setIfInBounds_toArray, List.set_cons_zero, List.set_cons_succ, i64_w, i32_w]
         rfl
        refine pq_ 15 (some 93) ?_
        refine pq_ 16 (some 94) ?_
        refine pure_ (i := 17) (N := some 95) (v := undef) (a' := ?_) #[true,true,true,true,true,true,true,true,true,true,true,true,true,true,true,true,true,true,false,false,false,false] rfl rfl (any_of HT_.out (by kernel_rfl)) (fun _ _ _ h => h) (Or.inr ⟨by rfl, rfl⟩) ?_ ?_
        rotate_left
        ·simp only [Act.put, List.setIfInBounds_toArray, List.set_cons_zero, List.set_cons_succ, i64_w, i32_w]
         rfl
        refine pure_ (i := 18) (N := some 96) (v := undef) (a' := ?_) #[true,true,true,true,true,true,true,true,true,true,true,true,true,true,true,true,true,true,true,false,false,false] rfl rfl (any_of HT_.out (by kernel_rfl)) (fun _ _ _ h => h) (Or.inr ⟨by rfl, rfl⟩) ?_ ?_
        rotate_left
        ·simp only [Act.put, List.setIfInBounds_toArray, List.set_cons_zero, List.set_cons_succ, i64_w, i32_w]
         rfl
        refine pure_ (i := 19) (N := some 97) (v := undef) (a' := ?_) #[true,true,true,true,true,true,true,true,true,true,true,true,true,true,true,true,true,true,true,true,false,false] rfl rfl (any_of HT_.out (by kernel_rfl)) (fun _ _ _ h => h) (Or.inr ⟨by rfl, rfl⟩) ?_ ?_
        rotate_left
        ·simp only [Act.put, List.setIfInBounds_toArray, List.set_cons_zero, List.set_cons_succ, i64_w, i32_w]
         rfl
        refine pq_ 20 (some 98) ?_
        refine pq_ 21 (some 2) ?_
        refine done_ (done_of HT_.out (by kernel_rfl)) ?_
        try go_wp2
        go_ret
        exact ⟨er, lb HB.out⟩
      ·rw [if_neg c33] at H
       have c33b0 : decide (t476 < t477) = false := decide_eq_false c33
       clear c33
       obtain rfl := Option.some.inj H
       try go_wp2_with (first | ((with_reducible refine gate_callee (f := 19) rfl ?_); refine goesL_ (some 63) rfl rfl Try.func19 (by kernel_rfl) rfl #[.slice Ao8 t471.length co8, .int .i64 t473] rfl al ?_; (with_reducible refine (laws_begunAt.calls _ _ t471 t473 t484 _ ?side1 ?side2 A29.out).mono ?_); (case side1 => repeat (first | exact (Kd.Q_reads' HO_3.out).2.2 | (with_reducible refine Kd.C_alloc ?_ _) | (with_reducible refine Kd.C_drewN ?_ _) | (with_reducible refine Kd.C_drew ?_))); (case side2 => exact (Kd.Q_reads' HO_3.out).2.1); rintro e w89 ⟨v485, rfl, ho0, hb⟩; refine ⟨_, rfl, ?_⟩; have n0_ := Aside0.mk (Kd.Q_elder' (qm HO_3.out) (Kd.R_base ho0) hb); have n1_ := Aside0.mk (Kd.R_lower (Kd.R_new' ho0 (Kd.Q_lt (qm HO_3.out))) (below_size (lb HB.out))); have n2_ := Aside0.mk (blk_below (bf BK479.out) hb); have n3_ := Aside0.mk (blk_below (bf BK483.out) hb); have n4_ := Aside0.mk (below_step (lb HB.out) hb); clear HO_3; clear BK479; clear BK483; clear HB; have HO_3 := n0_; have HO486 := n1_; have BK479 := n2_; have BK483 := n3_; have HB := n4_; clear n0_ n1_ n2_ n3_ n4_; (try clear hb); (try clear hb2); (try clear hk); (try clear hi); (try clear ho0); obtain ⟨Ao90, co90, eo90⟩ := Kd.R_slice HO486.out; subst eo90) | ((with_reducible refine gate_callee (f := 17) rfl ?_); refine goesL_ (some 69) rfl rfl Try.func17 (by kernel_rfl) rfl #[.slice Ao90 t484.length co90, .int .i64 0, .int .i64 (wrap64 ((wrap64 ((t471.length : Int) - t473)) + t472))] rfl al ?_; (with_reducible refine (impl_ParcelShare.calls kj5 _ _ t484 0 (wrap64 ((wrap64 ((t471.length : Int) - t473)) + t472)) t487 t488 t489 _ ?side1 ?side2 A30.out).mono ?_); (case side1 => exact cm (Kd.R_reads' HO486.out).2.2); (case side2 => exact (Kd.R_reads' HO486.out).2.1); rintro e w91 ⟨rfl, hb⟩; refine ⟨_, rfl, ?_⟩; have n0_ := Aside0.mk (Kd.Q_below (qm HO_3.out) hb); have n1_ := Aside0.mk (Kd.R_below (rm HO486.out) hb); have n2_ := Aside0.mk (blk_below (bf BK479.out) hb); have n3_ := Aside0.mk (blk_below (bf BK483.out) hb); have n4_ := Aside0.mk (below_step (lb HB.out) hb); clear HO_3; clear HO486; clear BK479; clear BK483; clear HB; have HO_3 := n0_; have HO486 := n1_; have BK479 := n2_; have BK483 := n3_; have HB := n4_; clear n0_ n1_ n2_ n3_ n4_; (try clear hb); (try clear hb2); (try clear hk); (try clear hi)) | ((with_reducible refine gate_dst (N := 11) rfl ?_); refine bx_ 11 (cs := #[.int .i64 0, .int .i64 0]) (t := 39) ?_; intro gb490 hg w92 hbox hb; have n0_ := Aside0.mk (Kd.Q_below (qm HO_3.out) hb); have n1_ := Aside0.mk (Kd.R_below (rm HO486.out) hb); have n2_ := Aside0.mk (blk_below (bf BK479.out) hb); have n3_ := Aside0.mk (blk_below (bf BK483.out) hb); have n4_ := Aside0.mk (below_step (lb HB.out) hb); have n5_ := Aside0.mk (hbox); have n6_ := Aside0.mk ((by rw [hg]; exact (below_size (lb HB.out)) : w.heap.size ≤ gb490)); have n7_ := Aside0.mk ((by rw [hg]; exact (below_size (lb HB.out)) : w.heap.size ≤ gb490)); have n8_ := Aside0.mk ((by rw [hg]; exact Nat.ne_of_lt (blk_lt (bf BK479.out)) : gb479 ≠ gb490)); have n9_ := Aside0.mk ((by rw [hg]; exact Nat.ne_of_gt (blk_lt (bf BK479.out)) : gb490 ≠ gb479)); have n10_ := Aside0.mk ((by rw [hg]; exact Nat.ne_of_lt (blk_lt (bf BK483.out)) : gb483 ≠ gb490)); have n11_ := Aside0.mk ((by rw [hg]; exact Nat.ne_of_gt (blk_lt (bf BK483.out)) : gb490 ≠ gb483)); clear HO_3; clear HO486; clear BK479; clear BK483; clear HB; have HO_3 := n0_; have HO486 := n1_; have BK479 := n2_; have BK483 := n3_; have HB := n4_; have BK490 := n5_; have GW490 := n6_; have GE490 := n7_; have NB479_490 := n8_; have NB490_479 := n9_; have NB483_490 := n10_; have NB490_483 := n11_; clear n0_ n1_ n2_ n3_ n4_ n5_ n6_ n7_ n8_ n9_ n10_ n11_; clear hb hbox hg; have hnb93 := NB490_479.out; have hnc93 := NB479_490.out; have hnb94 := NB490_483.out; have hnc94 := NB483_490.out; have hcz95_0 : w92.cell? ⟨gb490, 0, none⟩ = some (.int .i64 0) := (blk_cell BK490.out 0).trans rfl; have hcz95_1 : w92.cell? ⟨gb490, 1, none⟩ = some (.int .i64 0) := (blk_cell BK490.out 1).trans rfl; have hfz95_0 := blk_frozen BK490.out 0; have hfz95_1 := blk_frozen BK490.out 1; have hnb96 := NB479_483.out; have hnc96 := NB483_479.out; have hcz97_0 : w92.cell? ⟨gb479, 0, none⟩ = some (.int .i64 t476) := (blk_cell BK479.out 0).trans rfl; have hcz97_1 : w92.cell? ⟨gb479, 1, none⟩ = some (.int .i64 t477) := (blk_cell BK479.out 1).trans rfl; have hfz97_0 := blk_frozen BK479.out 0; have hfz97_1 := blk_frozen BK479.out 1) | ((with_reducible refine gate_callee (f := 20) rfl ?_); refine goesL_ (some 75) rfl rfl Try.func20 (by kernel_rfl) rfl #[.agg #[.int .i64 t476, .int .i64 t477], .agg #[.int .i64 t487, .int .i64 t488]] rfl al ?_; (with_reducible refine (impl_QuoAdd.calls kj5 t476 t477 t487 t488 t491 t492 t493 _ A31.out).mono ?_); rintro e w98 ⟨rfl, hb⟩; refine ⟨_, rfl, ?_⟩; have n0_ := Aside0.mk (Kd.Q_below (by (with_reducible repeat (first | apply Kd.Q_alloc | apply Kd.Q_drewN | apply Kd.Q_drew)); exact (Kd.Q_mono (Kd.Q_far (p := ⟨gb490, 1, none⟩) (Kd.Q_far (p := ⟨gb490, 0, none⟩) (Kd.Q_types HO_3.out BK490.out (by decide)) (fun _ hk => hk.2) (.int .i64 t487)) (fun _ hk => hk.2) (.int .i64 t488)) (fun _ h_ => h_.1))) hb); have n1_ := Aside0.mk (Kd.R_below (by (with_reducible repeat (first | apply Kd.R_alloc | apply Kd.R_drewN | apply Kd.R_drew)); exact (Kd.R_mono (Kd.R_far (p := ⟨gb490, 1, none⟩) (Kd.R_far (p := ⟨gb490, 0, none⟩) (Kd.R_types HO486.out BK490.out (by decide)) (fun _ hk => hk.2) (.int .i64 t487)) (fun _ hk => hk.2) (.int .i64 t488)) (fun _ h_ => h_.1))) hb); have n2_ := Aside0.mk (blk_below (bf BK479.out) hb); have n3_ := Aside0.mk (blk_below (bf BK483.out) hb); have n4_ := Aside0.mk (blk_below (bp BK490.out) hb); have n5_ := Aside0.mk (below_step (lb HB.out) hb); clear HO_3; clear HO486; clear BK479; clear BK483; clear BK490; clear HB; have HO_3 := n0_; have HO486 := n1_; have BK479 := n2_; have BK483 := n3_; have BK490 := n4_; have HB := n5_; clear n0_ n1_ n2_ n3_ n4_ n5_; (try clear hb); (try clear hb2); (try clear hk); (try clear hi)) | ((with_reducible refine gate_dst (N := 13) rfl ?_); refine bx_ 13 (cs := #[.int .i64 0, .int .i64 0]) (t := 39) ?_; intro gb494 hg w99 hbox hb; have n0_ := Aside0.mk (Kd.Q_below (qm HO_3.out) hb); have n1_ := Aside0.mk (Kd.R_below (rm HO486.out) hb); have n2_ := Aside0.mk (blk_below (bf BK479.out) hb); have n3_ := Aside0.mk (blk_below (bf BK483.out) hb); have n4_ := Aside0.mk (blk_below (bf BK490.out) hb); have n5_ := Aside0.mk (below_step (lb HB.out) hb); have n6_ := Aside0.mk (hbox); have n7_ := Aside0.mk ((by rw [hg]; exact (below_size (lb HB.out)) : w.heap.size ≤ gb494)); have n8_ := Aside0.mk ((by rw [hg]; exact (below_size (lb HB.out)) : w.heap.size ≤ gb494)); have n9_ := Aside0.mk ((by rw [hg]; exact Nat.ne_of_lt (blk_lt (bf BK479.out)) : gb479 ≠ gb494)); have n10_ := Aside0.mk ((by rw [hg]; exact Nat.ne_of_gt (blk_lt (bf BK479.out)) : gb494 ≠ gb479)); have n11_ := Aside0.mk ((by rw [hg]; exact Nat.ne_of_lt (blk_lt (bf BK483.out)) : gb483 ≠ gb494)); have n12_ := Aside0.mk ((by rw [hg]; exact Nat.ne_of_gt (blk_lt (bf BK483.out)) : gb494 ≠ gb483)); have n13_ := Aside0.mk ((by rw [hg]; exact Nat.ne_of_lt (blk_lt (bf BK490.out)) : gb490 ≠ gb494)); have n14_ := Aside0.mk ((by rw [hg]; exact Nat.ne_of_gt (blk_lt (bf BK490.out)) : gb494 ≠ gb490)); clear HO_3; clear HO486; clear BK479; clear BK483; clear BK490; clear HB; have HO_3 := n0_; have HO486 := n1_; have BK479 := n2_; have BK483 := n3_; have BK490 := n4_; have HB := n5_; have BK494 := n6_; have GW494 := n7_; have GE494 := n8_; have NB479_494 := n9_; have NB494_479 := n10_; have NB483_494 := n11_; have NB494_483 := n12_; have NB490_494 := n13_; have NB494_490 := n14_; clear n0_ n1_ n2_ n3_ n4_ n5_ n6_ n7_ n8_ n9_ n10_ n11_ n12_ n13_ n14_; clear hb hbox hg; have hnb100 := NB494_479.out; have hnc100 := NB479_494.out; have hnb101 := NB494_483.out; have hnc101 := NB483_494.out; have hnb102 := NB494_490.out; have hnc102 := NB490_494.out; have hcz103_0 : w99.cell? ⟨gb494, 0, none⟩ = some (.int .i64 0) := (blk_cell BK494.out 0).trans rfl; have hcz103_1 : w99.cell? ⟨gb494, 1, none⟩ = some (.int .i64 0) := (blk_cell BK494.out 1).trans rfl; have hfz103_0 := blk_frozen BK494.out 0; have hfz103_1 := blk_frozen BK494.out 1))
       have n0_ : Aside0 (Kd.Q k33 33 ((w99.setCell ⟨gb494, 0, none⟩ (.int .i64 t491)).setCell ⟨gb494, 1, none⟩ (.int .i64 t492)) w.heap.size (fun k_ => some k_ ≠ (.slice Ao90 t484.length co90 : Value).ownBlock) (.slice Ao8 t471.length co8) t471) := ⟨by (with_reducible repeat (first | apply Kd.Q_alloc | apply Kd.Q_drewN | apply Kd.Q_drew)); exact Kd.Q_mono (Kd.Q_far (p := ⟨gb494, 1, none⟩) (Kd.Q_far (p := ⟨gb494, 0, none⟩) (Kd.Q_types HO_3.out BK494.out (by decide)) (fun _ hk => hk.2) (.int .i64 t491)) (fun _ hk => hk.2) (.int .i64 t492)) (fun _ hk => hk.1.2)⟩
       have n1_ : Aside0 (Kd.R k33 33 ((w99.setCell ⟨gb494, 0, none⟩ (.int .i64 t491)).setCell ⟨gb494, 1, none⟩ (.int .i64 t492)) w.heap.size (fun k_ => some k_ ≠ (.slice Ao8 t471.length co8 : Value).ownBlock) (.slice Ao90 t484.length co90) t484) := ⟨by (with_reducible repeat (first | apply Kd.R_alloc | apply Kd.R_drewN | apply Kd.R_drew)); exact Kd.R_mono (Kd.R_far (p := ⟨gb494, 1, none⟩) (Kd.R_far (p := ⟨gb494, 0, none⟩) (Kd.R_types HO486.out BK494.out (by decide)) (fun _ hk => hk.2) (.int .i64 t491)) (fun _ hk => hk.2) (.int .i64 t492)) (fun _ hk => hk.1.2)⟩
       have n2_ : Aside0 (((w99.setCell ⟨gb494, 0, none⟩ (.int .i64 t491)).setCell ⟨gb494, 1, none⟩ (.int .i64 t492)).heap[gb479]? = some (.cells #[.int .i64 t476, .int .i64 t477] 39 (0, 0))) := ⟨by (with_reducible repeat (first | refine blk_drewN ?_ _ | refine blk_drew ?_ | refine blk_alloc ?_ _)); refine blk_far ?_ NB479_494.out _; (with_reducible repeat (first | refine blk_drewN ?_ _ | refine blk_drew ?_ | refine blk_alloc ?_ _)); refine blk_far ?_ NB479_494.out _; (with_reducible repeat (first | refine blk_drewN ?_ _ | refine blk_drew ?_ | refine blk_alloc ?_ _)); exact BK479.out⟩
       have n3_ : Aside0 (((w99.setCell ⟨gb494, 0, none⟩ (.int .i64 t491)).setCell ⟨gb494, 1, none⟩ (.int .i64 t492)).heap[gb483]? = some (.cells #[.int .i64 t480, .int .i64 t481] 39 (0, 0))) := ⟨by (with_reducible repeat (first | refine blk_drewN ?_ _ | refine blk_drew ?_ | refine blk_alloc ?_ _)); refine blk_far ?_ NB483_494.out _; (with_reducible repeat (first | refine blk_drewN ?_ _ | refine blk_drew ?_ | refine blk_alloc ?_ _)); refine blk_far ?_ NB483_494.out _; (with_reducible repeat (first | refine blk_drewN ?_ _ | refine blk_drew ?_ | refine blk_alloc ?_ _)); exact BK483.out⟩
       have n4_ : Aside0 (((w99.setCell ⟨gb494, 0, none⟩ (.int .i64 t491)).setCell ⟨gb494, 1, none⟩ (.int .i64 t492)).heap[gb490]? = some (.cells #[.int .i64 t487, .int .i64 t488] 39 (0, 0))) := ⟨by (with_reducible repeat (first | refine blk_drewN ?_ _ | refine blk_drew ?_ | refine blk_alloc ?_ _)); refine blk_far ?_ NB490_494.out _; (with_reducible repeat (first | refine blk_drewN ?_ _ | refine blk_drew ?_ | refine blk_alloc ?_ _)); refine blk_far ?_ NB490_494.out _; (with_reducible repeat (first | refine blk_drewN ?_ _ | refine blk_drew ?_ | refine blk_alloc ?_ _)); exact BK490.out⟩
       have n5_ : Aside0 (((w99.setCell ⟨gb494, 0, none⟩ (.int .i64 t491)).setCell ⟨gb494, 1, none⟩ (.int .i64 t492)).heap[gb494]? = some (.cells #[.int .i64 t491, .int .i64 t492] 39 (0, 0))) := ⟨by (with_reducible repeat (first | refine blk_drewN ?_ _ | refine blk_drew ?_ | refine blk_alloc ?_ _)); refine blk_put (cs := #[.int .i64 t491, .int .i64 0]) ?_ 1 _ rfl; (with_reducible repeat (first | refine blk_drewN ?_ _ | refine blk_drew ?_ | refine blk_alloc ?_ _)); refine blk_put (cs := #[.int .i64 0, .int .i64 0]) ?_ 0 _ rfl; (with_reducible repeat (first | refine blk_drewN ?_ _ | refine blk_drew ?_ | refine blk_alloc ?_ _)); exact BK494.out⟩
       have n6_ : Aside0 (Below w.heap.size w ((w99.setCell ⟨gb494, 0, none⟩ (.int .i64 t491)).setCell ⟨gb494, 1, none⟩ (.int .i64 t492))) := ⟨lb HB.out⟩
       (try clear HO_3);(try clear HO486);(try clear BK479);(try clear BK483)
       (try clear BK490)
       (try clear BK494)
       (try clear HB)
       generalize ((w99.setCell ⟨gb494, 0, none⟩ (.int .i64 t491)).setCell ⟨gb494, 1, none⟩ (.int .i64 t492)) = w104 at n0_ n1_ n2_ n3_ n4_ n5_ n6_ ⊢
       have HO_3 := n0_
       have HO486 := n1_
       have BK479 := n2_
       have BK483 := n3_
       have BK490 := n4_
       have BK494 := n5_
       have HB := n6_
       clear n0_ n1_ n2_ n3_ n4_ n5_ n6_
       have n0_ := Aside0.mk (Kd.Q_drew HO_3.out)
       have n1_ := Aside0.mk (Kd.R_drew HO486.out)
       have n2_ := Aside0.mk (blk_drew BK479.out)
       have n3_ := Aside0.mk (blk_drew BK483.out)
       have n4_ := Aside0.mk (blk_drew BK490.out)
       have n5_ := Aside0.mk (blk_drew BK494.out)
       have n6_ := Aside0.mk (below_drew1 HB.out)
       clear HO_3 HO486 BK479 BK483 BK490 BK494 HB
       have HO_3 := n0_
       have HO486 := n1_
       have BK479 := n2_
       have BK483 := n3_
       have BK490 := n4_
       have BK494 := n5_
       have HB := n6_
       clear n0_ n1_ n2_ n3_ n4_ n5_ n6_
       refine start_ (n := 22) (S := fun w' => w'.cell? ⟨gb479, 0, none⟩ = some (.int .i64 t476) ∧ w'.cell? ⟨gb479, 1, none⟩ = some (.int .i64 t477)) (ds := []) #[false,false,false,false,false,false,false,false,false,false,false,false,false,false,false,false,false,false,false,false,false,false] (by kernel_rfl) rfl rfl ⟨(blk_cell BK479.out 0).trans rfl, (blk_cell BK479.out 1).trans rfl⟩ (fun hHeld => ?_); refine with_tabW laws_FnShareParcel.tab11 laws_FnShareParcel.bits11 (fun HT_ HW_ => ?_)
       generalize w104.drew = w105 at HO_3 HO486 BK479 BK483 BK490 BK494 HB hHeld ⊢
       refine pq_ 0 (some 78) ?_
       refine tq_ 1 (some 79) ?_
       refine pq_ 2 (some 80) ?_
       refine pq_ 3 (some 81) ?_
       refine pq_ 4 (some 82) ?_
       refine pq_ 6 (some 84) ?_
       refine tq_ 5 (some 83) ?_
       refine tq_ 7 (some 85) ?_
       refine pq_ 8 (some 86) ?_
       refine pq_ 9 (some 87) ?_
       refine pq_ 10 (some 88) ?_
       refine pure_ (i := 11) (N := some 89) (v := undef) (a' := ?_) #[true,true,true,true,true,true,true,true,true,true,true,true,false,false,false,false,false,false,false,false,false,false] rfl rfl (any_of HT_.out (by kernel_rfl)) (fun _ _ _ h => h) (Or.inr ⟨by rfl, rfl⟩) ?_ ?_
       rotate_left
       ·simp only [Act.put, List.setIfInBounds_toArray, List.set_cons_zero, List.set_cons_succ, i64_w, i32_w]
        rfl
       refine pq_ 12 (some 90) ?_
       refine pq_ 13 (some 91) ?_
       refine pure_ (i := 14) (N := some 92) (v := undef) (a' := ?_) #[true,true,true,true,true,true,true,true,true,true,true,true,true,true,true,false,false,false,false,false,false,false] rfl rfl (any_of HT_.out (by kernel_rfl)) (fun _ _ _ h => h) (Or.inr ⟨by rfl, rfl⟩) ?_ ?_
       rotate_left
       ·simp only [Act.put, List.setIfInBounds_toArray, List.set_cons_zero, List.set_cons_succ, i64_w, i32_w]
        rfl
       refine pq_ 15 (some 93) ?_
       refine pq_ 16 (some 94) ?_
       refine pure_ (i := 17) (N := some 95) (v := undef) (a' := ?_) #[true,true,true,true,true,true,true,true,true,true,true,true,true,true,true,true,true,true,false,false,false,false] rfl rfl (any_of HT_.out (by kernel_rfl)) (fun _ _ _ h => h) (Or.inr ⟨by rfl, rfl⟩) ?_ ?_
       rotate_left
       ·simp only [Act.put, List.setIfInBounds_toArray, List.set_cons_zero, List.set_cons_succ, i64_w, i32_w]
        rfl
       refine pure_ (i := 18) (N := some 96) (v := undef) (a' := ?_) #[true,true,true,true,true,true,true,true,true,true,true,true,true,true,true,true,true,true,true,false,false,false] rfl rfl (any_of HT_.out (by kernel_rfl)) (fun _ _ _ h => h) (Or.inr ⟨by rfl, rfl⟩) ?_ ?_
       rotate_left
       ·simp only [Act.put, List.setIfInBounds_toArray, List.set_cons_zero, List.set_cons_succ, i64_w, i32_w]
        rfl
       refine pure_ (i := 19) (N := some 97) (v := undef) (a' := ?_) #[true,true,true,true,true,true,true,true,true,true,true,true,true,true,true,true,true,true,true,true,false,false] rfl rfl (any_of HT_.out (by kernel_rfl)) (fun _ _ _ h => h) (Or.inr ⟨by rfl, rfl⟩) ?_ ?_
       rotate_left
       ·simp only [Act.put, List.setIfInBounds_toArray, List.set_cons_zero, List.set_cons_succ, i64_w, i32_w]
        rfl
       refine pq_ 20 (some 98) ?_
       refine pq_ 21 (some 2) ?_
       refine done_ (done_of HT_.out (by kernel_rfl)) ?_
       try go_wp2
       go_ret
       exact ⟨er, lb HB.out⟩
     ·rw [if_neg c32] at H
      have c32b0 : decide (0 < t476) = false := decide_eq_false c32
      clear c32
      obtain rfl := Option.some.inj H
      try go_wp2_with (first | ((with_reducible refine gate_callee (f := 19) rfl ?_); refine goesL_ (some 63) rfl rfl Try.func19 (by kernel_rfl) rfl #[.slice Ao8 t471.length co8, .int .i64 t473] rfl al ?_; (with_reducible refine (laws_begunAt.calls _ _ t471 t473 t484 _ ?side1 ?side2 A29.out).mono ?_); (case side1 => repeat (first | exact (Kd.Q_reads' HO_3.out).2.2 | (with_reducible refine Kd.C_alloc ?_ _) | (with_reducible refine Kd.C_drewN ?_ _) | (with_reducible refine Kd.C_drew ?_))); (case side2 => exact (Kd.Q_reads' HO_3.out).2.1); rintro e w106 ⟨v485, rfl, ho0, hb⟩; refine ⟨_, rfl, ?_⟩; have n0_ := Aside0.mk (Kd.Q_elder' (qm HO_3.out) (Kd.R_base ho0) hb); have n1_ := Aside0.mk (Kd.R_lower (Kd.R_new' ho0 (Kd.Q_lt (qm HO_3.out))) (below_size (lb HB.out))); have n2_ := Aside0.mk (blk_below (bf BK479.out) hb); have n3_ := Aside0.mk (blk_below (bf BK483.out) hb); have n4_ := Aside0.mk (below_step (lb HB.out) hb); clear HO_3; clear BK479; clear BK483; clear HB; have HO_3 := n0_; have HO486 := n1_; have BK479 := n2_; have BK483 := n3_; have HB := n4_; clear n0_ n1_ n2_ n3_ n4_; (try clear hb); (try clear hb2); (try clear hk); (try clear hi); (try clear ho0); obtain ⟨Ao107, co107, eo107⟩ := Kd.R_slice HO486.out; subst eo107) | ((with_reducible refine gate_callee (f := 17) rfl ?_); refine goesL_ (some 69) rfl rfl Try.func17 (by kernel_rfl) rfl #[.slice Ao107 t484.length co107, .int .i64 0, .int .i64 (wrap64 ((wrap64 ((t471.length : Int) - t473)) + t472))] rfl al ?_; (with_reducible refine (impl_ParcelShare.calls kj5 _ _ t484 0 (wrap64 ((wrap64 ((t471.length : Int) - t473)) + t472)) t487 t488 t489 _ ?side1 ?side2 A30.out).mono ?_); (case side1 => exact cm (Kd.R_reads' HO486.out).2.2); (case side2 => exact (Kd.R_reads' HO486.out).2.1); rintro e w108 ⟨rfl, hb⟩; refine ⟨_, rfl, ?_⟩; have n0_ := Aside0.mk (Kd.Q_below (qm HO_3.out) hb); have n1_ := Aside0.mk (Kd.R_below (rm HO486.out) hb); have n2_ := Aside0.mk (blk_below (bf BK479.out) hb); have n3_ := Aside0.mk (blk_below (bf BK483.out) hb); have n4_ := Aside0.mk (below_step (lb HB.out) hb); clear HO_3; clear HO486; clear BK479; clear BK483; clear HB; have HO_3 := n0_; have HO486 := n1_; have BK479 := n2_; have BK483 := n3_; have HB := n4_; clear n0_ n1_ n2_ n3_ n4_; (try clear hb); (try clear hb2); (try clear hk); (try clear hi)) | ((with_reducible refine gate_dst (N := 11) rfl ?_); refine bx_ 11 (cs := #[.int .i64 0, .int .i64 0]) (t := 39) ?_; intro gb490 hg w109 hbox hb; have n0_ := Aside0.mk (Kd.Q_below (qm HO_3.out) hb); have n1_ := Aside0.mk (Kd.R_below (rm HO486.out) hb); have n2_ := Aside0.mk (blk_below (bf BK479.out) hb); have n3_ := Aside0.mk (blk_below (bf BK483.out) hb); have n4_ := Aside0.mk (below_step (lb HB.out) hb); have n5_ := Aside0.mk (hbox); have n6_ := Aside0.mk ((by rw [hg]; exact (below_size (lb HB.out)) : w.heap.size ≤ gb490)); have n7_ := Aside0.mk ((by rw [hg]; exact (below_size (lb HB.out)) : w.heap.size ≤ gb490)); have n8_ := Aside0.mk ((by rw [hg]; exact Nat.ne_of_lt (blk_lt (bf BK479.out)) : gb479 ≠ gb490)); have n9_ := Aside0.mk ((by rw [hg]; exact Nat.ne_of_gt (blk_lt (bf BK479.out)) : gb490 ≠ gb479)); have n10_ := Aside0.mk ((by rw [hg]; exact Nat.ne_of_lt (blk_lt (bf BK483.out)) : gb483 ≠ gb490)); have n11_ := Aside0.mk ((by rw [hg]; exact Nat.ne_of_gt (blk_lt (bf BK483.out)) : gb490 ≠ gb483)); clear HO_3; clear HO486; clear BK479; clear BK483; clear HB; have HO_3 := n0_; have HO486 := n1_; have BK479 := n2_; have BK483 := n3_; have HB := n4_; have BK490 := n5_; have GW490 := n6_; have GE490 := n7_; have NB479_490 := n8_; have NB490_479 := n9_; have NB483_490 := n10_; have NB490_483 := n11_; clear n0_ n1_ n2_ n3_ n4_ n5_ n6_ n7_ n8_ n9_ n10_ n11_; clear hb hbox hg; have hnb110 := NB490_479.out; have hnc110 := NB479_490.out; have hnb111 := NB490_483.out; have hnc111 := NB483_490.out; have hcz112_0 : w109.cell? ⟨gb490, 0, none⟩ = some (.int .i64 0) := (blk_cell BK490.out 0).trans rfl; have hcz112_1 : w109.cell? ⟨gb490, 1, none⟩ = some (.int .i64 0) := (blk_cell BK490.out 1).trans rfl; have hfz112_0 := blk_frozen BK490.out 0; have hfz112_1 := blk_frozen BK490.out 1; have hnb113 := NB479_483.out; have hnc113 := NB483_479.out; have hcz114_0 : w109.cell? ⟨gb479, 0, none⟩ = some (.int .i64 t476) := (blk_cell BK479.out 0).trans rfl; have hcz114_1 : w109.cell? ⟨gb479, 1, none⟩ = some (.int .i64 t477) := (blk_cell BK479.out 1).trans rfl; have hfz114_0 := blk_frozen BK479.out 0; have hfz114_1 := blk_frozen BK479.out 1) | ((with_reducible refine gate_callee (f := 20) rfl ?_); refine goesL_ (some 75) rfl rfl Try.func20 (by kernel_rfl) rfl #[.agg #[.int .i64 t476, .int .i64 t477], .agg #[.int .i64 t487, .int .i64 t488]] rfl al ?_; (with_reducible refine (impl_QuoAdd.calls kj5 t476 t477 t487 t488 t491 t492 t493 _ A31.out).mono ?_); rintro e w115 ⟨rfl, hb⟩; refine ⟨_, rfl, ?_⟩; have n0_ := Aside0.mk (Kd.Q_below (by (with_reducible repeat (first | apply Kd.Q_alloc | apply Kd.Q_drewN | apply Kd.Q_drew)); exact (Kd.Q_mono (Kd.Q_far (p := ⟨gb490, 1, none⟩) (Kd.Q_far (p := ⟨gb490, 0, none⟩) (Kd.Q_types HO_3.out BK490.out (by decide)) (fun _ hk => hk.2) (.int .i64 t487)) (fun _ hk => hk.2) (.int .i64 t488)) (fun _ h_ => h_.1))) hb); have n1_ := Aside0.mk (Kd.R_below (by (with_reducible repeat (first | apply Kd.R_alloc | apply Kd.R_drewN | apply Kd.R_drew)); exact (Kd.R_mono (Kd.R_far (p := ⟨gb490, 1, none⟩) (Kd.R_far (p := ⟨gb490, 0, none⟩) (Kd.R_types HO486.out BK490.out (by decide)) (fun _ hk => hk.2) (.int .i64 t487)) (fun _ hk => hk.2) (.int .i64 t488)) (fun _ h_ => h_.1))) hb); have n2_ := Aside0.mk (blk_below (bf BK479.out) hb); have n3_ := Aside0.mk (blk_below (bf BK483.out) hb); have n4_ := Aside0.mk (blk_below (bp BK490.out) hb); have n5_ := Aside0.mk (below_step (lb HB.out) hb); clear HO_3; clear HO486; clear BK479; clear BK483; clear BK490; clear HB; have HO_3 := n0_; have HO486 := n1_; have BK479 := n2_; have BK483 := n3_; have BK490 := n4_; have HB := n5_; clear n0_ n1_ n2_ n3_ n4_ n5_; (try clear hb); (try clear hb2); (try clear hk); (try clear hi)) | ((with_reducible refine gate_dst (N := 13) rfl ?_); refine bx_ 13 (cs := #[.int .i64 0, .int .i64 0]) (t := 39) ?_; intro gb494 hg w116 hbox hb; have n0_ := Aside0.mk (Kd.Q_below (qm HO_3.out) hb); have n1_ := Aside0.mk (Kd.R_below (rm HO486.out) hb); have n2_ := Aside0.mk (blk_below (bf BK479.out) hb); have n3_ := Aside0.mk (blk_below (bf BK483.out) hb); have n4_ := Aside0.mk (blk_below (bf BK490.out) hb); have n5_ := Aside0.mk (below_step (lb HB.out) hb); have n6_ := Aside0.mk (hbox); have n7_ := Aside0.mk ((by rw [hg]; exact (below_size (lb HB.out)) : w.heap.size ≤ gb494)); have n8_ := Aside0.mk ((by rw [hg]; exact (below_size (lb HB.out)) : w.heap.size ≤ gb494)); have n9_ := Aside0.mk ((by rw [hg]; exact Nat.ne_of_lt (blk_lt (bf BK479.out)) : gb479 ≠ gb494)); have n10_ := Aside0.mk ((by rw [hg]; exact Nat.ne_of_gt (blk_lt (bf BK479.out)) : gb494 ≠ gb479)); have n11_ := Aside0.mk ((by rw [hg]; exact Nat.ne_of_lt (blk_lt (bf BK483.out)) : gb483 ≠ gb494)); have n12_ := Aside0.mk ((by rw [hg]; exact Nat.ne_of_gt (blk_lt (bf BK483.out)) : gb494 ≠ gb483)); have n13_ := Aside0.mk ((by rw [hg]; exact Nat.ne_of_lt (blk_lt (bf BK490.out)) : gb490 ≠ gb494)); have n14_ := Aside0.mk ((by rw [hg]; exact Nat.ne_of_gt (blk_lt (bf BK490.out)) : gb494 ≠ gb490)); clear HO_3; clear HO486; clear BK479; clear BK483; clear BK490; clear HB; have HO_3 := n0_; have HO486 := n1_; have BK479 := n2_; have BK483 := n3_; have BK490 := n4_; have HB := n5_; have BK494 := n6_; have GW494 := n7_; have GE494 := n8_; have NB479_494 := n9_; have NB494_479 := n10_; have NB483_494 := n11_; have NB494_483 := n12_; have NB490_494 := n13_; have NB494_490 := n14_; clear n0_ n1_ n2_ n3_ n4_ n5_ n6_ n7_ n8_ n9_ n10_ n11_ n12_ n13_ n14_; clear hb hbox hg; have hnb117 := NB494_479.out; have hnc117 := NB479_494.out; have hnb118 := NB494_483.out; have hnc118 := NB483_494.out; have hnb119 := NB494_490.out; have hnc119 := NB490_494.out; have hcz120_0 : w116.cell? ⟨gb494, 0, none⟩ = some (.int .i64 0) := (blk_cell BK494.out 0).trans rfl; have hcz120_1 : w116.cell? ⟨gb494, 1, none⟩ = some (.int .i64 0) := (blk_cell BK494.out 1).trans rfl; have hfz120_0 := blk_frozen BK494.out 0; have hfz120_1 := blk_frozen BK494.out 1))
      have n0_ : Aside0 (Kd.Q k33 33 ((w116.setCell ⟨gb494, 0, none⟩ (.int .i64 t491)).setCell ⟨gb494, 1, none⟩ (.int .i64 t492)) w.heap.size (fun k_ => some k_ ≠ (.slice Ao107 t484.length co107 : Value).ownBlock) (.slice Ao8 t471.length co8) t471) := ⟨by (with_reducible repeat (first | apply Kd.Q_alloc | apply Kd.Q_drewN | apply Kd.Q_drew)); exact Kd.Q_mono (Kd.Q_far (p := ⟨gb494, 1, none⟩) (Kd.Q_far (p := ⟨gb494, 0, none⟩) (Kd.Q_types HO_3.out BK494.out (by decide)) (fun _ hk => hk.2) (.int .i64 t491)) (fun _ hk => hk.2) (.int .i64 t492)) (fun _ hk => hk.1.2)⟩
      have n1_ : Aside0 (Kd.R k33 33 ((w116.setCell ⟨gb494, 0, none⟩ (.int .i64 t491)).setCell ⟨gb494, 1, none⟩ (.int .i64 t492)) w.heap.size (fun k_ => some k_ ≠ (.slice Ao8 t471.length co8 : Value).ownBlock) (.slice Ao107 t484.length co107) t484) := ⟨by (with_reducible repeat (first | apply Kd.R_alloc | apply Kd.R_drewN | apply Kd.R_drew)); exact Kd.R_mono (Kd.R_far (p := ⟨gb494, 1, none⟩) (Kd.R_far (p := ⟨gb494, 0, none⟩) (Kd.R_types HO486.out BK494.out (by decide)) (fun _ hk => hk.2) (.int .i64 t491)) (fun _ hk => hk.2) (.int .i64 t492)) (fun _ hk => hk.1.2)⟩
      have n2_ : Aside0 (((w116.setCell ⟨gb494, 0, none⟩ (.int .i64 t491)).setCell ⟨gb494, 1, none⟩ (.int .i64 t492)).heap[gb479]? = some (.cells #[.int .i64 t476, .int .i64 t477] 39 (0, 0))) := ⟨by (with_reducible repeat (first | refine blk_drewN ?_ _ | refine blk_drew ?_ | refine blk_alloc ?_ _)); refine blk_far ?_ NB479_494.out _; (with_reducible repeat (first | refine blk_drewN ?_ _ | refine blk_drew ?_ | refine blk_alloc ?_ _)); refine blk_far ?_ NB479_494.out _; (with_reducible repeat (first | refine blk_drewN ?_ _ | refine blk_drew ?_ | refine blk_alloc ?_ _)); exact BK479.out⟩
      have n3_ : Aside0 (((w116.setCell ⟨gb494, 0, none⟩ (.int .i64 t491)).setCell ⟨gb494, 1, none⟩ (.int .i64 t492)).heap[gb483]? = some (.cells #[.int .i64 t480, .int .i64 t481] 39 (0, 0))) := ⟨by (with_reducible repeat (first | refine blk_drewN ?_ _ | refine blk_drew ?_ | refine blk_alloc ?_ _)); refine blk_far ?_ NB483_494.out _; (with_reducible repeat (first | refine blk_drewN ?_ _ | refine blk_drew ?_ | refine blk_alloc ?_ _)); refine blk_far ?_ NB483_494.out _; (with_reducible repeat (first | refine blk_drewN ?_ _ | refine blk_drew ?_ | refine blk_alloc ?_ _)); exact BK483.out⟩
      have n4_ : Aside0 (((w116.setCell ⟨gb494, 0, none⟩ (.int .i64 t491)).setCell ⟨gb494, 1, none⟩ (.int .i64 t492)).heap[gb490]? = some (.cells #[.int .i64 t487, .int .i64 t488] 39 (0, 0))) := ⟨by (with_reducible repeat (first | refine blk_drewN ?_ _ | refine blk_drew ?_ | refine blk_alloc ?_ _)); refine blk_far ?_ NB490_494.out _; (with_reducible repeat (first | refine blk_drewN ?_ _ | refine blk_drew ?_ | refine blk_alloc ?_ _)); refine blk_far ?_ NB490_494.out _; (with_reducible repeat (first | refine blk_drewN ?_ _ | refine blk_drew ?_ | refine blk_alloc ?_ _)); exact BK490.out⟩
      have n5_ : Aside0 (((w116.setCell ⟨gb494, 0, none⟩ (.int .i64 t491)).setCell ⟨gb494, 1, none⟩ (.int .i64 t492)).heap[gb494]? = some (.cells #[.int .i64 t491, .int .i64 t492] 39 (0, 0))) := ⟨by (with_reducible repeat (first | refine blk_drewN ?_ _ | refine blk_drew ?_ | refine blk_alloc ?_ _)); refine blk_put (cs := #[.int .i64 t491, .int .i64 0]) ?_ 1 _ rfl; (with_reducible repeat (first | refine blk_drewN ?_ _ | refine blk_drew ?_ | refine blk_alloc ?_ _)); refine blk_put (cs := #[.int .i64 0, .int .i64 0]) ?_ 0 _ rfl; (with_reducible repeat (first | refine blk_drewN ?_ _ | refine blk_drew ?_ | refine blk_alloc ?_ _)); exact BK494.out⟩
      have n6_ : Aside0 (Below w.heap.size w ((w116.setCell ⟨gb494, 0, none⟩ (.int .i64 t491)).setCell ⟨gb494, 1, none⟩ (.int .i64 t492))) := ⟨lb HB.out⟩
      (try clear HO_3);(try clear HO486);(try clear BK479);(try clear BK483)
      (try clear BK490)
      (try clear BK494)
      (try clear HB)
      generalize ((w116.setCell ⟨gb494, 0, none⟩ (.int .i64 t491)).setCell ⟨gb494, 1, none⟩ (.int .i64 t492)) = w121 at n0_ n1_ n2_ n3_ n4_ n5_ n6_ ⊢
      have HO_3 := n0_
      have HO486 := n1_
      have BK479 := n2_
      have BK483 := n3_
      have BK490 := n4_
      have BK494 := n5_
      have HB := n6_
      clear n0_ n1_ n2_ n3_ n4_ n5_ n6_
      have n0_ := Aside0.mk (Kd.Q_drew HO_3.out)
      have n1_ := Aside0.mk (Kd.R_drew HO486.out)
      have n2_ := Aside0.mk (blk_drew BK479.out)
      have n3_ := Aside0.mk (blk_drew BK483.out)
      have n4_ := Aside0.mk (blk_drew BK490.out)
      have n5_ := Aside0.mk (blk_drew BK494.out)
      have n6_ := Aside0.mk (below_drew1 HB.out)
      clear HO_3 HO486 BK479 BK483 BK490 BK494 HB
      have HO_3 := n0_
      have HO486 := n1_
      have BK479 := n2_
      have BK483 := n3_
      have BK490 := n4_
      have BK494 := n5_
      have HB := n6_
      clear n0_ n1_ n2_ n3_ n4_ n5_ n6_
      refine start_ (n := 22) (S := fun w' => w'.cell? ⟨gb479, 0, none⟩ = some (.int .i64 t476) ∧ w'.cell? ⟨gb479, 1, none⟩ = some (.int .i64 t477)) (ds := []) #[false,false,false,false,false,false,false,false,false,false,false,false,false,false,false,false,false,false,false,false,false,false] (by kernel_rfl) rfl rfl ⟨(blk_cell BK479.out 0).trans rfl, (blk_cell BK479.out 1).trans rfl⟩ (fun hHeld => ?_); refine with_tabW laws_FnShareParcel.tab11 laws_FnShareParcel.bits11 (fun HT_ HW_ => ?_)
      generalize w121.drew = w122 at HO_3 HO486 BK479 BK483 BK490 BK494 HB hHeld ⊢
      refine pq_ 0 (some 78) ?_
      refine tq_ 1 (some 79) ?_
      refine pq_ 2 (some 80) ?_
      refine pq_ 3 (some 81) ?_
      refine pure_ (i := 4) (N := some 82) (v := undef) (a' := ?_) #[true,true,true,true,true,false,false,false,false,false,false,false,false,false,false,false,false,false,false,false,false,false] rfl rfl (any_of HT_.out (by kernel_rfl)) (fun _ _ _ h => h) (Or.inr ⟨by rfl, rfl⟩) ?_ ?_
      rotate_left
      ·simp only [Act.put, List.setIfInBounds_toArray, List.set_cons_zero, List.set_cons_succ, i64_w, i32_w]
       rfl
      refine pure_ (i := 5) (N := some 83) (v := undef) (a' := ?_) #[true,true,true,true,true,true,false,false,false,false,false,false,false,false,false,false,false,false,false,false,false,false] rfl rfl (any_of HT_.out (by kernel_rfl)) (fun _ _ _ h => h) (Or.inr ⟨by rfl, rfl⟩) ?_ ?_
      rotate_left
      ·simp only [Act.put, List.setIfInBounds_toArray, List.set_cons_zero, List.set_cons_succ, i64_w, i32_w]
       rfl
      refine pure_ (i := 6) (N := some 84) (v := undef) (a' := ?_) #[true,true,true,true,true,true,true,false,false,false,false,false,false,false,false,false,false,false,false,false,false,false] rfl rfl (any_of HT_.out (by kernel_rfl)) (fun _ _ _ h => h) (Or.inr ⟨by rfl, rfl⟩) ?_ ?_
      rotate_left
      ·simp only [Act.put, List.setIfInBounds_toArray, List.set_cons_zero, List.set_cons_succ, i64_w, i32_w]
       rfl
      refine pure_ (i := 7) (N := some 85) (v := undef) (a' := ?_) #[true,true,true,true,true,true,true,true,false,false,false,false,false,false,false,false,false,false,false,false,false,false] rfl rfl (any_of HT_.out (by kernel_rfl)) (fun _ _ _ h => h) (Or.inr ⟨by rfl, rfl⟩) ?_ ?_
      rotate_left
      ·simp only [Act.put, List.setIfInBounds_toArray, List.set_cons_zero, List.set_cons_succ, i64_w, i32_w]
       rfl
      refine pure_ (i := 8) (N := some 86) (v := undef) (a' := ?_) #[true,true,true,true,true,true,true,true,true,false,false,false,false,false,false,false,false,false,false,false,false,false] rfl rfl (any_of HT_.out (by kernel_rfl)) (fun _ _ _ h => h) (Or.inr ⟨by rfl, rfl⟩) ?_ ?_
      rotate_left
      ·simp only [Act.put, List.setIfInBounds_toArray, List.set_cons_zero, List.set_cons_succ, i64_w, i32_w]
       rfl
      refine pq_ 9 (some 87) ?_
      refine pq_ 10 (some 88) ?_
      refine pure_ (i := 11) (N := some 89) (v := undef) (a' := ?_) #[true,true,true,true,true,true,true,true,true,true,true,true,false,false,false,false,false,false,false,false,false,false] rfl rfl (any_of HT_.out (by kernel_rfl)) (fun _ _ _ h => h) (Or.inr ⟨by rfl, rfl⟩) ?_ ?_
      rotate_left
      ·simp only [Act.put, List.setIfInBounds_toArray, List.set_cons_zero, List.set_cons_succ, i64_w, i32_w]
       rfl
      refine pq_ 12 (some 90) ?_
      refine pq_ 13 (some 91) ?_
      refine pure_ (i := 14) (N := some 92) (v := undef) (a' := ?_) #[true,true,true,true,true,true,true,true,true,true,true,true,true,true,true,false,false,false,false,false,false,false] rfl rfl (any_of HT_.out (by kernel_rfl)) (fun _ _ _ h => h) (Or.inr ⟨by rfl, rfl⟩) ?_ ?_
      rotate_left
      ·simp only [Act.put, List.setIfInBounds_toArray, List.set_cons_zero, List.set_cons_succ, i64_w, i32_w]
       rfl
      refine pq_ 15 (some 93) ?_
      refine pq_ 16 (some 94) ?_
      refine pure_ (i := 17) (N := some 95) (v := undef) (a' := ?_) #[true,true,true,true,true,true,true,true,true,true,true,true,true,true,true,true,true,true,false,false,false,false] rfl rfl (any_of HT_.out (by kernel_rfl)) (fun _ _ _ h => h) (Or.inr ⟨by rfl, rfl⟩) ?_ ?_
      rotate_left
      ·simp only [Act.put, List.setIfInBounds_toArray, List.set_cons_zero, List.set_cons_succ, i64_w, i32_w]
       rfl
      refine pure_ (i := 18) (N := some 96) (v := undef) (a' := ?_) #[true,true,true,true,true,true,true,true,true,true,true,true,true,true,true,true,true,true,true,false,false,false] rfl rfl (any_of HT_.out (by kernel_rfl)) (fun _ _ _ h => h) (Or.inr ⟨by rfl, rfl⟩) ?_ ?_
      rotate_left
      ·simp only [Act.put, List.setIfInBounds_toArray, List.set_cons_zero, List.set_cons_succ, i64_w, i32_w]
       rfl
      refine pure_ (i := 19) (N := some 97) (v := undef) (a' := ?_) #[true,true,true,true,true,true,true,true,true,true,true,true,true,true,true,true,true,true,true,true,false,false] rfl rfl (any_of HT_.out (by kernel_rfl)) (fun _ _ _ h => h) (Or.inr ⟨by rfl, rfl⟩) ?_ ?_
      rotate_left
      ·simp only [Act.put, List.setIfInBounds_toArray, List.set_cons_zero, List.set_cons_succ, i64_w, i32_w]
       rfl
      refine pq_ 20 (some 98) ?_
      refine pq_ 21 (some 2) ?_
      refine done_ (done_of HT_.out (by kernel_rfl)) ?_
      try go_wp2
      go_ret
      exact ⟨er, lb HB.out⟩
def laws_FnShareParcel.Pure : Prop := ∀ (l0 : List Int), l0.length ≤ maxLen → l0.length * 1 ≤ 140737488351232 → (∀ x ∈ l0, (Lit.int .u8 x).wf = true) → ∃ k, laws_FnShareParcel.f k l0 = some true
theorem laws_FnShareParcel.walk (P : laws_FnShareParcel.Pure) (a0 : Option Addr) (len0 cap0 : Nat) (z0 : List Int) (w : World) (w0 : (a0 = none ∧ len0 = 0 ∧ cap0 = 0 ∧ z0 = []) ∨ ∃ x, a0 = some x ∧ len0 ≤ cap0 ∧ cap0 ≤ maxLen ∧ z0.length = cap0 ∧ (∀ i, i < z0.length → w.cell? (x.add i) = some (.int .u8 (z0.getD i 0))) ∧ ∀ n ∈ z0, (Lit.int .u8 n).wf = true) (y0 : len0 * 1 ≤ 140737488351232) :
  Calls Try.prog 4 #[.slice a0 len0 cap0] w fun e w' => e = .returned (.bool true) ∧ Below w.heap.size w w' := by
 obtain ⟨l0, rfl, hr0, hm0, hw0, hc0⟩ := ReadsInt.ofRowC w0
 obtain ⟨k, h⟩ := P l0 hm0 y0 hw0
 refine (laws_FnShareParcel.calls k _ _ l0 true w (Kd.C_of_reads (d := (0 : Int)) (h1 := fun _ => rfl) hr0) hc0 h).mono ?_
 rintro e w' ⟨rfl, hd⟩
 exact ⟨rfl, hd⟩
end Go.Proofs.Ytfonigbkoligmaa.P
-- squeezed

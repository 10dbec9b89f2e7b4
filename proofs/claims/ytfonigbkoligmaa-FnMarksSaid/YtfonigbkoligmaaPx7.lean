import Derived.Test.YtfonigbkoligmaaPx0
import Derived.Test.YtfonigbkoligmaaPx1
import Derived.Test.YtfonigbkoligmaaPx5
import Derived.Test.YtfonigbkoligmaaPx6
namespace Go.Proofs.Ytfonigbkoligmaa.P
open Go.RowKit Go.Proofs.YtfonigbkoligmaaW.PrintWords Go.Proofs.YtfonigbkoligmaaW.PrintLast Go.Proofs.YtfonigbkoligmaaW.PrintMore
attribute [local go_sem] max2_int min2_int max_two min_two max_three min_three max_four min_four
set_option linter.unusedVariables false
set_option linter.unusedSimpArgs false
attribute [local go_sem high] eqA33
def spec_l31Meet.j0 : Nat → Bool → Int → Int → Int → Int → Int → Int → Int → Int → Option (Bool)
 | 0, _, _, _, _, _, _, _, _, _ => none
 | k + 1, x30, x283000, x283001, x284000, x284001, x285000, x285001, x286000, x286001 => if x30 = true then (some true) else ((spec_l31Side.f x283000 x283001 x284000 x284001 x285000 x285001).bind fun t290 => ((spec_l31Side.f x283000 x283001 x284000 x284001 x286000 x286001).bind fun t291 => (if (wrap64 (t290 * t291)) < 0 then ((spec_l31Side.f x285000 x285001 x286000 x286001 x283000 x283001).bind fun t292 => ((spec_l31Side.f x285000 x285001 x286000 x286001 x284000 x284001).bind fun t293 => (some (decide ((wrap64 (t292 * t293)) < 0))))) else (some false))))
def spec_l31Meet.f (k : Nat) (a0_0 : Int) (a0_1 : Int) (a1_0 : Int) (a1_1 : Int) (a2_0 : Int) (a2_1 : Int) (a3_0 : Int) (a3_1 : Int) : Option (Bool) := (spec_l2On.f a0_0 a0_1 a1_0 a1_1 a2_0 a2_1).bind fun t286 => (if t286 = true then (spec_l31Meet.j0 k true a0_0 a0_1 a1_0 a1_1 a2_0 a2_1 a3_0 a3_1) else ((spec_l2On.f a0_0 a0_1 a1_0 a1_1 a3_0 a3_1).bind fun t287 => (if t287 = true then (spec_l31Meet.j0 k true a0_0 a0_1 a1_0 a1_1 a2_0 a2_1 a3_0 a3_1) else ((spec_l2On.f a2_0 a2_1 a3_0 a3_1 a0_0 a0_1).bind fun t288 => (if t288 = true then (spec_l31Meet.j0 k true a0_0 a0_1 a1_0 a1_1 a2_0 a2_1 a3_0 a3_1) else ((spec_l2On.f a2_0 a2_1 a3_0 a3_1 a1_0 a1_1).bind fun t289 => (spec_l31Meet.j0 k t289 a0_0 a0_1 a1_0 a1_1 a2_0 a2_1 a3_0 a3_1)))))))
theorem spec_l31Meet.mono_l : ∀ k, (∀ y0 y1 y2 y3 y4 y5 y6 y7 y8, LeO (spec_l31Meet.j0 k y0 y1 y2 y3 y4 y5 y6 y7 y8) (spec_l31Meet.j0 (k + 1) y0 y1 y2 y3 y4 y5 y6 y7 y8))
 | 0 => fun _ _ _ _ _ _ _ _ _ r h => by simp [spec_l31Meet.j0] at h
 | k + 1 => by
  have ih0 := spec_l31Meet.mono_l k
  ·intro y0 y1 y2 y3 y4 y5 y6 y7 y8
   unfold spec_l31Meet.j0
   repeat' first
   | (with_reducible exact ih0 _ _ _ _ _ _ _ _ _)
   | (with_reducible exact LeO.refl _)
   | (with_reducible exact LeO.none _)
   | (with_reducible refine LeO.ite ?_ ?_)
   | (with_reducible refine LeO.bind ?_ (fun _ => ?_))
   | exact ih0 _ _ _ _ _ _ _ _ _
   | exact LeO.none _
   | refine LeO.ite ?_ ?_
   | refine LeO.bind ?_ (fun _ => ?_)
theorem spec_l31Meet.mono : ∀ a0 a1 a2 a3 a4 a5 a6 a7 k, LeO (spec_l31Meet.f k a0 a1 a2 a3 a4 a5 a6 a7) (spec_l31Meet.f (k + 1) a0 a1 a2 a3 a4 a5 a6 a7) := by
 intro a0 a1 a2 a3 a4 a5 a6 a7 k
 have ih0 := spec_l31Meet.mono_l k
 unfold spec_l31Meet.f
 repeat' first
   | (with_reducible exact ih0 _ _ _ _ _ _ _ _ _)
   | (with_reducible exact LeO.refl _)
   | (with_reducible exact LeO.none _)
   | (with_reducible refine LeO.ite ?_ ?_)
   | (with_reducible refine LeO.bind ?_ (fun _ => ?_))
   | exact ih0 _ _ _ _ _ _ _ _ _
   | exact LeO.none _
   | refine LeO.ite ?_ ?_
   | refine LeO.bind ?_ (fun _ => ?_)
def spec_l31Meet.T3 : Bool × List (List Nat × List Nat) := (true,[([],[]),([],[]),([],[]),([0,1,2],[0,1,2]),([],[]),([],[]),([],[]),([4,5,6,3],[4,5,6]),([3,7],[3,7]),([8],[8]),([9,7],[9]),([10],[10]),([10],[10]),([10],[10]),([11,12,13,10,10],[10,11,12,13]),([10],[10]),([10],[10]),([10],[10]),([15,16,17,14,10],[10,15,16,17]),([14,18,10],[10,14,18]),([19,10],[10,19]),([10,20],[10,20]),([21,18,0,1,2,3,4,5,6,7,8,9,10,11,12,13,14,15,16,17,18,19,20,21],[21])])
def spec_l31Meet.B3 : List Nat := [0,0,0,7,0,0,0,127,255,511,1023,2047,2047,2047,16383,2047,2047,2047,262143,524287,1048575,2097151,4194303]
theorem spec_l31Meet.tab3 : rtab .any (opsOf Try.f62 3) = spec_l31Meet.T3 := by kernel_rfl
theorem spec_l31Meet.bits3 : waitsOk spec_l31Meet.T3.2 spec_l31Meet.B3 = true := by kernel_rfl
set_option maxHeartbeats 8000000 in
set_option maxRecDepth 100000 in
theorem spec_l31Meet.calls (k : Nat) (a0_0 : Int) (a0_1 : Int) (a1_0 : Int) (a1_1 : Int) (a2_0 : Int) (a2_1 : Int) (a3_0 : Int) (a3_1 : Int) (r : Bool) (w : World) (h : spec_l31Meet.f k a0_0 a0_1 a1_0 a1_1 a2_0 a2_1 a3_0 a3_1 = some r) :
  Calls Try.prog 62 #[.agg #[.int .i64 a0_0, .int .i64 a0_1], .agg #[.int .i64 a1_0, .int .i64 a1_1], .agg #[.int .i64 a2_0, .int .i64 a2_1], .agg #[.int .i64 a3_0, .int .i64 a3_1]] w fun e w' => e = .returned (.bool r) ∧ Below w.heap.size w w' := by
 have hu33 := Try.underlying33
 have HB := Aside0.mk (Below.refl w.heap.size w)
 have H : ((spec_l2On.f a0_0 a0_1 a1_0 a1_1 a2_0 a2_1).bind fun t286 => (if t286 = true then (spec_l31Meet.j0 k true a0_0 a0_1 a1_0 a1_1 a2_0 a2_1 a3_0 a3_1) else ((spec_l2On.f a0_0 a0_1 a1_0 a1_1 a3_0 a3_1).bind fun t287 => (if t287 = true then (spec_l31Meet.j0 k true a0_0 a0_1 a1_0 a1_1 a2_0 a2_1 a3_0 a3_1) else ((spec_l2On.f a2_0 a2_1 a3_0 a3_1 a0_0 a0_1).bind fun t288 => (if t288 = true then (spec_l31Meet.j0 k true a0_0 a0_1 a1_0 a1_1 a2_0 a2_1 a3_0 a3_1) else ((spec_l2On.f a2_0 a2_1 a3_0 a3_1 a1_0 a1_1).bind fun t289 => (spec_l31Meet.j0 k t289 a0_0 a0_1 a1_0 a1_1 a2_0 a2_1 a3_0 a3_1)))))))) = some r := h
 clear h
 have HC5 := Aside0.mk H
 clear H
 go_enter Try.func62, Try.ntmps62
 go_upto_region 1 with (first | ((with_reducible refine gate_dst (N := 4) rfl ?_); refine bx_ 4 (cs := #[.int .i64 a0_0, .int .i64 a0_1]) (t := 33) ?_; intro gb282 hg w6 hbox hb; have n0_ := Aside0.mk (below_step (lb HB.out) hb); have n1_ := Aside0.mk (hbox); have n2_ := Aside0.mk ((by rw [hg]; exact (below_size (lb HB.out)) : w.heap.size ≤ gb282)); have n3_ := Aside0.mk ((by rw [hg]; exact (below_size (lb HB.out)) : w.heap.size ≤ gb282)); clear HB; have HB := n0_; have BK282 := n1_; have GW282 := n2_; have GE282 := n3_; clear n0_ n1_ n2_ n3_; clear hb hbox hg) | ((with_reducible refine gate_dst (N := 5) rfl ?_); refine bx_ 5 (cs := #[.int .i64 a1_0, .int .i64 a1_1]) (t := 33) ?_; intro gb283 hg w7 hbox hb; have n0_ := Aside0.mk (blk_below (bf BK282.out) hb); have n1_ := Aside0.mk (below_step (lb HB.out) hb); have n2_ := Aside0.mk (hbox); have n3_ := Aside0.mk ((by rw [hg]; exact (below_size (lb HB.out)) : w.heap.size ≤ gb283)); have n4_ := Aside0.mk ((by rw [hg]; exact (below_size (lb HB.out)) : w.heap.size ≤ gb283)); have n5_ := Aside0.mk ((by rw [hg]; exact Nat.ne_of_lt (blk_lt (bf BK282.out)) : gb282 ≠ gb283)); have n6_ := Aside0.mk ((by rw [hg]; exact Nat.ne_of_gt (blk_lt (bf BK282.out)) : gb283 ≠ gb282)); clear BK282; clear HB; have BK282 := n0_; have HB := n1_; have BK283 := n2_; have GW283 := n3_; have GE283 := n4_; have NB282_283 := n5_; have NB283_282 := n6_; clear n0_ n1_ n2_ n3_ n4_ n5_ n6_; clear hb hbox hg) | ((with_reducible refine gate_dst (N := 6) rfl ?_); refine bx_ 6 (cs := #[.int .i64 a2_0, .int .i64 a2_1]) (t := 33) ?_; intro gb284 hg w8 hbox hb; have n0_ := Aside0.mk (blk_below (bf BK282.out) hb); have n1_ := Aside0.mk (blk_below (bf BK283.out) hb); have n2_ := Aside0.mk (below_step (lb HB.out) hb); have n3_ := Aside0.mk (hbox); have n4_ := Aside0.mk ((by rw [hg]; exact (below_size (lb HB.out)) : w.heap.size ≤ gb284)); have n5_ := Aside0.mk ((by rw [hg]; exact (below_size (lb HB.out)) : w.heap.size ≤ gb284)); have n6_ := Aside0.mk ((by rw [hg]; exact Nat.ne_of_lt (blk_lt (bf BK282.out)) : gb282 ≠ gb284)); have n7_ := Aside0.mk ((by rw [hg]; exact Nat.ne_of_gt (blk_lt (bf BK282.out)) : gb284 ≠ gb282)); have n8_ := Aside0.mk ((by rw [hg]; exact Nat.ne_of_lt (blk_lt (bf BK283.out)) : gb283 ≠ gb284)); have n9_ := Aside0.mk ((by rw [hg]; exact Nat.ne_of_gt (blk_lt (bf BK283.out)) : gb284 ≠ gb283)); clear BK282; clear BK283; clear HB; have BK282 := n0_; have BK283 := n1_; have HB := n2_; have BK284 := n3_; have GW284 := n4_; have GE284 := n5_; have NB282_284 := n6_; have NB284_282 := n7_; have NB283_284 := n8_; have NB284_283 := n9_; clear n0_ n1_ n2_ n3_ n4_ n5_ n6_ n7_ n8_ n9_; clear hb hbox hg) | ((with_reducible refine gate_dst (N := 7) rfl ?_); refine bx_ 7 (cs := #[.int .i64 a3_0, .int .i64 a3_1]) (t := 33) ?_; intro gb285 hg w9 hbox hb; have n0_ := Aside0.mk (blk_below (bf BK282.out) hb); have n1_ := Aside0.mk (blk_below (bf BK283.out) hb); have n2_ := Aside0.mk (blk_below (bf BK284.out) hb); have n3_ := Aside0.mk (below_step (lb HB.out) hb); have n4_ := Aside0.mk (hbox); have n5_ := Aside0.mk ((by rw [hg]; exact (below_size (lb HB.out)) : w.heap.size ≤ gb285)); have n6_ := Aside0.mk ((by rw [hg]; exact (below_size (lb HB.out)) : w.heap.size ≤ gb285)); have n7_ := Aside0.mk ((by rw [hg]; exact Nat.ne_of_lt (blk_lt (bf BK282.out)) : gb282 ≠ gb285)); have n8_ := Aside0.mk ((by rw [hg]; exact Nat.ne_of_gt (blk_lt (bf BK282.out)) : gb285 ≠ gb282)); have n9_ := Aside0.mk ((by rw [hg]; exact Nat.ne_of_lt (blk_lt (bf BK283.out)) : gb283 ≠ gb285)); have n10_ := Aside0.mk ((by rw [hg]; exact Nat.ne_of_gt (blk_lt (bf BK283.out)) : gb285 ≠ gb283)); have n11_ := Aside0.mk ((by rw [hg]; exact Nat.ne_of_lt (blk_lt (bf BK284.out)) : gb284 ≠ gb285)); have n12_ := Aside0.mk ((by rw [hg]; exact Nat.ne_of_gt (blk_lt (bf BK284.out)) : gb285 ≠ gb284)); clear BK282; clear BK283; clear BK284; clear HB; have BK282 := n0_; have BK283 := n1_; have BK284 := n2_; have HB := n3_; have BK285 := n4_; have GW285 := n5_; have GE285 := n6_; have NB282_285 := n7_; have NB285_282 := n8_; have NB283_285 := n9_; have NB285_283 := n10_; have NB284_285 := n11_; have NB285_284 := n12_; clear n0_ n1_ n2_ n3_ n4_ n5_ n6_ n7_ n8_ n9_ n10_ n11_ n12_; clear hb hbox hg))
 (try simp only [Act.put, List.setIfInBounds_toArray, List.set_cons_zero, List.set_cons_succ])
 go_cut [30] (fun v30 wc => ∃ (kq : Nat) (x30_4 : Bool), v30 = .bool x30_4 ∧ Aside0 (spec_l31Meet.j0 kq x30_4 a0_0 a0_1 a1_0 a1_1 a2_0 a2_1 a3_0 a3_1 = some r) ∧ Aside0 (kq ≤ k) ∧ Aside0 (wc.heap[gb282]? = some (.cells #[.int .i64 a0_0, .int .i64 a0_1] 33 (0, 0))) ∧ Aside0 (wc.heap[gb283]? = some (.cells #[.int .i64 a1_0, .int .i64 a1_1] 33 (0, 0))) ∧ Aside0 (wc.heap[gb284]? = some (.cells #[.int .i64 a2_0, .int .i64 a2_1] 33 (0, 0))) ∧ Aside0 (wc.heap[gb285]? = some (.cells #[.int .i64 a3_0, .int .i64 a3_1] 33 (0, 0))) ∧ Aside0 (Below w.heap.size w wc))
 case first =>
  have H := HC5.out
  clear HC5
  replace H := Option.bind_eq_some_iff.mp H
  obtain ⟨t286, A100, H⟩ := H
  replace H : (if t286 = true then (spec_l31Meet.j0 k true a0_0 a0_1 a1_0 a1_1 a2_0 a2_1 a3_0 a3_1) else ((spec_l2On.f a0_0 a0_1 a1_0 a1_1 a3_0 a3_1).bind fun t287 => (if t287 = true then (spec_l31Meet.j0 k true a0_0 a0_1 a1_0 a1_1 a2_0 a2_1 a3_0 a3_1) else ((spec_l2On.f a2_0 a2_1 a3_0 a3_1 a0_0 a0_1).bind fun t288 => (if t288 = true then (spec_l31Meet.j0 k true a0_0 a0_1 a1_0 a1_1 a2_0 a2_1 a3_0 a3_1) else ((spec_l2On.f a2_0 a2_1 a3_0 a3_1 a1_0 a1_1).bind fun t289 => (spec_l31Meet.j0 k t289 a0_0 a0_1 a1_0 a1_1 a2_0 a2_1 a3_0 a3_1))))))) = some r := H
  have A10 := Aside0.mk A100
  clear A100
  by_cases c11 : t286 = true
  ·subst c11
   have H1 : (spec_l31Meet.j0 k true a0_0 a0_1 a1_0 a1_1 a2_0 a2_1 a3_0 a3_1) = some r := by rw [if_pos rfl] at H; exact H
   clear H
   have H := H1
   clear H1
   have H' := Aside0.mk H
   clear H
   have hnb12 := NB282_283.out
   have hnc12 := NB283_282.out
   have hnb13 := NB282_284.out
   have hnc13 := NB284_282.out
   have hnb14 := NB282_285.out
   have hnc14 := NB285_282.out
   have hcz15_0 : w9.cell? ⟨gb282, 0, none⟩ = some (.int .i64 a0_0) := (blk_cell BK282.out 0).trans rfl
   have hcz15_1 : w9.cell? ⟨gb282, 1, none⟩ = some (.int .i64 a0_1) := (blk_cell BK282.out 1).trans rfl
   have hfz15_0 := blk_frozen BK282.out 0
   have hfz15_1 := blk_frozen BK282.out 1
   have hnb16 := NB283_284.out
   have hnc16 := NB284_283.out
   have hnb17 := NB283_285.out
   have hnc17 := NB285_283.out
   have hcz18_0 : w9.cell? ⟨gb283, 0, none⟩ = some (.int .i64 a1_0) := (blk_cell BK283.out 0).trans rfl
   have hcz18_1 : w9.cell? ⟨gb283, 1, none⟩ = some (.int .i64 a1_1) := (blk_cell BK283.out 1).trans rfl
   have hfz18_0 := blk_frozen BK283.out 0
   have hfz18_1 := blk_frozen BK283.out 1
   have hnb19 := NB284_285.out
   have hnc19 := NB285_284.out
   have hcz20_0 : w9.cell? ⟨gb284, 0, none⟩ = some (.int .i64 a2_0) := (blk_cell BK284.out 0).trans rfl
   have hcz20_1 : w9.cell? ⟨gb284, 1, none⟩ = some (.int .i64 a2_1) := (blk_cell BK284.out 1).trans rfl
   have hfz20_0 := blk_frozen BK284.out 0
   have hfz20_1 := blk_frozen BK284.out 1
   go_wp2_with (first | ((with_reducible refine gate_callee (f := 87) rfl ?_); refine goesL_ (some 12) rfl rfl Try.func87 (by kernel_rfl) rfl #[.agg #[.int .i64 a0_0, .int .i64 a0_1], .agg #[.int .i64 a1_0, .int .i64 a1_1], .agg #[.int .i64 a2_0, .int .i64 a2_1]] rfl al ?_; (with_reducible refine (spec_l2On.calls a0_0 a0_1 a1_0 a1_1 a2_0 a2_1 true _ A10.out).mono ?_); rintro e w21 ⟨rfl, hb⟩; refine ⟨_, rfl, ?_⟩; have n0_ := Aside0.mk (blk_below (bf BK282.out) hb); have n1_ := Aside0.mk (blk_below (bf BK283.out) hb); have n2_ := Aside0.mk (blk_below (bf BK284.out) hb); have n3_ := Aside0.mk (blk_below (bf BK285.out) hb); have n4_ := Aside0.mk (below_step (lb HB.out) hb); clear BK282; clear BK283; clear BK284; clear BK285; clear HB; have BK282 := n0_; have BK283 := n1_; have BK284 := n2_; have BK285 := n3_; have HB := n4_; clear n0_ n1_ n2_ n3_ n4_; (try clear hb); (try clear hb2); (try clear hk); (try clear hi)))
   go_meet
   case rel => exact ⟨_, (true), (by first | rfl | (simp; done) | (simp [*]; done)), H', ⟨by first | omega | exact Nat.le_refl _⟩, ⟨bu BK282.out⟩, ⟨bu BK283.out⟩, ⟨bu BK284.out⟩, ⟨bu BK285.out⟩, ⟨lb HB.out⟩⟩
  ·replace c11 := Bool.eq_false_iff.mpr c11
   subst c11
   have H1 : ((spec_l2On.f a0_0 a0_1 a1_0 a1_1 a3_0 a3_1).bind fun t287 => (if t287 = true then (spec_l31Meet.j0 k true a0_0 a0_1 a1_0 a1_1 a2_0 a2_1 a3_0 a3_1) else ((spec_l2On.f a2_0 a2_1 a3_0 a3_1 a0_0 a0_1).bind fun t288 => (if t288 = true then (spec_l31Meet.j0 k true a0_0 a0_1 a1_0 a1_1 a2_0 a2_1 a3_0 a3_1) else ((spec_l2On.f a2_0 a2_1 a3_0 a3_1 a1_0 a1_1).bind fun t289 => (spec_l31Meet.j0 k t289 a0_0 a0_1 a1_0 a1_1 a2_0 a2_1 a3_0 a3_1)))))) = some r := by rw [if_neg (show ¬ (false = true) by decide)] at H; exact H
   clear H
   have H := H1
   clear H1
   replace H := Option.bind_eq_some_iff.mp H
   obtain ⟨t287, A220, H⟩ := H
   replace H : (if t287 = true then (spec_l31Meet.j0 k true a0_0 a0_1 a1_0 a1_1 a2_0 a2_1 a3_0 a3_1) else ((spec_l2On.f a2_0 a2_1 a3_0 a3_1 a0_0 a0_1).bind fun t288 => (if t288 = true then (spec_l31Meet.j0 k true a0_0 a0_1 a1_0 a1_1 a2_0 a2_1 a3_0 a3_1) else ((spec_l2On.f a2_0 a2_1 a3_0 a3_1 a1_0 a1_1).bind fun t289 => (spec_l31Meet.j0 k t289 a0_0 a0_1 a1_0 a1_1 a2_0 a2_1 a3_0 a3_1))))) = some r := H
   have A22 := Aside0.mk A220
   clear A220
   by_cases c23 : t287 = true
   ·subst c23
    have H1 : (spec_l31Meet.j0 k true a0_0 a0_1 a1_0 a1_1 a2_0 a2_1 a3_0 a3_1) = some r := by rw [if_pos rfl] at H; exact H
    clear H
    have H := H1
    clear H1
    have H' := Aside0.mk H
    clear H
    have hnb24 := NB282_283.out
    have hnc24 := NB283_282.out
    have hnb25 := NB282_284.out
    have hnc25 := NB284_282.out
    have hnb26 := NB282_285.out
    have hnc26 := NB285_282.out
    have hcz27_0 : w9.cell? ⟨gb282, 0, none⟩ = some (.int .i64 a0_0) := (blk_cell BK282.out 0).trans rfl
    have hcz27_1 : w9.cell? ⟨gb282, 1, none⟩ = some (.int .i64 a0_1) := (blk_cell BK282.out 1).trans rfl
    have hfz27_0 := blk_frozen BK282.out 0
    have hfz27_1 := blk_frozen BK282.out 1
    have hnb28 := NB283_284.out
    have hnc28 := NB284_283.out
    have hnb29 := NB283_285.out
    have hnc29 := NB285_283.out
    have hcz30_0 : w9.cell? ⟨gb283, 0, none⟩ = some (.int .i64 a1_0) := (blk_cell BK283.out 0).trans rfl
    have hcz30_1 : w9.cell? ⟨gb283, 1, none⟩ = some (.int .i64 a1_1) := (blk_cell BK283.out 1).trans rfl
    have hfz30_0 := blk_frozen BK283.out 0
    have hfz30_1 := blk_frozen BK283.out 1
    have hnb31 := NB284_285.out
    have hnc31 := NB285_284.out
    have hcz32_0 : w9.cell? ⟨gb284, 0, none⟩ = some (.int .i64 a2_0) := (blk_cell BK284.out 0).trans rfl
    have hcz32_1 : w9.cell? ⟨gb284, 1, none⟩ = some (.int .i64 a2_1) := (blk_cell BK284.out 1).trans rfl
    have hfz32_0 := blk_frozen BK284.out 0
    have hfz32_1 := blk_frozen BK284.out 1
    go_wp2_with (first | ((with_reducible refine gate_callee (f := 87) rfl ?_); refine goesL_ (some 12) rfl rfl Try.func87 (by kernel_rfl) rfl #[.agg #[.int .i64 a0_0, .int .i64 a0_1], .agg #[.int .i64 a1_0, .int .i64 a1_1], .agg #[.int .i64 a2_0, .int .i64 a2_1]] rfl al ?_; (with_reducible refine (spec_l2On.calls a0_0 a0_1 a1_0 a1_1 a2_0 a2_1 false _ A10.out).mono ?_); rintro e w33 ⟨rfl, hb⟩; refine ⟨_, rfl, ?_⟩; have n0_ := Aside0.mk (blk_below (bf BK282.out) hb); have n1_ := Aside0.mk (blk_below (bf BK283.out) hb); have n2_ := Aside0.mk (blk_below (bf BK284.out) hb); have n3_ := Aside0.mk (blk_below (bf BK285.out) hb); have n4_ := Aside0.mk (below_step (lb HB.out) hb); clear BK282; clear BK283; clear BK284; clear BK285; clear HB; have BK282 := n0_; have BK283 := n1_; have BK284 := n2_; have BK285 := n3_; have HB := n4_; clear n0_ n1_ n2_ n3_ n4_; (try clear hb); (try clear hb2); (try clear hk); (try clear hi); have hcz34_0 : w33.cell? ⟨gb282, 0, none⟩ = some (.int .i64 a0_0) := (blk_cell BK282.out 0).trans rfl; have hcz34_1 : w33.cell? ⟨gb282, 1, none⟩ = some (.int .i64 a0_1) := (blk_cell BK282.out 1).trans rfl; have hfz34_0 := blk_frozen BK282.out 0; have hfz34_1 := blk_frozen BK282.out 1; have hcz35_0 : w33.cell? ⟨gb283, 0, none⟩ = some (.int .i64 a1_0) := (blk_cell BK283.out 0).trans rfl; have hcz35_1 : w33.cell? ⟨gb283, 1, none⟩ = some (.int .i64 a1_1) := (blk_cell BK283.out 1).trans rfl; have hfz35_0 := blk_frozen BK283.out 0; have hfz35_1 := blk_frozen BK283.out 1; have hcz36_0 : w33.cell? ⟨gb285, 0, none⟩ = some (.int .i64 a3_0) := (blk_cell BK285.out 0).trans rfl; have hcz36_1 : w33.cell? ⟨gb285, 1, none⟩ = some (.int .i64 a3_1) := (blk_cell BK285.out 1).trans rfl; have hfz36_0 := blk_frozen BK285.out 0; have hfz36_1 := blk_frozen BK285.out 1) | (go_at_call 87; (with_reducible refine (spec_l2On.calls a0_0 a0_1 a1_0 a1_1 a3_0 a3_1 true _ A22.out).mono ?_); rintro e w37 ⟨rfl, hb⟩; have n0_ := Aside0.mk (blk_below (bf BK282.out) hb); have n1_ := Aside0.mk (blk_below (bf BK283.out) hb); have n2_ := Aside0.mk (blk_below (bf BK284.out) hb); have n3_ := Aside0.mk (blk_below (bf BK285.out) hb); have n4_ := Aside0.mk (below_step (lb HB.out) hb); clear BK282; clear BK283; clear BK284; clear BK285; clear HB; have BK282 := n0_; have BK283 := n1_; have BK284 := n2_; have BK285 := n3_; have HB := n4_; clear n0_ n1_ n2_ n3_ n4_; (try clear hb); (try clear hb2); (try clear hk); (try clear hi)))
    go_meet
    case rel => exact ⟨_, (true), (by first | rfl | (simp; done) | (simp [*]; done)), H', ⟨by first | omega | exact Nat.le_refl _⟩, ⟨bu BK282.out⟩, ⟨bu BK283.out⟩, ⟨bu BK284.out⟩, ⟨bu BK285.out⟩, ⟨lb HB.out⟩⟩
   ·replace c23 := Bool.eq_false_iff.mpr c23
    subst c23
    have H1 : ((spec_l2On.f a2_0 a2_1 a3_0 a3_1 a0_0 a0_1).bind fun t288 => (if t288 = true then (spec_l31Meet.j0 k true a0_0 a0_1 a1_0 a1_1 a2_0 a2_1 a3_0 a3_1) else ((spec_l2On.f a2_0 a2_1 a3_0 a3_1 a1_0 a1_1).bind fun t289 => (spec_l31Meet.j0 k t289 a0_0 a0_1 a1_0 a1_1 a2_0 a2_1 a3_0 a3_1)))) = some r := by rw [if_neg (show ¬ (false = true) by decide)] at H; exact H
    clear H
    have H := H1
    clear H1
    replace H := Option.bind_eq_some_iff.mp H
    obtain ⟨t288, A380, H⟩ := H
    replace H : (if t288 = true then (spec_l31Meet.j0 k true a0_0 a0_1 a1_0 a1_1 a2_0 a2_1 a3_0 a3_1) else ((spec_l2On.f a2_0 a2_1 a3_0 a3_1 a1_0 a1_1).bind fun t289 => (spec_l31Meet.j0 k t289 a0_0 a0_1 a1_0 a1_1 a2_0 a2_1 a3_0 a3_1))) = some r := H
    have A38 := Aside0.mk A380
    clear A380
    by_cases c39 : t288 = true
    ·subst c39
     have H1 : (spec_l31Meet.j0 k true a0_0 a0_1 a1_0 a1_1 a2_0 a2_1 a3_0 a3_1) = some r := by rw [if_pos rfl] at H; exact H
     clear H
     have H := H1
     clear H1
     have H' := Aside0.mk H
     clear H
     have hnb40 := NB282_283.out
     have hnc40 := NB283_282.out
     have hnb41 := NB282_284.out
     have hnc41 := NB284_282.out
     have hnb42 := NB282_285.out
     have hnc42 := NB285_282.out
     have hcz43_0 : w9.cell? ⟨gb282, 0, none⟩ = some (.int .i64 a0_0) := (blk_cell BK282.out 0).trans rfl
     have hcz43_1 : w9.cell? ⟨gb282, 1, none⟩ = some (.int .i64 a0_1) := (blk_cell BK282.out 1).trans rfl
     have hfz43_0 := blk_frozen BK282.out 0
     have hfz43_1 := blk_frozen BK282.out 1
     have hnb44 := NB283_284.out
     have hnc44 := NB284_283.out
     have hnb45 := NB283_285.out
     have hnc45 := NB285_283.out
     have hcz46_0 : w9.cell? ⟨gb283, 0, none⟩ = some (.int .i64 a1_0) := (blk_cell BK283.out 0).trans rfl
     have hcz46_1 : w9.cell? ⟨gb283, 1, none⟩ = some (.int .i64 a1_1) := (blk_cell BK283.out 1).trans rfl
     have hfz46_0 := blk_frozen BK283.out 0
     have hfz46_1 := blk_frozen BK283.out 1
     have hnb47 := NB284_285.out
     have hnc47 := NB285_284.out
     have hcz48_0 : w9.cell? ⟨gb284, 0, none⟩ = some (.int .i64 a2_0) := (blk_cell BK284.out 0).trans rfl
     have hcz48_1 : w9.cell? ⟨gb284, 1, none⟩ = some (.int .i64 a2_1) := (blk_cell BK284.out 1).trans rfl
     have hfz48_0 := blk_frozen BK284.out 0
     have hfz48_1 := blk_frozen BK284.out 1
     go_wp2_with (first | ((with_reducible refine gate_callee (f := 87) rfl ?_); refine goesL_ (some 12) rfl rfl Try.func87 (by kernel_rfl) rfl #[.agg #[.int .i64 a0_0, .int .i64 a0_1], .agg #[.int .i64 a1_0, .int .i64 a1_1], .agg #[.int .i64 a2_0, .int .i64 a2_1]] rfl al ?_; (with_reducible refine (spec_l2On.calls a0_0 a0_1 a1_0 a1_1 a2_0 a2_1 false _ A10.out).mono ?_); rintro e w49 ⟨rfl, hb⟩; refine ⟨_, rfl, ?_⟩; have n0_ := Aside0.mk (blk_below (bf BK282.out) hb); have n1_ := Aside0.mk (blk_below (bf BK283.out) hb); have n2_ := Aside0.mk (blk_below (bf BK284.out) hb); have n3_ := Aside0.mk (blk_below (bf BK285.out) hb); have n4_ := Aside0.mk (below_step (lb HB.out) hb); clear BK282; clear BK283; clear BK284; clear BK285; clear HB; have BK282 := n0_; have BK283 := n1_; have BK284 := n2_; have BK285 := n3_; have HB := n4_; clear n0_ n1_ n2_ n3_ n4_; (try clear hb); (try clear hb2); (try clear hk); (try clear hi); have hcz50_0 : w49.cell? ⟨gb282, 0, none⟩ = some (.int .i64 a0_0) := (blk_cell BK282.out 0).trans rfl; have hcz50_1 : w49.cell? ⟨gb282, 1, none⟩ = some (.int .i64 a0_1) := (blk_cell BK282.out 1).trans rfl; have hfz50_0 := blk_frozen BK282.out 0; have hfz50_1 := blk_frozen BK282.out 1; have hcz51_0 : w49.cell? ⟨gb283, 0, none⟩ = some (.int .i64 a1_0) := (blk_cell BK283.out 0).trans rfl; have hcz51_1 : w49.cell? ⟨gb283, 1, none⟩ = some (.int .i64 a1_1) := (blk_cell BK283.out 1).trans rfl; have hfz51_0 := blk_frozen BK283.out 0; have hfz51_1 := blk_frozen BK283.out 1; have hcz52_0 : w49.cell? ⟨gb285, 0, none⟩ = some (.int .i64 a3_0) := (blk_cell BK285.out 0).trans rfl; have hcz52_1 : w49.cell? ⟨gb285, 1, none⟩ = some (.int .i64 a3_1) := (blk_cell BK285.out 1).trans rfl; have hfz52_0 := blk_frozen BK285.out 0; have hfz52_1 := blk_frozen BK285.out 1) | (go_at_call 87; (with_reducible refine (spec_l2On.calls a0_0 a0_1 a1_0 a1_1 a3_0 a3_1 false _ A22.out).mono ?_); rintro e w53 ⟨rfl, hb⟩; have n0_ := Aside0.mk (blk_below (bf BK282.out) hb); have n1_ := Aside0.mk (blk_below (bf BK283.out) hb); have n2_ := Aside0.mk (blk_below (bf BK284.out) hb); have n3_ := Aside0.mk (blk_below (bf BK285.out) hb); have n4_ := Aside0.mk (below_step (lb HB.out) hb); clear BK282; clear BK283; clear BK284; clear BK285; clear HB; have BK282 := n0_; have BK283 := n1_; have BK284 := n2_; have BK285 := n3_; have HB := n4_; clear n0_ n1_ n2_ n3_ n4_; (try clear hb); (try clear hb2); (try clear hk); (try clear hi); have hcz54_0 : w53.cell? ⟨gb284, 0, none⟩ = some (.int .i64 a2_0) := (blk_cell BK284.out 0).trans rfl; have hcz54_1 : w53.cell? ⟨gb284, 1, none⟩ = some (.int .i64 a2_1) := (blk_cell BK284.out 1).trans rfl; have hfz54_0 := blk_frozen BK284.out 0; have hfz54_1 := blk_frozen BK284.out 1; have hcz55_0 : w53.cell? ⟨gb285, 0, none⟩ = some (.int .i64 a3_0) := (blk_cell BK285.out 0).trans rfl; have hcz55_1 : w53.cell? ⟨gb285, 1, none⟩ = some (.int .i64 a3_1) := (blk_cell BK285.out 1).trans rfl; have hfz55_0 := blk_frozen BK285.out 0; have hfz55_1 := blk_frozen BK285.out 1; have hcz56_0 : w53.cell? ⟨gb282, 0, none⟩ = some (.int .i64 a0_0) := (blk_cell BK282.out 0).trans rfl; have hcz56_1 : w53.cell? ⟨gb282, 1, none⟩ = some (.int .i64 a0_1) := (blk_cell BK282.out 1).trans rfl; have hfz56_0 := blk_frozen BK282.out 0; have hfz56_1 := blk_frozen BK282.out 1) | (go_at_call 87; (with_reducible refine (spec_l2On.calls a2_0 a2_1 a3_0 a3_1 a0_0 a0_1 true _ A38.out).mono ?_); rintro e w57 ⟨rfl, hb⟩; have n0_ := Aside0.mk (blk_below (bf BK282.out) hb); have n1_ := Aside0.mk (blk_below (bf BK283.out) hb); have n2_ := Aside0.mk (blk_below (bf BK284.out) hb); have n3_ := Aside0.mk (blk_below (bf BK285.out) hb); have n4_ := Aside0.mk (below_step (lb HB.out) hb); clear BK282; clear BK283; clear BK284; clear BK285; clear HB; have BK282 := n0_; have BK283 := n1_; have BK284 := n2_; have BK285 := n3_; have HB := n4_; clear n0_ n1_ n2_ n3_ n4_; (try clear hb); (try clear hb2); (try clear hk); (try clear hi)))
     go_meet
     case rel => exact ⟨_, (true), (by first | rfl | (simp; done) | (simp [*]; done)), H', ⟨by first | omega | exact Nat.le_refl _⟩, ⟨bu BK282.out⟩, ⟨bu BK283.out⟩, ⟨bu BK284.out⟩, ⟨bu BK285.out⟩, ⟨lb HB.out⟩⟩
    ·replace c39 := Bool.eq_false_iff.mpr c39
     subst c39
     have H1 : ((spec_l2On.f a2_0 a2_1 a3_0 a3_1 a1_0 a1_1).bind fun t289 => (spec_l31Meet.j0 k t289 a0_0 a0_1 a1_0 a1_1 a2_0 a2_1 a3_0 a3_1)) = some r := by rw [if_neg (show ¬ (false = true) by decide)] at H; exact H
     clear H
     have H := H1
     clear H1
     replace H := Option.bind_eq_some_iff.mp H
     obtain ⟨t289, A580, H⟩ := H
     replace H : (spec_l31Meet.j0 k t289 a0_0 a0_1 a1_0 a1_1 a2_0 a2_1 a3_0 a3_1) = some r := H
     have A58 := Aside0.mk A580
     clear A580
     have H' := Aside0.mk H
     clear H
     have hnb59 := NB282_283.out
     have hnc59 := NB283_282.out
     have hnb60 := NB282_284.out
     have hnc60 := NB284_282.out
     have hnb61 := NB282_285.out
     have hnc61 := NB285_282.out
     have hcz62_0 : w9.cell? ⟨gb282, 0, none⟩ = some (.int .i64 a0_0) := (blk_cell BK282.out 0).trans rfl
     have hcz62_1 : w9.cell? ⟨gb282, 1, none⟩ = some (.int .i64 a0_1) := (blk_cell BK282.out 1).trans rfl
     have hfz62_0 := blk_frozen BK282.out 0
     have hfz62_1 := blk_frozen BK282.out 1
     have hnb63 := NB283_284.out
     have hnc63 := NB284_283.out
     have hnb64 := NB283_285.out
     have hnc64 := NB285_283.out
     have hcz65_0 : w9.cell? ⟨gb283, 0, none⟩ = some (.int .i64 a1_0) := (blk_cell BK283.out 0).trans rfl
     have hcz65_1 : w9.cell? ⟨gb283, 1, none⟩ = some (.int .i64 a1_1) := (blk_cell BK283.out 1).trans rfl
     have hfz65_0 := blk_frozen BK283.out 0
     have hfz65_1 := blk_frozen BK283.out 1
     have hnb66 := NB284_285.out
     have hnc66 := NB285_284.out
     have hcz67_0 : w9.cell? ⟨gb284, 0, none⟩ = some (.int .i64 a2_0) := (blk_cell BK284.out 0).trans rfl
     have hcz67_1 : w9.cell? ⟨gb284, 1, none⟩ = some (.int .i64 a2_1) := (blk_cell BK284.out 1).trans rfl
     have hfz67_0 := blk_frozen BK284.out 0
     have hfz67_1 := blk_frozen BK284.out 1
     go_wp2_with (first | ((with_reducible refine gate_callee (f := 87) rfl ?_); refine goesL_ (some 12) rfl rfl Try.func87 (by kernel_rfl) rfl #[.agg #[.int .i64 a0_0, .int .i64 a0_1], .agg #[.int .i64 a1_0, .int .i64 a1_1], .agg #[.int .i64 a2_0, .int .i64 a2_1]] rfl al ?_; (with_reducible refine (spec_l2On.calls a0_0 a0_1 a1_0 a1_1 a2_0 a2_1 false _ A10.out).mono ?_); rintro e w68 ⟨rfl, hb⟩; refine ⟨_, rfl, ?_⟩; have n0_ := Aside0.mk (blk_below (bf BK282.out) hb); have n1_ := Aside0.mk (blk_below (bf BK283.out) hb); have n2_ := Aside0.mk (blk_below (bf BK284.out) hb); have n3_ := Aside0.mk (blk_below (bf BK285.out) hb); have n4_ := Aside0.mk (below_step (lb HB.out) hb); clear BK282; clear BK283; clear BK284; clear BK285; clear HB; have BK282 := n0_; have BK283 := n1_; have BK284 := n2_; have BK285 := n3_; have HB := n4_; clear n0_ n1_ n2_ n3_ n4_; (try clear hb); (try clear hb2); (try clear hk); (try clear hi); have hcz69_0 : w68.cell? ⟨gb282, 0, none⟩ = some (.int .i64 a0_0) := (blk_cell BK282.out 0).trans rfl; have hcz69_1 : w68.cell? ⟨gb282, 1, none⟩ = some (.int .i64 a0_1) := (blk_cell BK282.out 1).trans rfl; have hfz69_0 := blk_frozen BK282.out 0; have hfz69_1 := blk_frozen BK282.out 1; have hcz70_0 : w68.cell? ⟨gb283, 0, none⟩ = some (.int .i64 a1_0) := (blk_cell BK283.out 0).trans rfl; have hcz70_1 : w68.cell? ⟨gb283, 1, none⟩ = some (.int .i64 a1_1) := (blk_cell BK283.out 1).trans rfl; have hfz70_0 := blk_frozen BK283.out 0; have hfz70_1 := blk_frozen BK283.out 1; have hcz71_0 : w68.cell? ⟨gb285, 0, none⟩ = some (.int .i64 a3_0) := (blk_cell BK285.out 0).trans rfl; have hcz71_1 : w68.cell? ⟨gb285, 1, none⟩ = some (.int .i64 a3_1) := (blk_cell BK285.out 1).trans rfl; have hfz71_0 := blk_frozen BK285.out 0; have hfz71_1 := blk_frozen BK285.out 1) | (go_at_call 87; (with_reducible refine (spec_l2On.calls a0_0 a0_1 a1_0 a1_1 a3_0 a3_1 false _ A22.out).mono ?_); rintro e w72 ⟨rfl, hb⟩; have n0_ := Aside0.mk (blk_below (bf BK282.out) hb); have n1_ := Aside0.mk (blk_below (bf BK283.out) hb); have n2_ := Aside0.mk (blk_below (bf BK284.out) hb); have n3_ := Aside0.mk (blk_below (bf BK285.out) hb); have n4_ := Aside0.mk (below_step (lb HB.out) hb); clear BK282; clear BK283; clear BK284; clear BK285; clear HB; have BK282 := n0_; have BK283 := n1_; have BK284 := n2_; have BK285 := n3_; have HB := n4_; clear n0_ n1_ n2_ n3_ n4_; (try clear hb); (try clear hb2); (try clear hk); (try clear hi); have hcz73_0 : w72.cell? ⟨gb284, 0, none⟩ = some (.int .i64 a2_0) := (blk_cell BK284.out 0).trans rfl; have hcz73_1 : w72.cell? ⟨gb284, 1, none⟩ = some (.int .i64 a2_1) := (blk_cell BK284.out 1).trans rfl; have hfz73_0 := blk_frozen BK284.out 0; have hfz73_1 := blk_frozen BK284.out 1; have hcz74_0 : w72.cell? ⟨gb285, 0, none⟩ = some (.int .i64 a3_0) := (blk_cell BK285.out 0).trans rfl; have hcz74_1 : w72.cell? ⟨gb285, 1, none⟩ = some (.int .i64 a3_1) := (blk_cell BK285.out 1).trans rfl; have hfz74_0 := blk_frozen BK285.out 0; have hfz74_1 := blk_frozen BK285.out 1; have hcz75_0 : w72.cell? ⟨gb282, 0, none⟩ = some (.int .i64 a0_0) := (blk_cell BK282.out 0).trans rfl; have hcz75_1 : w72.cell? ⟨gb282, 1, none⟩ = some (.int .i64 a0_1) := (blk_cell BK282.out 1).trans rfl; have hfz75_0 := blk_frozen BK282.out 0; have hfz75_1 := blk_frozen BK282.out 1) | (go_at_call 87; (with_reducible refine (spec_l2On.calls a2_0 a2_1 a3_0 a3_1 a0_0 a0_1 false _ A38.out).mono ?_); rintro e w76 ⟨rfl, hb⟩; have n0_ := Aside0.mk (blk_below (bf BK282.out) hb); have n1_ := Aside0.mk (blk_below (bf BK283.out) hb); have n2_ := Aside0.mk (blk_below (bf BK284.out) hb); have n3_ := Aside0.mk (blk_below (bf BK285.out) hb); have n4_ := Aside0.mk (below_step (lb HB.out) hb); clear BK282; clear BK283; clear BK284; clear BK285; clear HB; have BK282 := n0_; have BK283 := n1_; have BK284 := n2_; have BK285 := n3_; have HB := n4_; clear n0_ n1_ n2_ n3_ n4_; (try clear hb); (try clear hb2); (try clear hk); (try clear hi); have hcz77_0 : w76.cell? ⟨gb284, 0, none⟩ = some (.int .i64 a2_0) := (blk_cell BK284.out 0).trans rfl; have hcz77_1 : w76.cell? ⟨gb284, 1, none⟩ = some (.int .i64 a2_1) := (blk_cell BK284.out 1).trans rfl; have hfz77_0 := blk_frozen BK284.out 0; have hfz77_1 := blk_frozen BK284.out 1; have hcz78_0 : w76.cell? ⟨gb285, 0, none⟩ = some (.int .i64 a3_0) := (blk_cell BK285.out 0).trans rfl; have hcz78_1 : w76.cell? ⟨gb285, 1, none⟩ = some (.int .i64 a3_1) := (blk_cell BK285.out 1).trans rfl; have hfz78_0 := blk_frozen BK285.out 0; have hfz78_1 := blk_frozen BK285.out 1; have hcz79_0 : w76.cell? ⟨gb283, 0, none⟩ = some (.int .i64 a1_0) := (blk_cell BK283.out 0).trans rfl; have hcz79_1 : w76.cell? ⟨gb283, 1, none⟩ = some (.int .i64 a1_1) := (blk_cell BK283.out 1).trans rfl; have hfz79_0 := blk_frozen BK283.out 0; have hfz79_1 := blk_frozen BK283.out 1) | (go_at_call 87; (with_reducible refine (spec_l2On.calls a2_0 a2_1 a3_0 a3_1 a1_0 a1_1 t289 _ A58.out).mono ?_); rintro e w80 ⟨rfl, hb⟩; have n0_ := Aside0.mk (blk_below (bf BK282.out) hb); have n1_ := Aside0.mk (blk_below (bf BK283.out) hb); have n2_ := Aside0.mk (blk_below (bf BK284.out) hb); have n3_ := Aside0.mk (blk_below (bf BK285.out) hb); have n4_ := Aside0.mk (below_step (lb HB.out) hb); clear BK282; clear BK283; clear BK284; clear BK285; clear HB; have BK282 := n0_; have BK283 := n1_; have BK284 := n2_; have BK285 := n3_; have HB := n4_; clear n0_ n1_ n2_ n3_ n4_; (try clear hb); (try clear hb2); (try clear hk); (try clear hi)))
     go_meet
     case rel => exact ⟨_, (t289), (by first | rfl | (simp; done) | (simp [*]; done)), H', ⟨by first | omega | exact Nat.le_refl _⟩, ⟨bu BK282.out⟩, ⟨bu BK283.out⟩, ⟨bu BK284.out⟩, ⟨bu BK285.out⟩, ⟨lb HB.out⟩⟩
 case rest =>
  clear HC5
  try clear c1
  try clear c2
  try clear p2
  try clear c3
  try clear c4
  try clear c5
  try clear c6
  try clear c8
  try clear c11
  try clear c12
  try clear c13
  try clear c14
  try clear c16
  try clear c17
  try clear c19
  try clear c23
  try clear c24
  try clear c25
  try clear c26
  try clear c28
  try clear c29
  try clear c31
  try clear c39
  try clear c40
  try clear c41
  try clear c42
  try clear c44
  try clear c45
  try clear c47
  try clear c59
  try clear c60
  try clear c61
  try clear c62
  try clear c63
  try clear c64
  try clear c66
  try clear hcz15_0
  try clear hcz15_1
  try clear hcz18_0
  try clear hcz18_1
  try clear hcz20_0
  try clear hcz20_1
  try clear hcz27_0
  try clear hcz27_1
  try clear hcz30_0
  try clear hcz30_1
  try clear hcz32_0
  try clear hcz32_1
  try clear hcz34_0
  try clear hcz34_1
  try clear hcz35_0
  try clear hcz35_1
  try clear hcz36_0
  try clear hcz36_1
  try clear hcz43_0
  try clear hcz43_1
  try clear hcz46_0
  try clear hcz46_1
  try clear hcz48_0
  try clear hcz48_1
  try clear hcz50_0
  try clear hcz50_1
  try clear hcz51_0
  try clear hcz51_1
  try clear hcz52_0
  try clear hcz52_1
  try clear hcz54_0
  try clear hcz54_1
  try clear hcz55_0
  try clear hcz55_1
  try clear hcz56_0
  try clear hcz56_1
  try clear hcz62_0
  try clear hcz62_1
  try clear hcz65_0
  try clear hcz65_1
  try clear hcz67_0
  try clear hcz67_1
  try clear hcz69_0
  try clear hcz69_1
  try clear hcz70_0
  try clear hcz70_1
  try clear hcz71_0
  try clear hcz71_1
  try clear hcz73_0
  try clear hcz73_1
  try clear hcz74_0
  try clear hcz74_1
  try clear hcz75_0
  try clear hcz75_1
  try clear hcz77_0
  try clear hcz77_1
  try clear hcz78_0
  try clear hcz78_1
  try clear hcz79_0
  try clear hcz79_1
  try clear hfz15_0
  try clear hfz15_1
  try clear hfz18_0
  try clear hfz18_1
  try clear hfz20_0
  try clear hfz20_1
  try clear hfz27_0
  try clear hfz27_1
  try clear hfz30_0
  try clear hfz30_1
  try clear hfz32_0
  try clear hfz32_1
  try clear hfz34_0
  try clear hfz34_1
  try clear hfz35_0
  try clear hfz35_1
  try clear hfz36_0
  try clear hfz36_1
  try clear hfz43_0
  try clear hfz43_1
  try clear hfz46_0
  try clear hfz46_1
  try clear hfz48_0
  try clear hfz48_1
  try clear hfz50_0
  try clear hfz50_1
  try clear hfz51_0
  try clear hfz51_1
  try clear hfz52_0
  try clear hfz52_1
  try clear hfz54_0
  try clear hfz54_1
  try clear hfz55_0
  try clear hfz55_1
  try clear hfz56_0
  try clear hfz56_1
  try clear hfz62_0
  try clear hfz62_1
  try clear hfz65_0
  try clear hfz65_1
  try clear hfz67_0
  try clear hfz67_1
  try clear hfz69_0
  try clear hfz69_1
  try clear hfz70_0
  try clear hfz70_1
  try clear hfz71_0
  try clear hfz71_1
  try clear hfz73_0
  try clear hfz73_1
  try clear hfz74_0
  try clear hfz74_1
  try clear hfz75_0
  try clear hfz75_1
  try clear hfz77_0
  try clear hfz77_1
  try clear hfz78_0
  try clear hfz78_1
  try clear hfz79_0
  try clear hfz79_1
  obtain ⟨kq, x30_4, rfl, HA, HJ4, BK282, BK283, BK284, BK285, HB⟩ := hcut
  cases kq with
  | zero => exact absurd HA.out (by simp [spec_l31Meet.j0])
  | succ kj4 =>
   have H := HA.out
   clear HA
   simp only [spec_l31Meet.j0] at H
   by_cases c81 : x30_4 = true
   ·subst c81
    have H1 : (some true) = some r := by rw [if_pos rfl] at H; exact H
    clear H
    have H := H1
    clear H1
    obtain rfl := Option.some.inj H
    go_wp2
    go_ret
    exact ⟨er, lb HB.out⟩
   ·replace c81 := Bool.eq_false_iff.mpr c81
    subst c81
    have H1 : ((spec_l31Side.f a0_0 a0_1 a1_0 a1_1 a2_0 a2_1).bind fun t290 => ((spec_l31Side.f a0_0 a0_1 a1_0 a1_1 a3_0 a3_1).bind fun t291 => (if (wrap64 (t290 * t291)) < 0 then ((spec_l31Side.f a2_0 a2_1 a3_0 a3_1 a0_0 a0_1).bind fun t292 => ((spec_l31Side.f a2_0 a2_1 a3_0 a3_1 a1_0 a1_1).bind fun t293 => (some (decide ((wrap64 (t292 * t293)) < 0))))) else (some false)))) = some r := by rw [if_neg (show ¬ (false = true) by decide)] at H; exact H
    clear H
    have H := H1
    clear H1
    replace H := Option.bind_eq_some_iff.mp H
    obtain ⟨t290, A820, H⟩ := H
    replace H : ((spec_l31Side.f a0_0 a0_1 a1_0 a1_1 a3_0 a3_1).bind fun t291 => (if (wrap64 (t290 * t291)) < 0 then ((spec_l31Side.f a2_0 a2_1 a3_0 a3_1 a0_0 a0_1).bind fun t292 => ((spec_l31Side.f a2_0 a2_1 a3_0 a3_1 a1_0 a1_1).bind fun t293 => (some (decide ((wrap64 (t292 * t293)) < 0))))) else (some false))) = some r := H
    have A82 := Aside0.mk A820
    clear A820
    replace H := Option.bind_eq_some_iff.mp H
    obtain ⟨t291, A830, H⟩ := H
    replace H : (if (wrap64 (t290 * t291)) < 0 then ((spec_l31Side.f a2_0 a2_1 a3_0 a3_1 a0_0 a0_1).bind fun t292 => ((spec_l31Side.f a2_0 a2_1 a3_0 a3_1 a1_0 a1_1).bind fun t293 => (some (decide ((wrap64 (t292 * t293)) < 0))))) else (some false)) = some r := H
    have A83 := Aside0.mk A830
    clear A830
    by_cases c84 : (wrap64 (t290 * t291)) < 0
    ·rw [if_pos c84] at H
     have c84b0 : decide ((wrap64 (t290 * t291)) < 0) = true := decide_eq_true c84
     clear c84
     replace H := Option.bind_eq_some_iff.mp H
     obtain ⟨t292, A850, H⟩ := H
     replace H : ((spec_l31Side.f a2_0 a2_1 a3_0 a3_1 a1_0 a1_1).bind fun t293 => (some (decide ((wrap64 (t292 * t293)) < 0)))) = some r := H
     have A85 := Aside0.mk A850
     clear A850
     replace H := Option.bind_eq_some_iff.mp H
     obtain ⟨t293, A860, H⟩ := H
     replace H : (some (decide ((wrap64 (t292 * t293)) < 0))) = some r := H
     have A86 := Aside0.mk A860
     clear A860
     obtain rfl := Option.some.inj H
     try go_wp2
     have n0_ := Aside0.mk (blk_drew BK282.out)
     have n1_ := Aside0.mk (blk_drew BK283.out)
     have n2_ := Aside0.mk (blk_drew BK284.out)
     have n3_ := Aside0.mk (blk_drew BK285.out)
     have n4_ := Aside0.mk (below_drew1 HB.out)
     clear BK282 BK283 BK284 BK285 HB
     have BK282 := n0_
     have BK283 := n1_
     have BK284 := n2_
     have BK285 := n3_
     have HB := n4_
     clear n0_ n1_ n2_ n3_ n4_
     refine start_ (n := 23) (S := fun w' => w'.cell? ⟨gb282, 0, none⟩ = some (.int .i64 a0_0) ∧ w'.cell? ⟨gb282, 1, none⟩ = some (.int .i64 a0_1) ∧ w'.cell? ⟨gb283, 0, none⟩ = some (.int .i64 a1_0) ∧ w'.cell? ⟨gb283, 1, none⟩ = some (.int .i64 a1_1) ∧ w'.cell? ⟨gb284, 0, none⟩ = some (.int .i64 a2_0) ∧ w'.cell? ⟨gb284, 1, none⟩ = some (.int .i64 a2_1) ∧ w'.cell? ⟨gb285, 0, none⟩ = some (.int .i64 a3_0) ∧ w'.cell? ⟨gb285, 1, none⟩ = some (.int .i64 a3_1)) (ds := []) #[false,false,false,false,false,false,false,false,false,false,false,false,false,false,false,false,false,false,false,false,false,false,false] (by kernel_rfl) rfl rfl ⟨(blk_cell BK282.out 0).trans rfl, (blk_cell BK282.out 1).trans rfl, (blk_cell BK283.out 0).trans rfl, (blk_cell BK283.out 1).trans rfl, (blk_cell BK284.out 0).trans rfl, (blk_cell BK284.out 1).trans rfl, (blk_cell BK285.out 0).trans rfl, (blk_cell BK285.out 1).trans rfl⟩ (fun hHeld => ?_); refine with_tabW spec_l31Meet.tab3 spec_l31Meet.bits3 (fun HT_ HW_ => ?_)
     generalize wc.drew = w87 at BK282 BK283 BK284 BK285 HB hHeld ⊢
     refine tq_ 0 (some 31) ?_
     refine tq_ 1 (some 32) ?_
     refine tq_ 2 (some 33) ?_
     refine tq_ 4 (some 35) ?_
     refine tq_ 5 (some 36) ?_
     refine tq_ 6 (some 37) ?_
     refine one_ (i := 3) (N := some 34) #[true,true,true,true,true,true,true,false,false,false,false,false,false,false,false,false,false,false,false,false,false,false,false] rfl rfl (one_of HT_.out (by kernel_rfl)) (by decide) (fun K hK => ?_)
     refine goes_ Try.func55 (by kernel_rfl) rfl #[.agg #[.int .i64 a0_0, .int .i64 a0_1], .agg #[.int .i64 a1_0, .int .i64 a1_1], .agg #[.int .i64 a2_0, .int .i64 a2_1]] (by rfl) rfl rfl al ?_
     with_reducible refine (spec_l31Side.calls a0_0 a0_1 a1_0 a1_1 a2_0 a2_1 t290 _ A82.out).mono ?_
     rintro e w88 ⟨rfl, hb⟩
     refine ⟨_, rfl, ?_⟩
     have n0_ := Aside0.mk (blk_below (bf BK282.out) hb)
     have n1_ := Aside0.mk (blk_below (bf BK283.out) hb)
     have n2_ := Aside0.mk (blk_below (bf BK284.out) hb)
     have n3_ := Aside0.mk (blk_below (bf BK285.out) hb)
     have n4_ := Aside0.mk (below_step (lb HB.out) hb)
     clear BK282 BK283 BK284 BK285 HB
     have BK282 := n0_
     have BK283 := n1_
     have BK284 := n2_
     have BK285 := n3_
     have HB := n4_
     clear n0_ n1_ n2_ n3_ n4_
     (try clear hb);(try clear hb2);(try clear hk);(try clear hi)
     refine hK.out _ _ ⟨(blk_cell BK282.out 0).trans rfl, (blk_cell BK282.out 1).trans rfl, (blk_cell BK283.out 0).trans rfl, (blk_cell BK283.out 1).trans rfl, (blk_cell BK284.out 0).trans rfl, (blk_cell BK284.out 1).trans rfl, (blk_cell BK285.out 0).trans rfl, (blk_cell BK285.out 1).trans rfl⟩ (fun hHeld => ?_)
     clear hK K
     refine norm_ (a' := ?_) ?_ ?_
     rotate_left
     ·show Act.put _ (some 34) _ = _
      simp only [Act.put, List.setIfInBounds_toArray, List.set_cons_zero, List.set_cons_succ, i64_w, i32_w]
      rfl
     refine one_ (i := 7) (N := some 38) #[true,true,true,true,true,true,true,true,false,false,false,false,false,false,false,false,false,false,false,false,false,false,false] rfl rfl (one_of HT_.out (by kernel_rfl)) (by decide) (fun K hK => ?_)
     refine goes_ Try.func55 (by kernel_rfl) rfl #[.agg #[.int .i64 a0_0, .int .i64 a0_1], .agg #[.int .i64 a1_0, .int .i64 a1_1], .agg #[.int .i64 a3_0, .int .i64 a3_1]] (by rfl) rfl rfl al ?_
     with_reducible refine (spec_l31Side.calls a0_0 a0_1 a1_0 a1_1 a3_0 a3_1 t291 _ A83.out).mono ?_
     rintro e w89 ⟨rfl, hb⟩
     refine ⟨_, rfl, ?_⟩
     have n0_ := Aside0.mk (blk_below (bf BK282.out) hb)
     have n1_ := Aside0.mk (blk_below (bf BK283.out) hb)
     have n2_ := Aside0.mk (blk_below (bf BK284.out) hb)
     have n3_ := Aside0.mk (blk_below (bf BK285.out) hb)
     have n4_ := Aside0.mk (below_step (lb HB.out) hb)
     clear BK282 BK283 BK284 BK285 HB
     have BK282 := n0_
     have BK283 := n1_
     have BK284 := n2_
     have BK285 := n3_
     have HB := n4_
     clear n0_ n1_ n2_ n3_ n4_
     (try clear hb);(try clear hb2);(try clear hk);(try clear hi)
     refine hK.out _ _ ⟨(blk_cell BK282.out 0).trans rfl, (blk_cell BK282.out 1).trans rfl, (blk_cell BK283.out 0).trans rfl, (blk_cell BK283.out 1).trans rfl, (blk_cell BK284.out 0).trans rfl, (blk_cell BK284.out 1).trans rfl, (blk_cell BK285.out 0).trans rfl, (blk_cell BK285.out 1).trans rfl⟩ (fun hHeld => ?_)
     clear hK K
     refine norm_ (a' := ?_) ?_ ?_
     rotate_left
     ·show Act.put _ (some 38) _ = _
      simp only [Act.put, List.setIfInBounds_toArray, List.set_cons_zero, List.set_cons_succ, i64_w, i32_w]
      rfl
     refine pq_ 8 (some 39) ?_
     refine pq_ 9 (some 40) ?_
     refine pq_ 10 (some 41) ?_
     refine tq_ 11 (some 42) ?_
     refine tq_ 12 (some 43) ?_
     refine tq_ 13 (some 44) ?_
     refine tq_ 15 (some 46) ?_
     refine tq_ 16 (some 47) ?_
     refine tq_ 17 (some 48) ?_
     refine one_ (i := 14) (N := some 45) #[true,true,true,true,true,true,true,true,true,true,true,true,true,true,true,true,true,true,false,false,false,false,false] rfl rfl (one_of HT_.out (by kernel_rfl)) (by decide) (fun K hK => ?_)
     refine goes_ Try.func55 (by kernel_rfl) rfl #[.agg #[.int .i64 a2_0, .int .i64 a2_1], .agg #[.int .i64 a3_0, .int .i64 a3_1], .agg #[.int .i64 a0_0, .int .i64 a0_1]] (by rfl) rfl rfl al ?_
     with_reducible refine (spec_l31Side.calls a2_0 a2_1 a3_0 a3_1 a0_0 a0_1 t292 _ A85.out).mono ?_
     rintro e w90 ⟨rfl, hb⟩
     refine ⟨_, rfl, ?_⟩
     have n0_ := Aside0.mk (blk_below (bf BK282.out) hb)
     have n1_ := Aside0.mk (blk_below (bf BK283.out) hb)
     have n2_ := Aside0.mk (blk_below (bf BK284.out) hb)
     have n3_ := Aside0.mk (blk_below (bf BK285.out) hb)
     have n4_ := Aside0.mk (below_step (lb HB.out) hb)
     clear BK282 BK283 BK284 BK285 HB
     have BK282 := n0_
     have BK283 := n1_
     have BK284 := n2_
     have BK285 := n3_
     have HB := n4_
     clear n0_ n1_ n2_ n3_ n4_
     (try clear hb);(try clear hb2);(try clear hk);(try clear hi)
     refine hK.out _ _ ⟨(blk_cell BK282.out 0).trans rfl, (blk_cell BK282.out 1).trans rfl, (blk_cell BK283.out 0).trans rfl, (blk_cell BK283.out 1).trans rfl, (blk_cell BK284.out 0).trans rfl, (blk_cell BK284.out 1).trans rfl, (blk_cell BK285.out 0).trans rfl, (blk_cell BK285.out 1).trans rfl⟩ (fun hHeld => ?_)
     clear hK K
     refine norm_ (a' := ?_) ?_ ?_
     rotate_left
     ·show Act.put _ (some 45) _ = _
      simp only [Act.put, List.setIfInBounds_toArray, List.set_cons_zero, List.set_cons_succ, i64_w, i32_w]
      rfl
     refine one_ (i := 18) (N := some 49) #[true,true,true,true,true,true,true,true,true,true,true,true,true,true,true,true,true,true,true,false,false,false,false] rfl rfl (one_of HT_.out (by kernel_rfl)) (by decide) (fun K hK => ?_)
     refine goes_ Try.func55 (by kernel_rfl) rfl #[.agg #[.int .i64 a2_0, .int .i64 a2_1], .agg #[.int .i64 a3_0, .int .i64 a3_1], .agg #[.int .i64 a1_0, .int .i64 a1_1]] (by rfl) rfl rfl al ?_
     with_reducible refine (spec_l31Side.calls a2_0 a2_1 a3_0 a3_1 a1_0 a1_1 t293 _ A86.out).mono ?_
     rintro e w91 ⟨rfl, hb⟩
     refine ⟨_, rfl, ?_⟩
     have n0_ := Aside0.mk (blk_below (bf BK282.out) hb)
     have n1_ := Aside0.mk (blk_below (bf BK283.out) hb)
     have n2_ := Aside0.mk (blk_below (bf BK284.out) hb)
     have n3_ := Aside0.mk (blk_below (bf BK285.out) hb)
     have n4_ := Aside0.mk (below_step (lb HB.out) hb)
     clear BK282 BK283 BK284 BK285 HB
     have BK282 := n0_
     have BK283 := n1_
     have BK284 := n2_
     have BK285 := n3_
     have HB := n4_
     clear n0_ n1_ n2_ n3_ n4_
     (try clear hb);(try clear hb2);(try clear hk);(try clear hi)
     refine hK.out _ _ ⟨(blk_cell BK282.out 0).trans rfl, (blk_cell BK282.out 1).trans rfl, (blk_cell BK283.out 0).trans rfl, (blk_cell BK283.out 1).trans rfl, (blk_cell BK284.out 0).trans rfl, (blk_cell BK284.out 1).trans rfl, (blk_cell BK285.out 0).trans rfl, (blk_cell BK285.out 1).trans rfl⟩ (fun hHeld => ?_)
     clear hK K
     refine norm_ (a' := ?_) ?_ ?_
     rotate_left
     ·show Act.put _ (some 49) _ = _
      simp only [Act.put, List.setIfInBounds_toArray, List.set_cons_zero, List.set_cons_succ, i64_w, i32_w]
      rfl
     refine pq_ 19 (some 50) ?_
     refine pq_ 20 (some 51) ?_
     refine pq_ 21 (some 52) ?_
     refine pq_ 22 (some 8) ?_
     refine done_ (done_of HT_.out (by kernel_rfl)) ?_
     try go_wp2
     go_ret
     exact ⟨er, lb HB.out⟩
    ·rw [if_neg c84] at H
     have c84b0 : decide ((wrap64 (t290 * t291)) < 0) = false := decide_eq_false c84
     clear c84
     obtain rfl := Option.some.inj H
     try go_wp2
     have n0_ := Aside0.mk (blk_drew BK282.out)
     have n1_ := Aside0.mk (blk_drew BK283.out)
     have n2_ := Aside0.mk (blk_drew BK284.out)
     have n3_ := Aside0.mk (blk_drew BK285.out)
     have n4_ := Aside0.mk (below_drew1 HB.out)
     clear BK282 BK283 BK284 BK285 HB
     have BK282 := n0_
     have BK283 := n1_
     have BK284 := n2_
     have BK285 := n3_
     have HB := n4_
     clear n0_ n1_ n2_ n3_ n4_
     refine start_ (n := 23) (S := fun w' => w'.cell? ⟨gb282, 0, none⟩ = some (.int .i64 a0_0) ∧ w'.cell? ⟨gb282, 1, none⟩ = some (.int .i64 a0_1) ∧ w'.cell? ⟨gb283, 0, none⟩ = some (.int .i64 a1_0) ∧ w'.cell? ⟨gb283, 1, none⟩ = some (.int .i64 a1_1) ∧ w'.cell? ⟨gb284, 0, none⟩ = some (.int .i64 a2_0) ∧ w'.cell? ⟨gb284, 1, none⟩ = some (.int .i64 a2_1) ∧ w'.cell? ⟨gb285, 0, none⟩ = some (.int .i64 a3_0) ∧ w'.cell? ⟨gb285, 1, none⟩ = some (.int .i64 a3_1)) (ds := []) #[false,false,false,false,false,false,false,false,false,false,false,false,false,false,false,false,false,false,false,false,false,false,false] (by kernel_rfl) rfl rfl ⟨(blk_cell BK282.out 0).trans rfl, (blk_cell BK282.out 1).trans rfl, (blk_cell BK283.out 0).trans rfl, (blk_cell BK283.out 1).trans rfl, (blk_cell BK284.out 0).trans rfl, (blk_cell BK284.out 1).trans rfl, (blk_cell BK285.out 0).trans rfl, (blk_cell BK285.out 1).trans rfl⟩ (fun hHeld => ?_); refine with_tabW spec_l31Meet.tab3 spec_l31Meet.bits3 (fun HT_ HW_ => ?_)
     generalize wc.drew = w92 at BK282 BK283 BK284 BK285 HB hHeld ⊢
     refine tq_ 0 (some 31) ?_
     refine tq_ 1 (some 32) ?_
     refine tq_ 2 (some 33) ?_
     refine tq_ 4 (some 35) ?_
     refine tq_ 5 (some 36) ?_
     refine tq_ 6 (some 37) ?_
     refine one_ (i := 3) (N := some 34) #[true,true,true,true,true,true,true,false,false,false,false,false,false,false,false,false,false,false,false,false,false,false,false] rfl rfl (one_of HT_.out (by kernel_rfl)) (by decide) (fun K hK => ?_)
     refine goes_ Try.func55 (by kernel_rfl) rfl #[.agg #[.int .i64 a0_0, .int .i64 a0_1], .agg #[.int .i64 a1_0, .int .i64 a1_1], .agg #[.int .i64 a2_0, .int .i64 a2_1]] (by rfl) rfl rfl al ?_
     with_reducible refine (spec_l31Side.calls a0_0 a0_1 a1_0 a1_1 a2_0 a2_1 t290 _ A82.out).mono ?_
     rintro e w93 ⟨rfl, hb⟩
     refine ⟨_, rfl, ?_⟩
     have n0_ := Aside0.mk (blk_below (bf BK282.out) hb)
     have n1_ := Aside0.mk (blk_below (bf BK283.out) hb)
     have n2_ := Aside0.mk (blk_below (bf BK284.out) hb)
     have n3_ := Aside0.mk (blk_below (bf BK285.out) hb)
     have n4_ := Aside0.mk (below_step (lb HB.out) hb)
     clear BK282 BK283 BK284 BK285 HB
     have BK282 := n0_
     have BK283 := n1_
     have BK284 := n2_
     have BK285 := n3_
     have HB := n4_
     clear n0_ n1_ n2_ n3_ n4_
     (try clear hb);(try clear hb2);(try clear hk);(try clear hi)
     refine hK.out _ _ ⟨(blk_cell BK282.out 0).trans rfl, (blk_cell BK282.out 1).trans rfl, (blk_cell BK283.out 0).trans rfl, (blk_cell BK283.out 1).trans rfl, (blk_cell BK284.out 0).trans rfl, (blk_cell BK284.out 1).trans rfl, (blk_cell BK285.out 0).trans rfl, (blk_cell BK285.out 1).trans rfl⟩ (fun hHeld => ?_)
     clear hK K
     refine norm_ (a' := ?_) ?_ ?_
     rotate_left
     ·show Act.put _ (some 34) _ = _
      simp only [Act.put, List.setIfInBounds_toArray, List.set_cons_zero, List.set_cons_succ, i64_w, i32_w]
      rfl
     refine one_ (i := 7) (N := some 38) #[true,true,true,true,true,true,true,true,false,false,false,false,false,false,false,false,false,false,false,false,false,false,false] rfl rfl (one_of HT_.out (by kernel_rfl)) (by decide) (fun K hK => ?_)
     refine goes_ Try.func55 (by kernel_rfl) rfl #[.agg #[.int .i64 a0_0, .int .i64 a0_1], .agg #[.int .i64 a1_0, .int .i64 a1_1], .agg #[.int .i64 a3_0, .int .i64 a3_1]] (by rfl) rfl rfl al ?_
     with_reducible refine (spec_l31Side.calls a0_0 a0_1 a1_0 a1_1 a3_0 a3_1 t291 _ A83.out).mono ?_
     rintro e w94 ⟨rfl, hb⟩
     refine ⟨_, rfl, ?_⟩
     have n0_ := Aside0.mk (blk_below (bf BK282.out) hb)
     have n1_ := Aside0.mk (blk_below (bf BK283.out) hb)
     have n2_ := Aside0.mk (blk_below (bf BK284.out) hb)
     have n3_ := Aside0.mk (blk_below (bf BK285.out) hb)
     have n4_ := Aside0.mk (below_step (lb HB.out) hb)
     clear BK282 BK283 BK284 BK285 HB
     have BK282 := n0_
     have BK283 := n1_
     have BK284 := n2_
     have BK285 := n3_
     have HB := n4_
     clear n0_ n1_ n2_ n3_ n4_
     (try clear hb);(try clear hb2);(try clear hk);(try clear hi)
     refine hK.out _ _ ⟨(blk_cell BK282.out 0).trans rfl, (blk_cell BK282.out 1).trans rfl, (blk_cell BK283.out 0).trans rfl, (blk_cell BK283.out 1).trans rfl, (blk_cell BK284.out 0).trans rfl, (blk_cell BK284.out 1).trans rfl, (blk_cell BK285.out 0).trans rfl, (blk_cell BK285.out 1).trans rfl⟩ (fun hHeld => ?_)
     clear hK K
     refine norm_ (a' := ?_) ?_ ?_
     rotate_left
     ·show Act.put _ (some 38) _ = _
      simp only [Act.put, List.setIfInBounds_toArray, List.set_cons_zero, List.set_cons_succ, i64_w, i32_w]
      rfl
     refine pq_ 8 (some 39) ?_
     refine pq_ 9 (some 40) ?_
     refine pq_ 10 (some 41) ?_
     refine pure_ (i := 11) (N := some 42) (v := undef) (a' := ?_) #[true,true,true,true,true,true,true,true,true,true,true,true,false,false,false,false,false,false,false,false,false,false,false] rfl rfl (any_of HT_.out (by kernel_rfl)) (fun _ _ _ h => h) (Or.inr ⟨by rfl, rfl⟩) ?_ ?_
     rotate_left
     ·simp only [Act.put, List.setIfInBounds_toArray, List.set_cons_zero, List.set_cons_succ, i64_w, i32_w]
      rfl
     refine pure_ (i := 12) (N := some 43) (v := undef) (a' := ?_) #[true,true,true,true,true,true,true,true,true,true,true,true,true,false,false,false,false,false,false,false,false,false,false] rfl rfl (any_of HT_.out (by kernel_rfl)) (fun _ _ _ h => h) (Or.inr ⟨by rfl, rfl⟩) ?_ ?_
     rotate_left
     ·simp only [Act.put, List.setIfInBounds_toArray, List.set_cons_zero, List.set_cons_succ, i64_w, i32_w]
      rfl
     refine pure_ (i := 13) (N := some 44) (v := undef) (a' := ?_) #[true,true,true,true,true,true,true,true,true,true,true,true,true,true,false,false,false,false,false,false,false,false,false] rfl rfl (any_of HT_.out (by kernel_rfl)) (fun _ _ _ h => h) (Or.inr ⟨by rfl, rfl⟩) ?_ ?_
     rotate_left
     ·simp only [Act.put, List.setIfInBounds_toArray, List.set_cons_zero, List.set_cons_succ, i64_w, i32_w]
      rfl
     refine pure_ (i := 14) (N := some 45) (v := undef) (a' := ?_) #[true,true,true,true,true,true,true,true,true,true,true,true,true,true,true,false,false,false,false,false,false,false,false] rfl rfl (any_of HT_.out (by kernel_rfl)) (fun _ _ _ h => h) (Or.inr ⟨by rfl, rfl⟩) ?_ ?_
     rotate_left
     ·simp only [Act.put, List.setIfInBounds_toArray, List.set_cons_zero, List.set_cons_succ, i64_w, i32_w]
      rfl
     refine pure_ (i := 15) (N := some 46) (v := undef) (a' := ?_) #[true,true,true,true,true,true,true,true,true,true,true,true,true,true,true,true,false,false,false,false,false,false,false] rfl rfl (any_of HT_.out (by kernel_rfl)) (fun _ _ _ h => h) (Or.inr ⟨by rfl, rfl⟩) ?_ ?_
     rotate_left
     ·simp only [Act.put, List.setIfInBounds_toArray, List.set_cons_zero, List.set_cons_succ, i64_w, i32_w]
      rfl
     refine pure_ (i := 16) (N := some 47) (v := undef) (a' := ?_) #[true,true,true,true,true,true,true,true,true,true,true,true,true,true,true,true,true,false,false,false,false,false,false] rfl rfl (any_of HT_.out (by kernel_rfl)) (fun _ _ _ h => h) (Or.inr ⟨by rfl, rfl⟩) ?_ ?_
     rotate_left
     ·simp only [Act.put, List.setIfInBounds_toArray, List.set_cons_zero, List.set_cons_succ, i64_w, i32_w]
      rfl
     refine pure_ (i := 17) (N := some 48) (v := undef) (a' := ?_) #[true,true,true,true,true,true,true,true,true,true,true,true,true,true,true,true,true,true,false,false,false,false,false] rfl rfl (any_of HT_.out (by kernel_rfl)) (fun _ _ _ h => h) (Or.inr ⟨by rfl, rfl⟩) ?_ ?_
     rotate_left
     ·simp only [Act.put, List.setIfInBounds_toArray, List.set_cons_zero, List.set_cons_succ, i64_w, i32_w]
      rfl
     refine pure_ (i := 18) (N := some 49) (v := undef) (a' := ?_) #[true,true,true,true,true,true,true,true,true,true,true,true,true,true,true,true,true,true,true,false,false,false,false] rfl rfl (any_of HT_.out (by kernel_rfl)) (fun _ _ _ h => h) (Or.inr ⟨by rfl, rfl⟩) ?_ ?_
     rotate_left
     ·simp only [Act.put, List.setIfInBounds_toArray, List.set_cons_zero, List.set_cons_succ, i64_w, i32_w]
      rfl
     refine pure_ (i := 19) (N := some 50) (v := undef) (a' := ?_) #[true,true,true,true,true,true,true,true,true,true,true,true,true,true,true,true,true,true,true,true,false,false,false] rfl rfl (any_of HT_.out (by kernel_rfl)) (fun _ _ _ h => h) (Or.inr ⟨by rfl, rfl⟩) ?_ ?_
     rotate_left
     ·simp only [Act.put, List.setIfInBounds_toArray, List.set_cons_zero, List.set_cons_succ, i64_w, i32_w]
      rfl
     refine pure_ (i := 20) (N := some 51) (v := undef) (a' := ?_) #[true,true,true,true,true,true,true,true,true,true,true,true,true,true,true,true,true,true,true,true,true,false,false] rfl rfl (any_of HT_.out (by kernel_rfl)) (fun _ _ _ h => h) (Or.inr ⟨by rfl, rfl⟩) ?_ ?_
     rotate_left
     ·simp only [Act.put, List.setIfInBounds_toArray, List.set_cons_zero, List.set_cons_succ, i64_w, i32_w]
      rfl
     refine pq_ 21 (some 52) ?_
     refine pq_ 22 (some 8) ?_
     refine done_ (done_of HT_.out (by kernel_rfl)) ?_
     try go_wp2
     go_ret
     exact ⟨er, lb HB.out⟩
mutual
def spec_PolyValid.l0 : Nat → List (S33) → Int → Int → Option (Bool)
 | 0, _, _, _ => none
 | k + 1, x0, x3, x4 => if x4 < x3 then (spec_PolyValid.l1 k x0 x3 x4 (wrap64 (x4 + 1))) else (some true)
def spec_PolyValid.l1 : Nat → List (S33) → Int → Int → Int → Option (Bool)
 | 0, _, _, _, _ => none
 | k + 1, x0, x3, x4, x5 => if x5 < x3 then (if 0 ≤ x4 then (if x4 < (x0.length : Int) then (if x3 = 0 then (none) else (if 0 ≤ (Int.tmod (wrap64 (x4 + 1)) x3) then (if (Int.tmod (wrap64 (x4 + 1)) x3) < (x0.length : Int) then (if 0 ≤ x5 then (if x5 < (x0.length : Int) then (if 0 ≤ (Int.tmod (wrap64 (x5 + 1)) x3) then (if (Int.tmod (wrap64 (x5 + 1)) x3) < (x0.length : Int) then (if x5 = (wrap64 (x4 + 1)) then (if (((rd_T33 x0 x5).f0) == ((rd_T33 x0 x4).f0) && (((rd_T33 x0 x5).f1) == ((rd_T33 x0 x4).f1))) = true then (some false) else (if (((rd_T33 x0 (Int.tmod (wrap64 (x5 + 1)) x3)).f0) == ((rd_T33 x0 x5).f0) && (((rd_T33 x0 (Int.tmod (wrap64 (x5 + 1)) x3)).f1) == ((rd_T33 x0 x5).f1))) = true then (some false) else ((spec_l2On.f ((rd_T33 x0 x4).f0) ((rd_T33 x0 x4).f1) ((rd_T33 x0 (Int.tmod (wrap64 (x4 + 1)) x3)).f0) ((rd_T33 x0 (Int.tmod (wrap64 (x4 + 1)) x3)).f1) ((rd_T33 x0 (Int.tmod (wrap64 (x5 + 1)) x3)).f0) ((rd_T33 x0 (Int.tmod (wrap64 (x5 + 1)) x3)).f1)).bind fun t303 => (if t303 = true then (some false) else ((spec_l2On.f ((rd_T33 x0 x5).f0) ((rd_T33 x0 x5).f1) ((rd_T33 x0 (Int.tmod (wrap64 (x5 + 1)) x3)).f0) ((rd_T33 x0 (Int.tmod (wrap64 (x5 + 1)) x3)).f1) ((rd_T33 x0 x4).f0) ((rd_T33 x0 x4).f1)).bind fun t304 => (if t304 = true then (some false) else (spec_PolyValid.l1 k x0 x3 x4 (wrap64 (x5 + 1))))))))) else (if (Int.tmod (wrap64 (x5 + 1)) x3) = x4 then ((spec_l2On.f ((rd_T33 x0 x5).f0) ((rd_T33 x0 x5).f1) ((rd_T33 x0 (Int.tmod (wrap64 (x5 + 1)) x3)).f0) ((rd_T33 x0 (Int.tmod (wrap64 (x5 + 1)) x3)).f1) ((rd_T33 x0 (Int.tmod (wrap64 (x4 + 1)) x3)).f0) ((rd_T33 x0 (Int.tmod (wrap64 (x4 + 1)) x3)).f1)).bind fun t305 => (if t305 = true then (some false) else ((spec_l2On.f ((rd_T33 x0 x4).f0) ((rd_T33 x0 x4).f1) ((rd_T33 x0 (Int.tmod (wrap64 (x4 + 1)) x3)).f0) ((rd_T33 x0 (Int.tmod (wrap64 (x4 + 1)) x3)).f1) ((rd_T33 x0 x5).f0) ((rd_T33 x0 x5).f1)).bind fun t306 => (if t306 = true then (some false) else (spec_PolyValid.l1 k x0 x3 x4 (wrap64 (x5 + 1))))))) else ((spec_l31Meet.f k ((rd_T33 x0 x4).f0) ((rd_T33 x0 x4).f1) ((rd_T33 x0 (Int.tmod (wrap64 (x4 + 1)) x3)).f0) ((rd_T33 x0 (Int.tmod (wrap64 (x4 + 1)) x3)).f1) ((rd_T33 x0 x5).f0) ((rd_T33 x0 x5).f1) ((rd_T33 x0 (Int.tmod (wrap64 (x5 + 1)) x3)).f0) ((rd_T33 x0 (Int.tmod (wrap64 (x5 + 1)) x3)).f1)).bind fun t307 => (if t307 = true then (some false) else (spec_PolyValid.l1 k x0 x3 x4 (wrap64 (x5 + 1))))))) else (none)) else (none)) else (none)) else (none)) else (none)) else (none))) else (none)) else (none)) else (spec_PolyValid.l0 k x0 x3 (wrap64 (x4 + 1)))
end
def spec_PolyValid.f (k : Nat) (l0 : List (S33)) : Option (Bool) := (spec_l31Points.f k l0).bind fun t294 => (if t294 = true then (spec_PolyValid.l0 k l0 (l0.length : Int) 0) else (some false))
theorem spec_PolyValid.mono_l : ∀ k, (∀ y0 y1 y2, LeO (spec_PolyValid.l0 k y0 y1 y2) (spec_PolyValid.l0 (k + 1) y0 y1 y2)) ∧ (∀ y0 y1 y2 y3, LeO (spec_PolyValid.l1 k y0 y1 y2 y3) (spec_PolyValid.l1 (k + 1) y0 y1 y2 y3))
 | 0 => ⟨fun _ _ _ r h => by simp [spec_PolyValid.l0] at h, fun _ _ _ _ r h => by simp [spec_PolyValid.l1] at h⟩
 | k + 1 => by
  obtain ⟨ih0, ih1⟩ := spec_PolyValid.mono_l k
  refine ⟨?_, ?_⟩
  ·intro y0 y1 y2
   unfold spec_PolyValid.l0
   repeat' first
   | (with_reducible exact ih0 _ _ _)
   | (with_reducible exact ih1 _ _ _ _)
   | (with_reducible exact spec_l31Meet.mono _ _ _ _ _ _ _ _ _)
   | (with_reducible exact spec_l31Points.mono _ _)
   | (with_reducible exact LeO.refl _)
   | (with_reducible exact LeO.none _)
   | (with_reducible refine LeO.ite ?_ ?_)
   | (with_reducible refine LeO.bind ?_ (fun _ => ?_))
   | exact ih0 _ _ _
   | exact ih1 _ _ _ _
   | exact spec_l31Meet.mono _ _ _ _ _ _ _ _ _
   | exact spec_l31Points.mono _ _
   | exact LeO.none _
   | refine LeO.ite ?_ ?_
   | refine LeO.bind ?_ (fun _ => ?_)
  ·intro y0 y1 y2 y3
   unfold spec_PolyValid.l1
   repeat' first
   | (with_reducible exact ih0 _ _ _)
   | (with_reducible exact ih1 _ _ _ _)
   | (with_reducible exact spec_l31Meet.mono _ _ _ _ _ _ _ _ _)
   | (with_reducible exact spec_l31Points.mono _ _)
   | (with_reducible exact LeO.refl _)
   | (with_reducible exact LeO.none _)
   | (with_reducible refine LeO.ite ?_ ?_)
   | (with_reducible refine LeO.bind ?_ (fun _ => ?_))
   | exact ih0 _ _ _
   | exact ih1 _ _ _ _
   | exact spec_l31Meet.mono _ _ _ _ _ _ _ _ _
   | exact spec_l31Points.mono _ _
   | exact LeO.none _
   | refine LeO.ite ?_ ?_
   | refine LeO.bind ?_ (fun _ => ?_)
theorem spec_PolyValid.mono : ∀ a0 k, LeO (spec_PolyValid.f k a0) (spec_PolyValid.f (k + 1) a0) := by
 intro a0 k
 obtain ⟨ih0, ih1⟩ := spec_PolyValid.mono_l k
 unfold spec_PolyValid.f
 repeat' first
   | (with_reducible exact ih0 _ _ _)
   | (with_reducible exact ih1 _ _ _ _)
   | (with_reducible exact spec_l31Meet.mono _ _ _ _ _ _ _ _ _)
   | (with_reducible exact spec_l31Points.mono _ _)
   | (with_reducible exact LeO.refl _)
   | (with_reducible exact LeO.none _)
   | (with_reducible refine LeO.ite ?_ ?_)
   | (with_reducible refine LeO.bind ?_ (fun _ => ?_))
   | exact ih0 _ _ _
   | exact ih1 _ _ _ _
   | exact spec_l31Meet.mono _ _ _ _ _ _ _ _ _
   | exact spec_l31Points.mono _ _
   | exact LeO.none _
   | refine LeO.ite ?_ ?_
   | refine LeO.bind ?_ (fun _ => ?_)
set_option maxHeartbeats 8000000 in
set_option maxRecDepth 100000 in
theorem spec_PolyValid.calls (k : Nat) (A0 : Option Addr) (c0 : Nat) (l0 : List (S33)) (r : Bool) (w : World) (hr0 : Kd.C k33 w A0 l0.length l0) (hc0 : l0.length ≤ c0) (h : spec_PolyValid.f k l0 = some r) :
  Calls Try.prog 66 #[.slice A0 l0.length c0] w fun e w' => e = .returned (.bool r) ∧ Below w.heap.size w w' := by
 have hu33 := Try.underlying33
 have HR0 := Aside0.mk hr0
 have HC0 := Aside0.mk hc0
 clear hr0 hc0
 have HB := Aside0.mk (Below.refl w.heap.size w)
 have H : ((spec_l31Points.f k l0).bind fun t294 => (if t294 = true then (spec_PolyValid.l0 k l0 (l0.length : Int) 0) else (some false))) = some r := h
 clear h
 replace H := Option.bind_eq_some_iff.mp H
 obtain ⟨t294, A20, H⟩ := H
 replace H : (if t294 = true then (spec_PolyValid.l0 k l0 (l0.length : Int) 0) else (some false)) = some r := H
 have A2 := Aside0.mk A20
 clear A20
 by_cases c3 : t294 = true
 ·subst c3
  have H1 : (spec_PolyValid.l0 k l0 (l0.length : Int) 0) = some r := by rw [if_pos rfl] at H; exact H
  clear H
  have H := H1
  clear H1
  have H' := Aside0.mk H
  clear H
  go_enter Try.func66, Try.ntmps66
  go_wp2_with (first | ((with_reducible refine gate_callee (f := 88) rfl ?_); refine goesL_ (some 11) rfl rfl Try.func88 (by kernel_rfl) rfl #[.slice A0 l0.length c0] rfl al ?_; (with_reducible refine (spec_l31Points.calls k _ _ l0 true _ ?side1 ?side2 A2.out).mono ?_); (case side1 => repeat (first | exact HR0.out | (with_reducible refine Kd.C_alloc ?_ _) | (with_reducible refine Kd.C_drewN ?_ _) | (with_reducible refine Kd.C_drew ?_))); (case side2 => exact HC0.out); rintro e w4 ⟨rfl, hb⟩; refine ⟨_, rfl, ?_⟩; have n0_ := Aside0.mk (below_step (lb HB.out) hb); clear HB; have HB := n0_; clear n0_; (try clear hb); (try clear hb2); (try clear hk); (try clear hi)))
  go_loopg [4] k (fun kq v4 w' => ∃ (x4_1 : Int), v4 = .int .i64 x4_1 ∧ Aside0 (spec_PolyValid.l0 kq l0 (l0.length : Int) x4_1 = some r) ∧ Aside0 (kq ≤ k) ∧ Aside0 (Below w.heap.size w w'))
  case atStart => exact ⟨(0), (by first | rfl | (simp; done) | (simp [*]; done)), H', ⟨Nat.le_refl _⟩, ⟨lb HB.out⟩⟩
  case round =>
   clear H'
   try clear p2
   try clear c3
   obtain ⟨x4_1, rfl, HA, HK1, HB⟩ := hrel
   cases gk with
   | zero => exact absurd HA.out (by simp [spec_PolyValid.l0])
   | succ k1 =>
    have H := HA.out
    clear HA
    simp only [spec_PolyValid.l0] at H
    by_cases c5 : x4_1 < (l0.length : Int)
    ·rw [if_pos c5] at H
     have c5b0 : decide (x4_1 < (l0.length : Int)) = true := decide_eq_true c5
     clear c5
     have H' := Aside0.mk H
     clear H
     go_wp2
     go_loopg [5] k1 (fun kq v5 w' => ∃ (x5_2 : Int), v5 = .int .i64 x5_2 ∧ Aside0 (spec_PolyValid.l1 kq l0 (l0.length : Int) x4_1 x5_2 = some r) ∧ Aside0 (kq ≤ k1) ∧ Aside0 (Below w.heap.size w w'))
     case atStart => exact ⟨(wrap64 (x4_1 + 1)), (by first | rfl | (simp; done) | (simp [*]; done)), H', ⟨Nat.le_refl _⟩, ⟨lb HB.out⟩⟩
     case round =>
      clear H'
      try clear p2
      try clear c3
      try clear c5
      try clear c5b0
      try clear p2
      obtain ⟨x5_2, rfl, HA, HK2, HB⟩ := hrel
      cases gk with
      | zero => exact absurd HA.out (by simp [spec_PolyValid.l1])
      | succ k2 =>
       have H := HA.out
       clear HA
       simp only [spec_PolyValid.l1] at H
       by_cases c6 : x5_2 < (l0.length : Int)
       ·rw [if_pos c6] at H
        have c6b0 : decide (x5_2 < (l0.length : Int)) = true := decide_eq_true c6
        clear c6
        by_cases c7 : 0 ≤ x4_1
        ·rw [if_pos c7] at H
         have c7b0 : decide (0 ≤ x4_1) = true := decide_eq_true c7
         clear c7
         by_cases c8 : x4_1 < (l0.length : Int)
         ·rw [if_pos c8] at H
          have c8b0 : decide (x4_1 < (l0.length : Int)) = true := decide_eq_true c8
          clear c8
          by_cases c9 : (l0.length : Int) = 0
          ·rw [if_pos c9] at H
           exact absurd H (by simp)
          ·rw [if_neg c9] at H
           have c9b0 : ((l0.length : Int) == 0) = false := beq_eq_false_iff_ne.mpr c9
           have c9b1 : ((l0.length : Int) != 0) = true := bne_iff_ne.mpr c9
           have c9b2 : ¬ (l0 = []) := fun h_ => c9 (by rw [h_]; rfl)
           obtain ⟨ji10, hji10⟩ : ∃ j_ : Int, (Int.tmod (wrap64 (x4_1 + 1)) (l0.length : Int)) = j_ := ⟨_, rfl⟩
           replace H : (if 0 ≤ (ji10) then (if (ji10) < (l0.length : Int) then (if 0 ≤ x5_2 then (if x5_2 < (l0.length : Int) then (if 0 ≤ (Int.tmod (wrap64 (x5_2 + 1)) (l0.length : Int)) then (if (Int.tmod (wrap64 (x5_2 + 1)) (l0.length : Int)) < (l0.length : Int) then (if x5_2 = (wrap64 (x4_1 + 1)) then (if (((rd_T33 l0 x5_2).f0) == ((rd_T33 l0 x4_1).f0) && (((rd_T33 l0 x5_2).f1) == ((rd_T33 l0 x4_1).f1))) = true then (some false) else (if (((rd_T33 l0 (Int.tmod (wrap64 (x5_2 + 1)) (l0.length : Int))).f0) == ((rd_T33 l0 x5_2).f0) && (((rd_T33 l0 (Int.tmod (wrap64 (x5_2 + 1)) (l0.length : Int))).f1) == ((rd_T33 l0 x5_2).f1))) = true then (some false) else ((spec_l2On.f ((rd_T33 l0 x4_1).f0) ((rd_T33 l0 x4_1).f1) ((rd_T33 l0 (ji10)).f0) ((rd_T33 l0 (ji10)).f1) ((rd_T33 l0 (Int.tmod (wrap64 (x5_2 + 1)) (l0.length : Int))).f0) ((rd_T33 l0 (Int.tmod (wrap64 (x5_2 + 1)) (l0.length : Int))).f1)).bind fun t303 => (if t303 = true then (some false) else ((spec_l2On.f ((rd_T33 l0 x5_2).f0) ((rd_T33 l0 x5_2).f1) ((rd_T33 l0 (Int.tmod (wrap64 (x5_2 + 1)) (l0.length : Int))).f0) ((rd_T33 l0 (Int.tmod (wrap64 (x5_2 + 1)) (l0.length : Int))).f1) ((rd_T33 l0 x4_1).f0) ((rd_T33 l0 x4_1).f1)).bind fun t304 => (if t304 = true then (some false) else (spec_PolyValid.l1 k2 l0 (l0.length : Int) x4_1 (wrap64 (x5_2 + 1))))))))) else (if (Int.tmod (wrap64 (x5_2 + 1)) (l0.length : Int)) = x4_1 then ((spec_l2On.f ((rd_T33 l0 x5_2).f0) ((rd_T33 l0 x5_2).f1) ((rd_T33 l0 (Int.tmod (wrap64 (x5_2 + 1)) (l0.length : Int))).f0) ((rd_T33 l0 (Int.tmod (wrap64 (x5_2 + 1)) (l0.length : Int))).f1) ((rd_T33 l0 (ji10)).f0) ((rd_T33 l0 (ji10)).f1)).bind fun t305 => (if t305 = true then (some false) else ((spec_l2On.f ((rd_T33 l0 x4_1).f0) ((rd_T33 l0 x4_1).f1) ((rd_T33 l0 (ji10)).f0) ((rd_T33 l0 (ji10)).f1) ((rd_T33 l0 x5_2).f0) ((rd_T33 l0 x5_2).f1)).bind fun t306 => (if t306 = true then (some false) else (spec_PolyValid.l1 k2 l0 (l0.length : Int) x4_1 (wrap64 (x5_2 + 1))))))) else ((spec_l31Meet.f k2 ((rd_T33 l0 x4_1).f0) ((rd_T33 l0 x4_1).f1) ((rd_T33 l0 (ji10)).f0) ((rd_T33 l0 (ji10)).f1) ((rd_T33 l0 x5_2).f0) ((rd_T33 l0 x5_2).f1) ((rd_T33 l0 (Int.tmod (wrap64 (x5_2 + 1)) (l0.length : Int))).f0) ((rd_T33 l0 (Int.tmod (wrap64 (x5_2 + 1)) (l0.length : Int))).f1)).bind fun t307 => (if t307 = true then (some false) else (spec_PolyValid.l1 k2 l0 (l0.length : Int) x4_1 (wrap64 (x5_2 + 1))))))) else (none)) else (none)) else (none)) else (none)) else (none)) else (none)) = some r := by first | (rw [hji10] at H; exact H) | (simp only [hji10] at H ⊢; exact H)
           by_cases c11 : 0 ≤ (ji10)
           ·rw [if_pos c11] at H
            have c11b0 : decide (0 ≤ (ji10)) = true := decide_eq_true c11
            clear c11
            by_cases c12 : (ji10) < (l0.length : Int)
            ·rw [if_pos c12] at H
             have c12b0 : decide ((ji10) < (l0.length : Int)) = true := decide_eq_true c12
             clear c12
             by_cases c13 : 0 ≤ x5_2
             ·rw [if_pos c13] at H
              have c13b0 : decide (0 ≤ x5_2) = true := decide_eq_true c13
              clear c13
              by_cases c14 : x5_2 < (l0.length : Int)
              ·rw [if_pos c14] at H
               have c14b0 : decide (x5_2 < (l0.length : Int)) = true := decide_eq_true c14
               clear c14
               obtain ⟨ji15, hji15⟩ : ∃ j_ : Int, (Int.tmod (wrap64 (x5_2 + 1)) (l0.length : Int)) = j_ := ⟨_, rfl⟩
               replace H : (if 0 ≤ (ji15) then (if (ji15) < (l0.length : Int) then (if x5_2 = (wrap64 (x4_1 + 1)) then (if (((rd_T33 l0 x5_2).f0) == ((rd_T33 l0 x4_1).f0) && (((rd_T33 l0 x5_2).f1) == ((rd_T33 l0 x4_1).f1))) = true then (some false) else (if (((rd_T33 l0 (ji15)).f0) == ((rd_T33 l0 x5_2).f0) && (((rd_T33 l0 (ji15)).f1) == ((rd_T33 l0 x5_2).f1))) = true then (some false) else ((spec_l2On.f ((rd_T33 l0 x4_1).f0) ((rd_T33 l0 x4_1).f1) ((rd_T33 l0 (ji10)).f0) ((rd_T33 l0 (ji10)).f1) ((rd_T33 l0 (ji15)).f0) ((rd_T33 l0 (ji15)).f1)).bind fun t303 => (if t303 = true then (some false) else ((spec_l2On.f ((rd_T33 l0 x5_2).f0) ((rd_T33 l0 x5_2).f1) ((rd_T33 l0 (ji15)).f0) ((rd_T33 l0 (ji15)).f1) ((rd_T33 l0 x4_1).f0) ((rd_T33 l0 x4_1).f1)).bind fun t304 => (if t304 = true then (some false) else (spec_PolyValid.l1 k2 l0 (l0.length : Int) x4_1 (wrap64 (x5_2 + 1))))))))) else (if (ji15) = x4_1 then ((spec_l2On.f ((rd_T33 l0 x5_2).f0) ((rd_T33 l0 x5_2).f1) ((rd_T33 l0 (ji15)).f0) ((rd_T33 l0 (ji15)).f1) ((rd_T33 l0 (ji10)).f0) ((rd_T33 l0 (ji10)).f1)).bind fun t305 => (if t305 = true then (some false) else ((spec_l2On.f ((rd_T33 l0 x4_1).f0) ((rd_T33 l0 x4_1).f1) ((rd_T33 l0 (ji10)).f0) ((rd_T33 l0 (ji10)).f1) ((rd_T33 l0 x5_2).f0) ((rd_T33 l0 x5_2).f1)).bind fun t306 => (if t306 = true then (some false) else (spec_PolyValid.l1 k2 l0 (l0.length : Int) x4_1 (wrap64 (x5_2 + 1))))))) else ((spec_l31Meet.f k2 ((rd_T33 l0 x4_1).f0) ((rd_T33 l0 x4_1).f1) ((rd_T33 l0 (ji10)).f0) ((rd_T33 l0 (ji10)).f1) ((rd_T33 l0 x5_2).f0) ((rd_T33 l0 x5_2).f1) ((rd_T33 l0 (ji15)).f0) ((rd_T33 l0 (ji15)).f1)).bind fun t307 => (if t307 = true then (some false) else (spec_PolyValid.l1 k2 l0 (l0.length : Int) x4_1 (wrap64 (x5_2 + 1))))))) else (none)) else (none)) = some r := by first | (rw [hji15] at H; exact H) | (simp only [hji15] at H ⊢; exact H)
               by_cases c16 : 0 ≤ (ji15)
               ·rw [if_pos c16] at H
                have c16b0 : decide (0 ≤ (ji15)) = true := decide_eq_true c16
                clear c16
                by_cases c17 : (ji15) < (l0.length : Int)
                ·rw [if_pos c17] at H
                 have c17b0 : decide ((ji15) < (l0.length : Int)) = true := decide_eq_true c17
                 clear c17
                 by_cases c18 : x5_2 = (wrap64 (x4_1 + 1))
                 ·rw [if_pos c18] at H
                  have c18b0 : (x5_2 == (wrap64 (x4_1 + 1))) = true := beq_iff_eq.mpr c18
                  have c18b1 : (x5_2 != (wrap64 (x4_1 + 1))) = false := bne_eq_false_iff_eq.mpr c18
                  clear c18
                  by_cases c19 : (((rd_T33 l0 x5_2).f0) == ((rd_T33 l0 x4_1).f0) && (((rd_T33 l0 x5_2).f1) == ((rd_T33 l0 x4_1).f1))) = true
                  ·rw [if_pos c19] at H
                   have c19b0 : (((rd_T33 l0 x5_2).f0) == ((rd_T33 l0 x4_1).f0) && (((rd_T33 l0 x5_2).f1) == ((rd_T33 l0 x4_1).f1))) = true := c19
                   (try (have c19b1 : decide (((rd_T33 l0 x5_2).f0) = ((rd_T33 l0 x4_1).f0) && (((rd_T33 l0 x5_2).f1) == ((rd_T33 l0 x4_1).f1))) = true := by simpa using c19))
                   (try (have c19b2 : (((rd_T33 l0 x5_2).f0) == ((rd_T33 l0 x4_1).f0) && (((rd_T33 l0 x5_2).f1) == ((rd_T33 l0 x4_1).f1))) = true := by simpa using c19))
                   clear c19
                   obtain rfl := Option.some.inj H
                   have p295 : 0 ≤ (x4_1 : Int) := oa
                   have q295 : x4_1 < (l0.length : Int) := oa
                   obtain ⟨ad295, e295, hx295_0, hx295_1⟩ := at_T33 HR0.out x4_1 p295 q295
                   cases e295
                   replace hx295_0 := (HB.out.cell (World.block_lt_of_cell? w _ hx295_0)).trans hx295_0
                   replace hx295_1 := (HB.out.cell (World.block_lt_of_cell? w _ hx295_1)).trans hx295_1
                   replace p295 := eq_true p295
                   replace q295 := eq_true q295
                   go_wp2_with (first | ((with_reducible refine gate_dst (N := 6) rfl ?_); refine bx_ 6 (cs := #[.int .i64 0, .int .i64 0]) (t := 33) ?_; intro gb296 hg w20 hbox hb; have n0_ := Aside0.mk (below_step (lb HB.out) hb); have n1_ := Aside0.mk (hbox); have n2_ := Aside0.mk ((by rw [hg]; exact (below_size (lb HB.out)) : w.heap.size ≤ gb296)); have n3_ := Aside0.mk ((by rw [hg]; exact (below_size (lb HB.out)) : w.heap.size ≤ gb296)); clear HB; have HB := n0_; have BK296 := n1_; have GW296 := n2_; have GE296 := n3_; clear n0_ n1_ n2_ n3_; clear hb hbox hg; have hcz21_0 : w20.cell? ⟨gb296, 0, none⟩ = some (.int .i64 0) := (blk_cell BK296.out 0).trans rfl; have hcz21_1 : w20.cell? ⟨gb296, 1, none⟩ = some (.int .i64 0) := (blk_cell BK296.out 1).trans rfl; have hfz21_0 := blk_frozen BK296.out 0; have hfz21_1 := blk_frozen BK296.out 1; have p297 : 0 ≤ ((ji10) : Int) := oa; have q297 : (ji10) < (l0.length : Int) := oa; obtain ⟨ad297, e297, hx297_0, hx297_1⟩ := at_T33 HR0.out (ji10) p297 q297; obtain rfl : ad295 = ad297 := (by injection e297); have hn297_0 : ad295.block ≠ gb296 := Nat.ne_of_lt (cl hx297_0 GW296.out); have hn297_1 : ad295.block ≠ gb296 := Nat.ne_of_lt (cl hx297_0 GW296.out); replace hx297_0 := (HB.out.cell (World.block_lt_of_cell? w _ hx297_0)).trans hx297_0; replace hx297_1 := (HB.out.cell (World.block_lt_of_cell? w _ hx297_1)).trans hx297_1; replace hx297_0 := (cell_far (p := ⟨gb296, 0, none⟩) (nb hn297_0) (.int .i64 ((rd_T33 l0 x4_1).f0))).trans hx297_0; replace hx297_1 := (cell_far (p := ⟨gb296, 0, none⟩) (nb hn297_0) (.int .i64 ((rd_T33 l0 x4_1).f0))).trans hx297_1; replace hx297_0 := (cell_far (p := ⟨gb296, 1, none⟩) (nb hn297_1) (.int .i64 ((rd_T33 l0 x4_1).f1))).trans hx297_0; replace hx297_1 := (cell_far (p := ⟨gb296, 1, none⟩) (nb hn297_1) (.int .i64 ((rd_T33 l0 x4_1).f1))).trans hx297_1; clear hn297_0; clear hn297_1; replace p297 := eq_true p297; replace q297 := eq_true q297) | ((with_reducible refine gate_dst (N := 7) rfl ?_); refine bx_ 7 (cs := #[.int .i64 0, .int .i64 0]) (t := 33) ?_; intro gb298 hg w22 hbox hb; have n0_ := Aside0.mk (blk_below (bp BK296.out) hb); have n1_ := Aside0.mk (below_step (lb HB.out) hb); have n2_ := Aside0.mk (hbox); have n3_ := Aside0.mk ((by rw [hg]; exact (below_size (lb HB.out)) : w.heap.size ≤ gb298)); have n4_ := Aside0.mk ((by rw [hg]; exact (below_size (lb HB.out)) : w.heap.size ≤ gb298)); have n5_ := Aside0.mk ((by rw [hg]; exact Nat.ne_of_lt (blk_lt (bp BK296.out)) : gb296 ≠ gb298)); have n6_ := Aside0.mk ((by rw [hg]; exact Nat.ne_of_gt (blk_lt (bp BK296.out)) : gb298 ≠ gb296)); clear BK296; clear HB; have BK296 := n0_; have HB := n1_; have BK298 := n2_; have GW298 := n3_; have GE298 := n4_; have NB296_298 := n5_; have NB298_296 := n6_; clear n0_ n1_ n2_ n3_ n4_ n5_ n6_; clear hb hbox hg; have hnb23 := NB298_296.out; have hnc23 := NB296_298.out; have hcz24_0 : w22.cell? ⟨gb298, 0, none⟩ = some (.int .i64 0) := (blk_cell BK298.out 0).trans rfl; have hcz24_1 : w22.cell? ⟨gb298, 1, none⟩ = some (.int .i64 0) := (blk_cell BK298.out 1).trans rfl; have hfz24_0 := blk_frozen BK298.out 0; have hfz24_1 := blk_frozen BK298.out 1; have p299 : 0 ≤ (x5_2 : Int) := oa; have q299 : x5_2 < (l0.length : Int) := oa; obtain ⟨ad299, e299, hx299_0, hx299_1⟩ := at_T33 HR0.out x5_2 p299 q299; obtain rfl : ad295 = ad299 := (by injection e299); have hn299_0 : ad295.block ≠ gb298 := Nat.ne_of_lt (cl hx299_0 GW298.out); have hn299_1 : ad295.block ≠ gb298 := Nat.ne_of_lt (cl hx299_0 GW298.out); replace hx299_0 := (HB.out.cell (World.block_lt_of_cell? w _ hx299_0)).trans hx299_0; replace hx299_1 := (HB.out.cell (World.block_lt_of_cell? w _ hx299_1)).trans hx299_1; replace hx299_0 := (cell_far (p := ⟨gb298, 0, none⟩) (nb hn299_0) (.int .i64 ((rd_T33 l0 (ji10)).f0))).trans hx299_0; replace hx299_1 := (cell_far (p := ⟨gb298, 0, none⟩) (nb hn299_0) (.int .i64 ((rd_T33 l0 (ji10)).f0))).trans hx299_1; replace hx299_0 := (cell_far (p := ⟨gb298, 1, none⟩) (nb hn299_1) (.int .i64 ((rd_T33 l0 (ji10)).f1))).trans hx299_0; replace hx299_1 := (cell_far (p := ⟨gb298, 1, none⟩) (nb hn299_1) (.int .i64 ((rd_T33 l0 (ji10)).f1))).trans hx299_1; clear hn299_0; clear hn299_1; replace p299 := eq_true p299; replace q299 := eq_true q299) | ((with_reducible refine gate_dst (N := 8) rfl ?_); refine bx_ 8 (cs := #[.int .i64 0, .int .i64 0]) (t := 33) ?_; intro gb300 hg w25 hbox hb; have n0_ := Aside0.mk (blk_below (bf BK296.out) hb); have n1_ := Aside0.mk (blk_below (bp BK298.out) hb); have n2_ := Aside0.mk (below_step (lb HB.out) hb); have n3_ := Aside0.mk (hbox); have n4_ := Aside0.mk ((by rw [hg]; exact (below_size (lb HB.out)) : w.heap.size ≤ gb300)); have n5_ := Aside0.mk ((by rw [hg]; exact (below_size (lb HB.out)) : w.heap.size ≤ gb300)); have n6_ := Aside0.mk ((by rw [hg]; exact Nat.ne_of_lt (blk_lt (bf BK296.out)) : gb296 ≠ gb300)); have n7_ := Aside0.mk ((by rw [hg]; exact Nat.ne_of_gt (blk_lt (bf BK296.out)) : gb300 ≠ gb296)); have n8_ := Aside0.mk ((by rw [hg]; exact Nat.ne_of_lt (blk_lt (bp BK298.out)) : gb298 ≠ gb300)); have n9_ := Aside0.mk ((by rw [hg]; exact Nat.ne_of_gt (blk_lt (bp BK298.out)) : gb300 ≠ gb298)); clear BK296; clear BK298; clear HB; have BK296 := n0_; have BK298 := n1_; have HB := n2_; have BK300 := n3_; have GW300 := n4_; have GE300 := n5_; have NB296_300 := n6_; have NB300_296 := n7_; have NB298_300 := n8_; have NB300_298 := n9_; clear n0_ n1_ n2_ n3_ n4_ n5_ n6_ n7_ n8_ n9_; clear hb hbox hg; have hnb26 := NB300_296.out; have hnc26 := NB296_300.out; have hnb27 := NB300_298.out; have hnc27 := NB298_300.out; have hcz28_0 : w25.cell? ⟨gb300, 0, none⟩ = some (.int .i64 0) := (blk_cell BK300.out 0).trans rfl; have hcz28_1 : w25.cell? ⟨gb300, 1, none⟩ = some (.int .i64 0) := (blk_cell BK300.out 1).trans rfl; have hfz28_0 := blk_frozen BK300.out 0; have hfz28_1 := blk_frozen BK300.out 1; have p301 : 0 ≤ ((ji15) : Int) := oa; have q301 : (ji15) < (l0.length : Int) := oa; obtain ⟨ad301, e301, hx301_0, hx301_1⟩ := at_T33 HR0.out (ji15) p301 q301; obtain rfl : ad295 = ad301 := (by injection e301); have hn301_0 : ad295.block ≠ gb300 := Nat.ne_of_lt (cl hx301_0 GW300.out); have hn301_1 : ad295.block ≠ gb300 := Nat.ne_of_lt (cl hx301_0 GW300.out); replace hx301_0 := (HB.out.cell (World.block_lt_of_cell? w _ hx301_0)).trans hx301_0; replace hx301_1 := (HB.out.cell (World.block_lt_of_cell? w _ hx301_1)).trans hx301_1; replace hx301_0 := (cell_far (p := ⟨gb300, 0, none⟩) (nb hn301_0) (.int .i64 ((rd_T33 l0 x5_2).f0))).trans hx301_0; replace hx301_1 := (cell_far (p := ⟨gb300, 0, none⟩) (nb hn301_0) (.int .i64 ((rd_T33 l0 x5_2).f0))).trans hx301_1; replace hx301_0 := (cell_far (p := ⟨gb300, 1, none⟩) (nb hn301_1) (.int .i64 ((rd_T33 l0 x5_2).f1))).trans hx301_0; replace hx301_1 := (cell_far (p := ⟨gb300, 1, none⟩) (nb hn301_1) (.int .i64 ((rd_T33 l0 x5_2).f1))).trans hx301_1; clear hn301_0; clear hn301_1; replace p301 := eq_true p301; replace q301 := eq_true q301) | ((with_reducible refine gate_dst (N := 9) rfl ?_); refine bx_ 9 (cs := #[.int .i64 0, .int .i64 0]) (t := 33) ?_; intro gb302 hg w29 hbox hb; have n0_ := Aside0.mk (blk_below (bf BK296.out) hb); have n1_ := Aside0.mk (blk_below (bf BK298.out) hb); have n2_ := Aside0.mk (blk_below (bp BK300.out) hb); have n3_ := Aside0.mk (below_step (lb HB.out) hb); have n4_ := Aside0.mk (hbox); have n5_ := Aside0.mk ((by rw [hg]; exact (below_size (lb HB.out)) : w.heap.size ≤ gb302)); have n6_ := Aside0.mk ((by rw [hg]; exact (below_size (lb HB.out)) : w.heap.size ≤ gb302)); have n7_ := Aside0.mk ((by rw [hg]; exact Nat.ne_of_lt (blk_lt (bf BK296.out)) : gb296 ≠ gb302)); have n8_ := Aside0.mk ((by rw [hg]; exact Nat.ne_of_gt (blk_lt (bf BK296.out)) : gb302 ≠ gb296)); have n9_ := Aside0.mk ((by rw [hg]; exact Nat.ne_of_lt (blk_lt (bf BK298.out)) : gb298 ≠ gb302)); have n10_ := Aside0.mk ((by rw [hg]; exact Nat.ne_of_gt (blk_lt (bf BK298.out)) : gb302 ≠ gb298)); have n11_ := Aside0.mk ((by rw [hg]; exact Nat.ne_of_lt (blk_lt (bp BK300.out)) : gb300 ≠ gb302)); have n12_ := Aside0.mk ((by rw [hg]; exact Nat.ne_of_gt (blk_lt (bp BK300.out)) : gb302 ≠ gb300)); clear BK296; clear BK298; clear BK300; clear HB; have BK296 := n0_; have BK298 := n1_; have BK300 := n2_; have HB := n3_; have BK302 := n4_; have GW302 := n5_; have GE302 := n6_; have NB296_302 := n7_; have NB302_296 := n8_; have NB298_302 := n9_; have NB302_298 := n10_; have NB300_302 := n11_; have NB302_300 := n12_; clear n0_ n1_ n2_ n3_ n4_ n5_ n6_ n7_ n8_ n9_ n10_ n11_ n12_; clear hb hbox hg; have hnb30 := NB302_296.out; have hnc30 := NB296_302.out; have hnb31 := NB302_298.out; have hnc31 := NB298_302.out; have hnb32 := NB302_300.out; have hnc32 := NB300_302.out; have hcz33_0 : w29.cell? ⟨gb302, 0, none⟩ = some (.int .i64 0) := (blk_cell BK302.out 0).trans rfl; have hcz33_1 : w29.cell? ⟨gb302, 1, none⟩ = some (.int .i64 0) := (blk_cell BK302.out 1).trans rfl; have hfz33_0 := blk_frozen BK302.out 0; have hfz33_1 := blk_frozen BK302.out 1; have hcz34_0 : w29.cell? ⟨gb300, 0, none⟩ = some (.int .i64 ((rd_T33 l0 x5_2).f0)) := (blk_cell BK300.out 0).trans rfl; have hcz34_1 : w29.cell? ⟨gb300, 1, none⟩ = some (.int .i64 ((rd_T33 l0 x5_2).f1)) := (blk_cell BK300.out 1).trans rfl; have hfz34_0 := blk_frozen BK300.out 0; have hfz34_1 := blk_frozen BK300.out 1; have hcz35_0 : w29.cell? ⟨gb296, 0, none⟩ = some (.int .i64 ((rd_T33 l0 x4_1).f0)) := (blk_cell BK296.out 0).trans rfl; have hcz35_1 : w29.cell? ⟨gb296, 1, none⟩ = some (.int .i64 ((rd_T33 l0 x4_1).f1)) := (blk_cell BK296.out 1).trans rfl; have hfz35_0 := blk_frozen BK296.out 0; have hfz35_1 := blk_frozen BK296.out 1))
                   go_ret
                   exact ⟨by first | rfl | (simp [errW_none, errW_some] <;> rfl) | (simp only [← hji10, ← hji15]; first | rfl | (simp [errW_none, errW_some] <;> rfl)) | (simp [*, errW_none, errW_some] <;> rfl), lb HB.out⟩
                  ·rw [if_neg c19] at H
                   have c19b0 : (((rd_T33 l0 x5_2).f0) == ((rd_T33 l0 x4_1).f0) && (((rd_T33 l0 x5_2).f1) == ((rd_T33 l0 x4_1).f1))) = false := by simpa using c19
                   (try (have c19b1 : decide (((rd_T33 l0 x5_2).f0) = ((rd_T33 l0 x4_1).f0) && (((rd_T33 l0 x5_2).f1) == ((rd_T33 l0 x4_1).f1))) = false := by simpa using c19))
                   (try (have c19b2 : (((rd_T33 l0 x5_2).f0) == ((rd_T33 l0 x4_1).f0) && (((rd_T33 l0 x5_2).f1) == ((rd_T33 l0 x4_1).f1))) = false := by simpa using c19))
                   (try (have c19b3 : ¬ (((rd_T33 l0 x5_2).f0) = ((rd_T33 l0 x4_1).f0) && (((rd_T33 l0 x5_2).f1) == ((rd_T33 l0 x4_1).f1))) := by simpa using c19))
                   clear c19
                   by_cases c36 : (((rd_T33 l0 (ji15)).f0) == ((rd_T33 l0 x5_2).f0) && (((rd_T33 l0 (ji15)).f1) == ((rd_T33 l0 x5_2).f1))) = true
                   ·rw [if_pos c36] at H
                    have c36b0 : (((rd_T33 l0 (ji15)).f0) == ((rd_T33 l0 x5_2).f0) && (((rd_T33 l0 (ji15)).f1) == ((rd_T33 l0 x5_2).f1))) = true := c36
                    (try (have c36b1 : decide (((rd_T33 l0 (ji15)).f0) = ((rd_T33 l0 x5_2).f0) && (((rd_T33 l0 (ji15)).f1) == ((rd_T33 l0 x5_2).f1))) = true := by simpa using c36))
                    (try (have c36b2 : (((rd_T33 l0 (ji15)).f0) == ((rd_T33 l0 x5_2).f0) && (((rd_T33 l0 (ji15)).f1) == ((rd_T33 l0 x5_2).f1))) = true := by simpa using c36))
                    clear c36
                    obtain rfl := Option.some.inj H
                    have p295 : 0 ≤ (x4_1 : Int) := oa
                    have q295 : x4_1 < (l0.length : Int) := oa
                    obtain ⟨ad295, e295, hx295_0, hx295_1⟩ := at_T33 HR0.out x4_1 p295 q295
                    cases e295
                    replace hx295_0 := (HB.out.cell (World.block_lt_of_cell? w _ hx295_0)).trans hx295_0
                    replace hx295_1 := (HB.out.cell (World.block_lt_of_cell? w _ hx295_1)).trans hx295_1
                    replace p295 := eq_true p295
                    replace q295 := eq_true q295
                    go_wp2_with (first | ((with_reducible refine gate_dst (N := 6) rfl ?_); refine bx_ 6 (cs := #[.int .i64 0, .int .i64 0]) (t := 33) ?_; intro gb296 hg w37 hbox hb; have n0_ := Aside0.mk (below_step (lb HB.out) hb); have n1_ := Aside0.mk (hbox); have n2_ := Aside0.mk ((by rw [hg]; exact (below_size (lb HB.out)) : w.heap.size ≤ gb296)); have n3_ := Aside0.mk ((by rw [hg]; exact (below_size (lb HB.out)) : w.heap.size ≤ gb296)); clear HB; have HB := n0_; have BK296 := n1_; have GW296 := n2_; have GE296 := n3_; clear n0_ n1_ n2_ n3_; clear hb hbox hg; have hcz38_0 : w37.cell? ⟨gb296, 0, none⟩ = some (.int .i64 0) := (blk_cell BK296.out 0).trans rfl; have hcz38_1 : w37.cell? ⟨gb296, 1, none⟩ = some (.int .i64 0) := (blk_cell BK296.out 1).trans rfl; have hfz38_0 := blk_frozen BK296.out 0; have hfz38_1 := blk_frozen BK296.out 1; have p297 : 0 ≤ ((ji10) : Int) := oa; have q297 : (ji10) < (l0.length : Int) := oa; obtain ⟨ad297, e297, hx297_0, hx297_1⟩ := at_T33 HR0.out (ji10) p297 q297; obtain rfl : ad295 = ad297 := (by injection e297); have hn297_0 : ad295.block ≠ gb296 := Nat.ne_of_lt (cl hx297_0 GW296.out); have hn297_1 : ad295.block ≠ gb296 := Nat.ne_of_lt (cl hx297_0 GW296.out); replace hx297_0 := (HB.out.cell (World.block_lt_of_cell? w _ hx297_0)).trans hx297_0; replace hx297_1 := (HB.out.cell (World.block_lt_of_cell? w _ hx297_1)).trans hx297_1; replace hx297_0 := (cell_far (p := ⟨gb296, 0, none⟩) (nb hn297_0) (.int .i64 ((rd_T33 l0 x4_1).f0))).trans hx297_0; replace hx297_1 := (cell_far (p := ⟨gb296, 0, none⟩) (nb hn297_0) (.int .i64 ((rd_T33 l0 x4_1).f0))).trans hx297_1; replace hx297_0 := (cell_far (p := ⟨gb296, 1, none⟩) (nb hn297_1) (.int .i64 ((rd_T33 l0 x4_1).f1))).trans hx297_0; replace hx297_1 := (cell_far (p := ⟨gb296, 1, none⟩) (nb hn297_1) (.int .i64 ((rd_T33 l0 x4_1).f1))).trans hx297_1; clear hn297_0; clear hn297_1; replace p297 := eq_true p297; replace q297 := eq_true q297) | ((with_reducible refine gate_dst (N := 7) rfl ?_); refine bx_ 7 (cs := #[.int .i64 0, .int .i64 0]) (t := 33) ?_; intro gb298 hg w39 hbox hb; have n0_ := Aside0.mk (blk_below (bp BK296.out) hb); have n1_ := Aside0.mk (below_step (lb HB.out) hb); have n2_ := Aside0.mk (hbox); have n3_ := Aside0.mk ((by rw [hg]; exact (below_size (lb HB.out)) : w.heap.size ≤ gb298)); have n4_ := Aside0.mk ((by rw [hg]; exact (below_size (lb HB.out)) : w.heap.size ≤ gb298)); have n5_ := Aside0.mk ((by rw [hg]; exact Nat.ne_of_lt (blk_lt (bp BK296.out)) : gb296 ≠ gb298)); have n6_ := Aside0.mk ((by rw [hg]; exact Nat.ne_of_gt (blk_lt (bp BK296.out)) : gb298 ≠ gb296)); clear BK296; clear HB; have BK296 := n0_; have HB := n1_; have BK298 := n2_; have GW298 := n3_; have GE298 := n4_; have NB296_298 := n5_; have NB298_296 := n6_; clear n0_ n1_ n2_ n3_ n4_ n5_ n6_; clear hb hbox hg; have hnb40 := NB298_296.out; have hnc40 := NB296_298.out; have hcz41_0 : w39.cell? ⟨gb298, 0, none⟩ = some (.int .i64 0) := (blk_cell BK298.out 0).trans rfl; have hcz41_1 : w39.cell? ⟨gb298, 1, none⟩ = some (.int .i64 0) := (blk_cell BK298.out 1).trans rfl; have hfz41_0 := blk_frozen BK298.out 0; have hfz41_1 := blk_frozen BK298.out 1; have p299 : 0 ≤ (x5_2 : Int) := oa; have q299 : x5_2 < (l0.length : Int) := oa; obtain ⟨ad299, e299, hx299_0, hx299_1⟩ := at_T33 HR0.out x5_2 p299 q299; obtain rfl : ad295 = ad299 := (by injection e299); have hn299_0 : ad295.block ≠ gb298 := Nat.ne_of_lt (cl hx299_0 GW298.out); have hn299_1 : ad295.block ≠ gb298 := Nat.ne_of_lt (cl hx299_0 GW298.out); replace hx299_0 := (HB.out.cell (World.block_lt_of_cell? w _ hx299_0)).trans hx299_0; replace hx299_1 := (HB.out.cell (World.block_lt_of_cell? w _ hx299_1)).trans hx299_1; replace hx299_0 := (cell_far (p := ⟨gb298, 0, none⟩) (nb hn299_0) (.int .i64 ((rd_T33 l0 (ji10)).f0))).trans hx299_0; replace hx299_1 := (cell_far (p := ⟨gb298, 0, none⟩) (nb hn299_0) (.int .i64 ((rd_T33 l0 (ji10)).f0))).trans hx299_1; replace hx299_0 := (cell_far (p := ⟨gb298, 1, none⟩) (nb hn299_1) (.int .i64 ((rd_T33 l0 (ji10)).f1))).trans hx299_0; replace hx299_1 := (cell_far (p := ⟨gb298, 1, none⟩) (nb hn299_1) (.int .i64 ((rd_T33 l0 (ji10)).f1))).trans hx299_1; clear hn299_0; clear hn299_1; replace p299 := eq_true p299; replace q299 := eq_true q299) | ((with_reducible refine gate_dst (N := 8) rfl ?_); refine bx_ 8 (cs := #[.int .i64 0, .int .i64 0]) (t := 33) ?_; intro gb300 hg w42 hbox hb; have n0_ := Aside0.mk (blk_below (bf BK296.out) hb); have n1_ := Aside0.mk (blk_below (bp BK298.out) hb); have n2_ := Aside0.mk (below_step (lb HB.out) hb); have n3_ := Aside0.mk (hbox); have n4_ := Aside0.mk ((by rw [hg]; exact (below_size (lb HB.out)) : w.heap.size ≤ gb300)); have n5_ := Aside0.mk ((by rw [hg]; exact (below_size (lb HB.out)) : w.heap.size ≤ gb300)); have n6_ := Aside0.mk ((by rw [hg]; exact Nat.ne_of_lt (blk_lt (bf BK296.out)) : gb296 ≠ gb300)); have n7_ := Aside0.mk ((by rw [hg]; exact Nat.ne_of_gt (blk_lt (bf BK296.out)) : gb300 ≠ gb296)); have n8_ := Aside0.mk ((by rw [hg]; exact Nat.ne_of_lt (blk_lt (bp BK298.out)) : gb298 ≠ gb300)); have n9_ := Aside0.mk ((by rw [hg]; exact Nat.ne_of_gt (blk_lt (bp BK298.out)) : gb300 ≠ gb298)); clear BK296; clear BK298; clear HB; have BK296 := n0_; have BK298 := n1_; have HB := n2_; have BK300 := n3_; have GW300 := n4_; have GE300 := n5_; have NB296_300 := n6_; have NB300_296 := n7_; have NB298_300 := n8_; have NB300_298 := n9_; clear n0_ n1_ n2_ n3_ n4_ n5_ n6_ n7_ n8_ n9_; clear hb hbox hg; have hnb43 := NB300_296.out; have hnc43 := NB296_300.out; have hnb44 := NB300_298.out; have hnc44 := NB298_300.out; have hcz45_0 : w42.cell? ⟨gb300, 0, none⟩ = some (.int .i64 0) := (blk_cell BK300.out 0).trans rfl; have hcz45_1 : w42.cell? ⟨gb300, 1, none⟩ = some (.int .i64 0) := (blk_cell BK300.out 1).trans rfl; have hfz45_0 := blk_frozen BK300.out 0; have hfz45_1 := blk_frozen BK300.out 1; have p301 : 0 ≤ ((ji15) : Int) := oa; have q301 : (ji15) < (l0.length : Int) := oa; obtain ⟨ad301, e301, hx301_0, hx301_1⟩ := at_T33 HR0.out (ji15) p301 q301; obtain rfl : ad295 = ad301 := (by injection e301); have hn301_0 : ad295.block ≠ gb300 := Nat.ne_of_lt (cl hx301_0 GW300.out); have hn301_1 : ad295.block ≠ gb300 := Nat.ne_of_lt (cl hx301_0 GW300.out); replace hx301_0 := (HB.out.cell (World.block_lt_of_cell? w _ hx301_0)).trans hx301_0; replace hx301_1 := (HB.out.cell (World.block_lt_of_cell? w _ hx301_1)).trans hx301_1; replace hx301_0 := (cell_far (p := ⟨gb300, 0, none⟩) (nb hn301_0) (.int .i64 ((rd_T33 l0 x5_2).f0))).trans hx301_0; replace hx301_1 := (cell_far (p := ⟨gb300, 0, none⟩) (nb hn301_0) (.int .i64 ((rd_T33 l0 x5_2).f0))).trans hx301_1; replace hx301_0 := (cell_far (p := ⟨gb300, 1, none⟩) (nb hn301_1) (.int .i64 ((rd_T33 l0 x5_2).f1))).trans hx301_0; replace hx301_1 := (cell_far (p := ⟨gb300, 1, none⟩) (nb hn301_1) (.int .i64 ((rd_T33 l0 x5_2).f1))).trans hx301_1; clear hn301_0; clear hn301_1; replace p301 := eq_true p301; replace q301 := eq_true q301) | ((with_reducible refine gate_dst (N := 9) rfl ?_); refine bx_ 9 (cs := #[.int .i64 0, .int .i64 0]) (t := 33) ?_; intro gb302 hg w46 hbox hb; have n0_ := Aside0.mk (blk_below (bf BK296.out) hb); have n1_ := Aside0.mk (blk_below (bf BK298.out) hb); have n2_ := Aside0.mk (blk_below (bp BK300.out) hb); have n3_ := Aside0.mk (below_step (lb HB.out) hb); have n4_ := Aside0.mk (hbox); have n5_ := Aside0.mk ((by rw [hg]; exact (below_size (lb HB.out)) : w.heap.size ≤ gb302)); have n6_ := Aside0.mk ((by rw [hg]; exact (below_size (lb HB.out)) : w.heap.size ≤ gb302)); have n7_ := Aside0.mk ((by rw [hg]; exact Nat.ne_of_lt (blk_lt (bf BK296.out)) : gb296 ≠ gb302)); have n8_ := Aside0.mk ((by rw [hg]; exact Nat.ne_of_gt (blk_lt (bf BK296.out)) : gb302 ≠ gb296)); have n9_ := Aside0.mk ((by rw [hg]; exact Nat.ne_of_lt (blk_lt (bf BK298.out)) : gb298 ≠ gb302)); have n10_ := Aside0.mk ((by rw [hg]; exact Nat.ne_of_gt (blk_lt (bf BK298.out)) : gb302 ≠ gb298)); have n11_ := Aside0.mk ((by rw [hg]; exact Nat.ne_of_lt (blk_lt (bp BK300.out)) : gb300 ≠ gb302)); have n12_ := Aside0.mk ((by rw [hg]; exact Nat.ne_of_gt (blk_lt (bp BK300.out)) : gb302 ≠ gb300)); clear BK296; clear BK298; clear BK300; clear HB; have BK296 := n0_; have BK298 := n1_; have BK300 := n2_; have HB := n3_; have BK302 := n4_; have GW302 := n5_; have GE302 := n6_; have NB296_302 := n7_; have NB302_296 := n8_; have NB298_302 := n9_; have NB302_298 := n10_; have NB300_302 := n11_; have NB302_300 := n12_; clear n0_ n1_ n2_ n3_ n4_ n5_ n6_ n7_ n8_ n9_ n10_ n11_ n12_; clear hb hbox hg; have hnb47 := NB302_296.out; have hnc47 := NB296_302.out; have hnb48 := NB302_298.out; have hnc48 := NB298_302.out; have hnb49 := NB302_300.out; have hnc49 := NB300_302.out; have hcz50_0 : w46.cell? ⟨gb302, 0, none⟩ = some (.int .i64 0) := (blk_cell BK302.out 0).trans rfl; have hcz50_1 : w46.cell? ⟨gb302, 1, none⟩ = some (.int .i64 0) := (blk_cell BK302.out 1).trans rfl; have hfz50_0 := blk_frozen BK302.out 0; have hfz50_1 := blk_frozen BK302.out 1; have hcz51_0 : w46.cell? ⟨gb300, 0, none⟩ = some (.int .i64 ((rd_T33 l0 x5_2).f0)) := (blk_cell BK300.out 0).trans rfl; have hcz51_1 : w46.cell? ⟨gb300, 1, none⟩ = some (.int .i64 ((rd_T33 l0 x5_2).f1)) := (blk_cell BK300.out 1).trans rfl; have hfz51_0 := blk_frozen BK300.out 0; have hfz51_1 := blk_frozen BK300.out 1; have hcz52_0 : w46.cell? ⟨gb296, 0, none⟩ = some (.int .i64 ((rd_T33 l0 x4_1).f0)) := (blk_cell BK296.out 0).trans rfl; have hcz52_1 : w46.cell? ⟨gb296, 1, none⟩ = some (.int .i64 ((rd_T33 l0 x4_1).f1)) := (blk_cell BK296.out 1).trans rfl; have hfz52_0 := blk_frozen BK296.out 0; have hfz52_1 := blk_frozen BK296.out 1))
                    go_ret
                    exact ⟨by first | rfl | (simp [errW_none, errW_some] <;> rfl) | (simp only [← hji10, ← hji15]; first | rfl | (simp [errW_none, errW_some] <;> rfl)) | (simp [*, errW_none, errW_some] <;> rfl), lb HB.out⟩
                   ·rw [if_neg c36] at H
                    have c36b0 : (((rd_T33 l0 (ji15)).f0) == ((rd_T33 l0 x5_2).f0) && (((rd_T33 l0 (ji15)).f1) == ((rd_T33 l0 x5_2).f1))) = false := by simpa using c36
                    (try (have c36b1 : decide (((rd_T33 l0 (ji15)).f0) = ((rd_T33 l0 x5_2).f0) && (((rd_T33 l0 (ji15)).f1) == ((rd_T33 l0 x5_2).f1))) = false := by simpa using c36))
                    (try (have c36b2 : (((rd_T33 l0 (ji15)).f0) == ((rd_T33 l0 x5_2).f0) && (((rd_T33 l0 (ji15)).f1) == ((rd_T33 l0 x5_2).f1))) = false := by simpa using c36))
                    (try (have c36b3 : ¬ (((rd_T33 l0 (ji15)).f0) = ((rd_T33 l0 x5_2).f0) && (((rd_T33 l0 (ji15)).f1) == ((rd_T33 l0 x5_2).f1))) := by simpa using c36))
                    clear c36
                    replace H := Option.bind_eq_some_iff.mp H
                    obtain ⟨t303, A530, H⟩ := H
                    replace H : (if t303 = true then (some false) else ((spec_l2On.f ((rd_T33 l0 x5_2).f0) ((rd_T33 l0 x5_2).f1) ((rd_T33 l0 (ji15)).f0) ((rd_T33 l0 (ji15)).f1) ((rd_T33 l0 x4_1).f0) ((rd_T33 l0 x4_1).f1)).bind fun t304 => (if t304 = true then (some false) else (spec_PolyValid.l1 k2 l0 (l0.length : Int) x4_1 (wrap64 (x5_2 + 1)))))) = some r := H
                    have A53 := Aside0.mk A530
                    clear A530
                    by_cases c54 : t303 = true
                    ·subst c54
                     have H1 : (some false) = some r := by rw [if_pos rfl] at H; exact H
                     clear H
                     have H := H1
                     clear H1
                     obtain rfl := Option.some.inj H
                     have p295 : 0 ≤ (x4_1 : Int) := oa
                     have q295 : x4_1 < (l0.length : Int) := oa
                     obtain ⟨ad295, e295, hx295_0, hx295_1⟩ := at_T33 HR0.out x4_1 p295 q295
                     cases e295
                     replace hx295_0 := (HB.out.cell (World.block_lt_of_cell? w _ hx295_0)).trans hx295_0
                     replace hx295_1 := (HB.out.cell (World.block_lt_of_cell? w _ hx295_1)).trans hx295_1
                     replace p295 := eq_true p295
                     replace q295 := eq_true q295
                     go_wp2_with (first | ((with_reducible refine gate_dst (N := 6) rfl ?_); refine bx_ 6 (cs := #[.int .i64 0, .int .i64 0]) (t := 33) ?_; intro gb296 hg w55 hbox hb; have n0_ := Aside0.mk (below_step (lb HB.out) hb); have n1_ := Aside0.mk (hbox); have n2_ := Aside0.mk ((by rw [hg]; exact (below_size (lb HB.out)) : w.heap.size ≤ gb296)); have n3_ := Aside0.mk ((by rw [hg]; exact (below_size (lb HB.out)) : w.heap.size ≤ gb296)); clear HB; have HB := n0_; have BK296 := n1_; have GW296 := n2_; have GE296 := n3_; clear n0_ n1_ n2_ n3_; clear hb hbox hg; have hcz56_0 : w55.cell? ⟨gb296, 0, none⟩ = some (.int .i64 0) := (blk_cell BK296.out 0).trans rfl; have hcz56_1 : w55.cell? ⟨gb296, 1, none⟩ = some (.int .i64 0) := (blk_cell BK296.out 1).trans rfl; have hfz56_0 := blk_frozen BK296.out 0; have hfz56_1 := blk_frozen BK296.out 1; have p297 : 0 ≤ ((ji10) : Int) := oa; have q297 : (ji10) < (l0.length : Int) := oa; obtain ⟨ad297, e297, hx297_0, hx297_1⟩ := at_T33 HR0.out (ji10) p297 q297; obtain rfl : ad295 = ad297 := (by injection e297); have hn297_0 : ad295.block ≠ gb296 := Nat.ne_of_lt (cl hx297_0 GW296.out); have hn297_1 : ad295.block ≠ gb296 := Nat.ne_of_lt (cl hx297_0 GW296.out); replace hx297_0 := (HB.out.cell (World.block_lt_of_cell? w _ hx297_0)).trans hx297_0; replace hx297_1 := (HB.out.cell (World.block_lt_of_cell? w _ hx297_1)).trans hx297_1; replace hx297_0 := (cell_far (p := ⟨gb296, 0, none⟩) (nb hn297_0) (.int .i64 ((rd_T33 l0 x4_1).f0))).trans hx297_0; replace hx297_1 := (cell_far (p := ⟨gb296, 0, none⟩) (nb hn297_0) (.int .i64 ((rd_T33 l0 x4_1).f0))).trans hx297_1; replace hx297_0 := (cell_far (p := ⟨gb296, 1, none⟩) (nb hn297_1) (.int .i64 ((rd_T33 l0 x4_1).f1))).trans hx297_0; replace hx297_1 := (cell_far (p := ⟨gb296, 1, none⟩) (nb hn297_1) (.int .i64 ((rd_T33 l0 x4_1).f1))).trans hx297_1; clear hn297_0; clear hn297_1; replace p297 := eq_true p297; replace q297 := eq_true q297) | ((with_reducible refine gate_dst (N := 7) rfl ?_); refine bx_ 7 (cs := #[.int .i64 0, .int .i64 0]) (t := 33) ?_; intro gb298 hg w57 hbox hb; have n0_ := Aside0.mk (blk_below (bp BK296.out) hb); have n1_ := Aside0.mk (below_step (lb HB.out) hb); have n2_ := Aside0.mk (hbox); have n3_ := Aside0.mk ((by rw [hg]; exact (below_size (lb HB.out)) : w.heap.size ≤ gb298)); have n4_ := Aside0.mk ((by rw [hg]; exact (below_size (lb HB.out)) : w.heap.size ≤ gb298)); have n5_ := Aside0.mk ((by rw [hg]; exact Nat.ne_of_lt (blk_lt (bp BK296.out)) : gb296 ≠ gb298)); have n6_ := Aside0.mk ((by rw [hg]; exact Nat.ne_of_gt (blk_lt (bp BK296.out)) : gb298 ≠ gb296)); clear BK296; clear HB; have BK296 := n0_; have HB := n1_; have BK298 := n2_; have GW298 := n3_; have GE298 := n4_; have NB296_298 := n5_; have NB298_296 := n6_; clear n0_ n1_ n2_ n3_ n4_ n5_ n6_; clear hb hbox hg; have hnb58 := NB298_296.out; have hnc58 := NB296_298.out; have hcz59_0 : w57.cell? ⟨gb298, 0, none⟩ = some (.int .i64 0) := (blk_cell BK298.out 0).trans rfl; have hcz59_1 : w57.cell? ⟨gb298, 1, none⟩ = some (.int .i64 0) := (blk_cell BK298.out 1).trans rfl; have hfz59_0 := blk_frozen BK298.out 0; have hfz59_1 := blk_frozen BK298.out 1; have p299 : 0 ≤ (x5_2 : Int) := oa; have q299 : x5_2 < (l0.length : Int) := oa; obtain ⟨ad299, e299, hx299_0, hx299_1⟩ := at_T33 HR0.out x5_2 p299 q299; obtain rfl : ad295 = ad299 := (by injection e299); have hn299_0 : ad295.block ≠ gb298 := Nat.ne_of_lt (cl hx299_0 GW298.out); have hn299_1 : ad295.block ≠ gb298 := Nat.ne_of_lt (cl hx299_0 GW298.out); replace hx299_0 := (HB.out.cell (World.block_lt_of_cell? w _ hx299_0)).trans hx299_0; replace hx299_1 := (HB.out.cell (World.block_lt_of_cell? w _ hx299_1)).trans hx299_1; replace hx299_0 := (cell_far (p := ⟨gb298, 0, none⟩) (nb hn299_0) (.int .i64 ((rd_T33 l0 (ji10)).f0))).trans hx299_0; replace hx299_1 := (cell_far (p := ⟨gb298, 0, none⟩) (nb hn299_0) (.int .i64 ((rd_T33 l0 (ji10)).f0))).trans hx299_1; replace hx299_0 := (cell_far (p := ⟨gb298, 1, none⟩) (nb hn299_1) (.int .i64 ((rd_T33 l0 (ji10)).f1))).trans hx299_0; replace hx299_1 := (cell_far (p := ⟨gb298, 1, none⟩) (nb hn299_1) (.int .i64 ((rd_T33 l0 (ji10)).f1))).trans hx299_1; clear hn299_0; clear hn299_1; replace p299 := eq_true p299; replace q299 := eq_true q299) | ((with_reducible refine gate_dst (N := 8) rfl ?_); refine bx_ 8 (cs := #[.int .i64 0, .int .i64 0]) (t := 33) ?_; intro gb300 hg w60 hbox hb; have n0_ := Aside0.mk (blk_below (bf BK296.out) hb); have n1_ := Aside0.mk (blk_below (bp BK298.out) hb); have n2_ := Aside0.mk (below_step (lb HB.out) hb); have n3_ := Aside0.mk (hbox); have n4_ := Aside0.mk ((by rw [hg]; exact (below_size (lb HB.out)) : w.heap.size ≤ gb300)); have n5_ := Aside0.mk ((by rw [hg]; exact (below_size (lb HB.out)) : w.heap.size ≤ gb300)); have n6_ := Aside0.mk ((by rw [hg]; exact Nat.ne_of_lt (blk_lt (bf BK296.out)) : gb296 ≠ gb300)); have n7_ := Aside0.mk ((by rw [hg]; exact Nat.ne_of_gt (blk_lt (bf BK296.out)) : gb300 ≠ gb296)); have n8_ := Aside0.mk ((by rw [hg]; exact Nat.ne_of_lt (blk_lt (bp BK298.out)) : gb298 ≠ gb300)); have n9_ := Aside0.mk ((by rw [hg]; exact Nat.ne_of_gt (blk_lt (bp BK298.out)) : gb300 ≠ gb298)); clear BK296; clear BK298; clear HB; have BK296 := n0_; have BK298 := n1_; have HB := n2_; have BK300 := n3_; have GW300 := n4_; have GE300 := n5_; have NB296_300 := n6_; have NB300_296 := n7_; have NB298_300 := n8_; have NB300_298 := n9_; clear n0_ n1_ n2_ n3_ n4_ n5_ n6_ n7_ n8_ n9_; clear hb hbox hg; have hnb61 := NB300_296.out; have hnc61 := NB296_300.out; have hnb62 := NB300_298.out; have hnc62 := NB298_300.out; have hcz63_0 : w60.cell? ⟨gb300, 0, none⟩ = some (.int .i64 0) := (blk_cell BK300.out 0).trans rfl; have hcz63_1 : w60.cell? ⟨gb300, 1, none⟩ = some (.int .i64 0) := (blk_cell BK300.out 1).trans rfl; have hfz63_0 := blk_frozen BK300.out 0; have hfz63_1 := blk_frozen BK300.out 1; have p301 : 0 ≤ ((ji15) : Int) := oa; have q301 : (ji15) < (l0.length : Int) := oa; obtain ⟨ad301, e301, hx301_0, hx301_1⟩ := at_T33 HR0.out (ji15) p301 q301; obtain rfl : ad295 = ad301 := (by injection e301); have hn301_0 : ad295.block ≠ gb300 := Nat.ne_of_lt (cl hx301_0 GW300.out); have hn301_1 : ad295.block ≠ gb300 := Nat.ne_of_lt (cl hx301_0 GW300.out); replace hx301_0 := (HB.out.cell (World.block_lt_of_cell? w _ hx301_0)).trans hx301_0; replace hx301_1 := (HB.out.cell (World.block_lt_of_cell? w _ hx301_1)).trans hx301_1; replace hx301_0 := (cell_far (p := ⟨gb300, 0, none⟩) (nb hn301_0) (.int .i64 ((rd_T33 l0 x5_2).f0))).trans hx301_0; replace hx301_1 := (cell_far (p := ⟨gb300, 0, none⟩) (nb hn301_0) (.int .i64 ((rd_T33 l0 x5_2).f0))).trans hx301_1; replace hx301_0 := (cell_far (p := ⟨gb300, 1, none⟩) (nb hn301_1) (.int .i64 ((rd_T33 l0 x5_2).f1))).trans hx301_0; replace hx301_1 := (cell_far (p := ⟨gb300, 1, none⟩) (nb hn301_1) (.int .i64 ((rd_T33 l0 x5_2).f1))).trans hx301_1; clear hn301_0; clear hn301_1; replace p301 := eq_true p301; replace q301 := eq_true q301) | ((with_reducible refine gate_dst (N := 9) rfl ?_); refine bx_ 9 (cs := #[.int .i64 0, .int .i64 0]) (t := 33) ?_; intro gb302 hg w64 hbox hb; have n0_ := Aside0.mk (blk_below (bf BK296.out) hb); have n1_ := Aside0.mk (blk_below (bf BK298.out) hb); have n2_ := Aside0.mk (blk_below (bp BK300.out) hb); have n3_ := Aside0.mk (below_step (lb HB.out) hb); have n4_ := Aside0.mk (hbox); have n5_ := Aside0.mk ((by rw [hg]; exact (below_size (lb HB.out)) : w.heap.size ≤ gb302)); have n6_ := Aside0.mk ((by rw [hg]; exact (below_size (lb HB.out)) : w.heap.size ≤ gb302)); have n7_ := Aside0.mk ((by rw [hg]; exact Nat.ne_of_lt (blk_lt (bf BK296.out)) : gb296 ≠ gb302)); have n8_ := Aside0.mk ((by rw [hg]; exact Nat.ne_of_gt (blk_lt (bf BK296.out)) : gb302 ≠ gb296)); have n9_ := Aside0.mk ((by rw [hg]; exact Nat.ne_of_lt (blk_lt (bf BK298.out)) : gb298 ≠ gb302)); have n10_ := Aside0.mk ((by rw [hg]; exact Nat.ne_of_gt (blk_lt (bf BK298.out)) : gb302 ≠ gb298)); have n11_ := Aside0.mk ((by rw [hg]; exact Nat.ne_of_lt (blk_lt (bp BK300.out)) : gb300 ≠ gb302)); have n12_ := Aside0.mk ((by rw [hg]; exact Nat.ne_of_gt (blk_lt (bp BK300.out)) : gb302 ≠ gb300)); clear BK296; clear BK298; clear BK300; clear HB; have BK296 := n0_; have BK298 := n1_; have BK300 := n2_; have HB := n3_; have BK302 := n4_; have GW302 := n5_; have GE302 := n6_; have NB296_302 := n7_; have NB302_296 := n8_; have NB298_302 := n9_; have NB302_298 := n10_; have NB300_302 := n11_; have NB302_300 := n12_; clear n0_ n1_ n2_ n3_ n4_ n5_ n6_ n7_ n8_ n9_ n10_ n11_ n12_; clear hb hbox hg; have hnb65 := NB302_296.out; have hnc65 := NB296_302.out; have hnb66 := NB302_298.out; have hnc66 := NB298_302.out; have hnb67 := NB302_300.out; have hnc67 := NB300_302.out; have hcz68_0 : w64.cell? ⟨gb302, 0, none⟩ = some (.int .i64 0) := (blk_cell BK302.out 0).trans rfl; have hcz68_1 : w64.cell? ⟨gb302, 1, none⟩ = some (.int .i64 0) := (blk_cell BK302.out 1).trans rfl; have hfz68_0 := blk_frozen BK302.out 0; have hfz68_1 := blk_frozen BK302.out 1; have hcz69_0 : w64.cell? ⟨gb300, 0, none⟩ = some (.int .i64 ((rd_T33 l0 x5_2).f0)) := (blk_cell BK300.out 0).trans rfl; have hcz69_1 : w64.cell? ⟨gb300, 1, none⟩ = some (.int .i64 ((rd_T33 l0 x5_2).f1)) := (blk_cell BK300.out 1).trans rfl; have hfz69_0 := blk_frozen BK300.out 0; have hfz69_1 := blk_frozen BK300.out 1; have hcz70_0 : w64.cell? ⟨gb296, 0, none⟩ = some (.int .i64 ((rd_T33 l0 x4_1).f0)) := (blk_cell BK296.out 0).trans rfl; have hcz70_1 : w64.cell? ⟨gb296, 1, none⟩ = some (.int .i64 ((rd_T33 l0 x4_1).f1)) := (blk_cell BK296.out 1).trans rfl; have hfz70_0 := blk_frozen BK296.out 0; have hfz70_1 := blk_frozen BK296.out 1; have hcz71_0 : w64.cell? ⟨gb298, 0, none⟩ = some (.int .i64 ((rd_T33 l0 (ji10)).f0)) := (blk_cell BK298.out 0).trans rfl; have hcz71_1 : w64.cell? ⟨gb298, 1, none⟩ = some (.int .i64 ((rd_T33 l0 (ji10)).f1)) := (blk_cell BK298.out 1).trans rfl; have hfz71_0 := blk_frozen BK298.out 0; have hfz71_1 := blk_frozen BK298.out 1) | (go_at_call 87; (with_reducible refine (spec_l2On.calls ((rd_T33 l0 x4_1).f0) ((rd_T33 l0 x4_1).f1) ((rd_T33 l0 (ji10)).f0) ((rd_T33 l0 (ji10)).f1) ((rd_T33 l0 (ji15)).f0) ((rd_T33 l0 (ji15)).f1) true _ A53.out).mono ?_); rintro e w72 ⟨rfl, hb⟩; have n0_ := Aside0.mk (blk_below (bf BK296.out) hb); have n1_ := Aside0.mk (blk_below (bf BK298.out) hb); have n2_ := Aside0.mk (blk_below (bf BK300.out) hb); have n3_ := Aside0.mk (blk_below (bp BK302.out) hb); have n4_ := Aside0.mk (below_step (lb HB.out) hb); clear BK296; clear BK298; clear BK300; clear BK302; clear HB; have BK296 := n0_; have BK298 := n1_; have BK300 := n2_; have BK302 := n3_; have HB := n4_; clear n0_ n1_ n2_ n3_ n4_; (try clear hb); (try clear hb2); (try clear hk); (try clear hi)))
                     go_ret
                     exact ⟨by first | rfl | (simp [errW_none, errW_some] <;> rfl) | (simp only [← hji10, ← hji15]; first | rfl | (simp [errW_none, errW_some] <;> rfl)) | (simp [*, errW_none, errW_some] <;> rfl), lb HB.out⟩
                    ·replace c54 := Bool.eq_false_iff.mpr c54
                     subst c54
                     have H1 : ((spec_l2On.f ((rd_T33 l0 x5_2).f0) ((rd_T33 l0 x5_2).f1) ((rd_T33 l0 (ji15)).f0) ((rd_T33 l0 (ji15)).f1) ((rd_T33 l0 x4_1).f0) ((rd_T33 l0 x4_1).f1)).bind fun t304 => (if t304 = true then (some false) else (spec_PolyValid.l1 k2 l0 (l0.length : Int) x4_1 (wrap64 (x5_2 + 1))))) = some r := by rw [if_neg (show ¬ (false = true) by decide)] at H; exact H
                     clear H
                     have H := H1
                     clear H1
                     replace H := Option.bind_eq_some_iff.mp H
                     obtain ⟨t304, A730, H⟩ := H
                     replace H : (if t304 = true then (some false) else (spec_PolyValid.l1 k2 l0 (l0.length : Int) x4_1 (wrap64 (x5_2 + 1)))) = some r := H
                     have A73 := Aside0.mk A730
                     clear A730
                     by_cases c74 : t304 = true
                     ·subst c74
                      have H1 : (some false) = some r := by rw [if_pos rfl] at H; exact H
                      clear H
                      have H := H1
                      clear H1
                      obtain rfl := Option.some.inj H
                      have p295 : 0 ≤ (x4_1 : Int) := oa
                      have q295 : x4_1 < (l0.length : Int) := oa
                      obtain ⟨ad295, e295, hx295_0, hx295_1⟩ := at_T33 HR0.out x4_1 p295 q295
                      cases e295
                      replace hx295_0 := (HB.out.cell (World.block_lt_of_cell? w _ hx295_0)).trans hx295_0
                      replace hx295_1 := (HB.out.cell (World.block_lt_of_cell? w _ hx295_1)).trans hx295_1
                      replace p295 := eq_true p295
                      replace q295 := eq_true q295
                      go_wp2_with (first | ((with_reducible refine gate_dst (N := 6) rfl ?_); refine bx_ 6 (cs := #[.int .i64 0, .int .i64 0]) (t := 33) ?_; intro gb296 hg w75 hbox hb; have n0_ := Aside0.mk (below_step (lb HB.out) hb); have n1_ := Aside0.mk (hbox); have n2_ := Aside0.mk ((by rw [hg]; exact (below_size (lb HB.out)) : w.heap.size ≤ gb296)); have n3_ := Aside0.mk ((by rw [hg]; exact (below_size (lb HB.out)) : w.heap.size ≤ gb296)); clear HB; have HB := n0_; have BK296 := n1_; have GW296 := n2_; have GE296 := n3_; clear n0_ n1_ n2_ n3_; clear hb hbox hg; have hcz76_0 : w75.cell? ⟨gb296, 0, none⟩ = some (.int .i64 0) := (blk_cell BK296.out 0).trans rfl; have hcz76_1 : w75.cell? ⟨gb296, 1, none⟩ = some (.int .i64 0) := (blk_cell BK296.out 1).trans rfl; have hfz76_0 := blk_frozen BK296.out 0; have hfz76_1 := blk_frozen BK296.out 1; have p297 : 0 ≤ ((ji10) : Int) := oa; have q297 : (ji10) < (l0.length : Int) := oa; obtain ⟨ad297, e297, hx297_0, hx297_1⟩ := at_T33 HR0.out (ji10) p297 q297; obtain rfl : ad295 = ad297 := (by injection e297); have hn297_0 : ad295.block ≠ gb296 := Nat.ne_of_lt (cl hx297_0 GW296.out); have hn297_1 : ad295.block ≠ gb296 := Nat.ne_of_lt (cl hx297_0 GW296.out); replace hx297_0 := (HB.out.cell (World.block_lt_of_cell? w _ hx297_0)).trans hx297_0; replace hx297_1 := (HB.out.cell (World.block_lt_of_cell? w _ hx297_1)).trans hx297_1; replace hx297_0 := (cell_far (p := ⟨gb296, 0, none⟩) (nb hn297_0) (.int .i64 ((rd_T33 l0 x4_1).f0))).trans hx297_0; replace hx297_1 := (cell_far (p := ⟨gb296, 0, none⟩) (nb hn297_0) (.int .i64 ((rd_T33 l0 x4_1).f0))).trans hx297_1; replace hx297_0 := (cell_far (p := ⟨gb296, 1, none⟩) (nb hn297_1) (.int .i64 ((rd_T33 l0 x4_1).f1))).trans hx297_0; replace hx297_1 := (cell_far (p := ⟨gb296, 1, none⟩) (nb hn297_1) (.int .i64 ((rd_T33 l0 x4_1).f1))).trans hx297_1; clear hn297_0; clear hn297_1; replace p297 := eq_true p297; replace q297 := eq_true q297) | ((with_reducible refine gate_dst (N := 7) rfl ?_); refine bx_ 7 (cs := #[.int .i64 0, .int .i64 0]) (t := 33) ?_; intro gb298 hg w77 hbox hb; have n0_ := Aside0.mk (blk_below (bp BK296.out) hb); have n1_ := Aside0.mk (below_step (lb HB.out) hb); have n2_ := Aside0.mk (hbox); have n3_ := Aside0.mk ((by rw [hg]; exact (below_size (lb HB.out)) : w.heap.size ≤ gb298)); have n4_ := Aside0.mk ((by rw [hg]; exact (below_size (lb HB.out)) : w.heap.size ≤ gb298)); have n5_ := Aside0.mk ((by rw [hg]; exact Nat.ne_of_lt (blk_lt (bp BK296.out)) : gb296 ≠ gb298)); have n6_ := Aside0.mk ((by rw [hg]; exact Nat.ne_of_gt (blk_lt (bp BK296.out)) : gb298 ≠ gb296)); clear BK296; clear HB; have BK296 := n0_; have HB := n1_; have BK298 := n2_; have GW298 := n3_; have GE298 := n4_; have NB296_298 := n5_; have NB298_296 := n6_; clear n0_ n1_ n2_ n3_ n4_ n5_ n6_; clear hb hbox hg; have hnb78 := NB298_296.out; have hnc78 := NB296_298.out; have hcz79_0 : w77.cell? ⟨gb298, 0, none⟩ = some (.int .i64 0) := (blk_cell BK298.out 0).trans rfl; have hcz79_1 : w77.cell? ⟨gb298, 1, none⟩ = some (.int .i64 0) := (blk_cell BK298.out 1).trans rfl; have hfz79_0 := blk_frozen BK298.out 0; have hfz79_1 := blk_frozen BK298.out 1; have p299 : 0 ≤ (x5_2 : Int) := oa; have q299 : x5_2 < (l0.length : Int) := oa; obtain ⟨ad299, e299, hx299_0, hx299_1⟩ := at_T33 HR0.out x5_2 p299 q299; obtain rfl : ad295 = ad299 := (by injection e299); have hn299_0 : ad295.block ≠ gb298 := Nat.ne_of_lt (cl hx299_0 GW298.out); have hn299_1 : ad295.block ≠ gb298 := Nat.ne_of_lt (cl hx299_0 GW298.out); replace hx299_0 := (HB.out.cell (World.block_lt_of_cell? w _ hx299_0)).trans hx299_0; replace hx299_1 := (HB.out.cell (World.block_lt_of_cell? w _ hx299_1)).trans hx299_1; replace hx299_0 := (cell_far (p := ⟨gb298, 0, none⟩) (nb hn299_0) (.int .i64 ((rd_T33 l0 (ji10)).f0))).trans hx299_0; replace hx299_1 := (cell_far (p := ⟨gb298, 0, none⟩) (nb hn299_0) (.int .i64 ((rd_T33 l0 (ji10)).f0))).trans hx299_1; replace hx299_0 := (cell_far (p := ⟨gb298, 1, none⟩) (nb hn299_1) (.int .i64 ((rd_T33 l0 (ji10)).f1))).trans hx299_0; replace hx299_1 := (cell_far (p := ⟨gb298, 1, none⟩) (nb hn299_1) (.int .i64 ((rd_T33 l0 (ji10)).f1))).trans hx299_1; clear hn299_0; clear hn299_1; replace p299 := eq_true p299; replace q299 := eq_true q299) | ((with_reducible refine gate_dst (N := 8) rfl ?_); refine bx_ 8 (cs := #[.int .i64 0, .int .i64 0]) (t := 33) ?_; intro gb300 hg w80 hbox hb; have n0_ := Aside0.mk (blk_below (bf BK296.out) hb); have n1_ := Aside0.mk (blk_below (bp BK298.out) hb); have n2_ := Aside0.mk (below_step (lb HB.out) hb); have n3_ := Aside0.mk (hbox); have n4_ := Aside0.mk ((by rw [hg]; exact (below_size (lb HB.out)) : w.heap.size ≤ gb300)); have n5_ := Aside0.mk ((by rw [hg]; exact (below_size (lb HB.out)) : w.heap.size ≤ gb300)); have n6_ := Aside0.mk ((by rw [hg]; exact Nat.ne_of_lt (blk_lt (bf BK296.out)) : gb296 ≠ gb300)); have n7_ := Aside0.mk ((by rw [hg]; exact Nat.ne_of_gt (blk_lt (bf BK296.out)) : gb300 ≠ gb296)); have n8_ := Aside0.mk ((by rw [hg]; exact Nat.ne_of_lt (blk_lt (bp BK298.out)) : gb298 ≠ gb300)); have n9_ := Aside0.mk ((by rw [hg]; exact Nat.ne_of_gt (blk_lt (bp BK298.out)) : gb300 ≠ gb298)); clear BK296; clear BK298; clear HB; have BK296 := n0_; have BK298 := n1_; have HB := n2_; have BK300 := n3_; have GW300 := n4_; have GE300 := n5_; have NB296_300 := n6_; have NB300_296 := n7_; have NB298_300 := n8_; have NB300_298 := n9_; clear n0_ n1_ n2_ n3_ n4_ n5_ n6_ n7_ n8_ n9_; clear hb hbox hg; have hnb81 := NB300_296.out; have hnc81 := NB296_300.out; have hnb82 := NB300_298.out; have hnc82 := NB298_300.out; have hcz83_0 : w80.cell? ⟨gb300, 0, none⟩ = some (.int .i64 0) := (blk_cell BK300.out 0).trans rfl; have hcz83_1 : w80.cell? ⟨gb300, 1, none⟩ = some (.int .i64 0) := (blk_cell BK300.out 1).trans rfl; have hfz83_0 := blk_frozen BK300.out 0; have hfz83_1 := blk_frozen BK300.out 1; have p301 : 0 ≤ ((ji15) : Int) := oa; have q301 : (ji15) < (l0.length : Int) := oa; obtain ⟨ad301, e301, hx301_0, hx301_1⟩ := at_T33 HR0.out (ji15) p301 q301; obtain rfl : ad295 = ad301 := (by injection e301); have hn301_0 : ad295.block ≠ gb300 := Nat.ne_of_lt (cl hx301_0 GW300.out); have hn301_1 : ad295.block ≠ gb300 := Nat.ne_of_lt (cl hx301_0 GW300.out); replace hx301_0 := (HB.out.cell (World.block_lt_of_cell? w _ hx301_0)).trans hx301_0; replace hx301_1 := (HB.out.cell (World.block_lt_of_cell? w _ hx301_1)).trans hx301_1; replace hx301_0 := (cell_far (p := ⟨gb300, 0, none⟩) (nb hn301_0) (.int .i64 ((rd_T33 l0 x5_2).f0))).trans hx301_0; replace hx301_1 := (cell_far (p := ⟨gb300, 0, none⟩) (nb hn301_0) (.int .i64 ((rd_T33 l0 x5_2).f0))).trans hx301_1; replace hx301_0 := (cell_far (p := ⟨gb300, 1, none⟩) (nb hn301_1) (.int .i64 ((rd_T33 l0 x5_2).f1))).trans hx301_0; replace hx301_1 := (cell_far (p := ⟨gb300, 1, none⟩) (nb hn301_1) (.int .i64 ((rd_T33 l0 x5_2).f1))).trans hx301_1; clear hn301_0; clear hn301_1; replace p301 := eq_true p301; replace q301 := eq_true q301) | ((with_reducible refine gate_dst (N := 9) rfl ?_); refine bx_ 9 (cs := #[.int .i64 0, .int .i64 0]) (t := 33) ?_; intro gb302 hg w84 hbox hb; have n0_ := Aside0.mk (blk_below (bf BK296.out) hb); have n1_ := Aside0.mk (blk_below (bf BK298.out) hb); have n2_ := Aside0.mk (blk_below (bp BK300.out) hb); have n3_ := Aside0.mk (below_step (lb HB.out) hb); have n4_ := Aside0.mk (hbox); have n5_ := Aside0.mk ((by rw [hg]; exact (below_size (lb HB.out)) : w.heap.size ≤ gb302)); have n6_ := Aside0.mk ((by rw [hg]; exact (below_size (lb HB.out)) : w.heap.size ≤ gb302)); have n7_ := Aside0.mk ((by rw [hg]; exact Nat.ne_of_lt (blk_lt (bf BK296.out)) : gb296 ≠ gb302)); have n8_ := Aside0.mk ((by rw [hg]; exact Nat.ne_of_gt (blk_lt (bf BK296.out)) : gb302 ≠ gb296)); have n9_ := Aside0.mk ((by rw [hg]; exact Nat.ne_of_lt (blk_lt (bf BK298.out)) : gb298 ≠ gb302)); have n10_ := Aside0.mk ((by rw [hg]; exact Nat.ne_of_gt (blk_lt (bf BK298.out)) : gb302 ≠ gb298)); have n11_ := Aside0.mk ((by rw [hg]; exact Nat.ne_of_lt (blk_lt (bp BK300.out)) : gb300 ≠ gb302)); have n12_ := Aside0.mk ((by rw [hg]; exact Nat.ne_of_gt (blk_lt (bp BK300.out)) : gb302 ≠ gb300)); clear BK296; clear BK298; clear BK300; clear HB; have BK296 := n0_; have BK298 := n1_; have BK300 := n2_; have HB := n3_; have BK302 := n4_; have GW302 := n5_; have GE302 := n6_; have NB296_302 := n7_; have NB302_296 := n8_; have NB298_302 := n9_; have NB302_298 := n10_; have NB300_302 := n11_; have NB302_300 := n12_; clear n0_ n1_ n2_ n3_ n4_ n5_ n6_ n7_ n8_ n9_ n10_ n11_ n12_; clear hb hbox hg; have hnb85 := NB302_296.out; have hnc85 := NB296_302.out; have hnb86 := NB302_298.out; have hnc86 := NB298_302.out; have hnb87 := NB302_300.out; have hnc87 := NB300_302.out; have hcz88_0 : w84.cell? ⟨gb302, 0, none⟩ = some (.int .i64 0) := (blk_cell BK302.out 0).trans rfl; have hcz88_1 : w84.cell? ⟨gb302, 1, none⟩ = some (.int .i64 0) := (blk_cell BK302.out 1).trans rfl; have hfz88_0 := blk_frozen BK302.out 0; have hfz88_1 := blk_frozen BK302.out 1; have hcz89_0 : w84.cell? ⟨gb300, 0, none⟩ = some (.int .i64 ((rd_T33 l0 x5_2).f0)) := (blk_cell BK300.out 0).trans rfl; have hcz89_1 : w84.cell? ⟨gb300, 1, none⟩ = some (.int .i64 ((rd_T33 l0 x5_2).f1)) := (blk_cell BK300.out 1).trans rfl; have hfz89_0 := blk_frozen BK300.out 0; have hfz89_1 := blk_frozen BK300.out 1; have hcz90_0 : w84.cell? ⟨gb296, 0, none⟩ = some (.int .i64 ((rd_T33 l0 x4_1).f0)) := (blk_cell BK296.out 0).trans rfl; have hcz90_1 : w84.cell? ⟨gb296, 1, none⟩ = some (.int .i64 ((rd_T33 l0 x4_1).f1)) := (blk_cell BK296.out 1).trans rfl; have hfz90_0 := blk_frozen BK296.out 0; have hfz90_1 := blk_frozen BK296.out 1; have hcz91_0 : w84.cell? ⟨gb298, 0, none⟩ = some (.int .i64 ((rd_T33 l0 (ji10)).f0)) := (blk_cell BK298.out 0).trans rfl; have hcz91_1 : w84.cell? ⟨gb298, 1, none⟩ = some (.int .i64 ((rd_T33 l0 (ji10)).f1)) := (blk_cell BK298.out 1).trans rfl; have hfz91_0 := blk_frozen BK298.out 0; have hfz91_1 := blk_frozen BK298.out 1) | (go_at_call 87; (with_reducible refine (spec_l2On.calls ((rd_T33 l0 x4_1).f0) ((rd_T33 l0 x4_1).f1) ((rd_T33 l0 (ji10)).f0) ((rd_T33 l0 (ji10)).f1) ((rd_T33 l0 (ji15)).f0) ((rd_T33 l0 (ji15)).f1) false _ A53.out).mono ?_); rintro e w92 ⟨rfl, hb⟩; have n0_ := Aside0.mk (blk_below (bf BK296.out) hb); have n1_ := Aside0.mk (blk_below (bf BK298.out) hb); have n2_ := Aside0.mk (blk_below (bf BK300.out) hb); have n3_ := Aside0.mk (blk_below (bp BK302.out) hb); have n4_ := Aside0.mk (below_step (lb HB.out) hb); clear BK296; clear BK298; clear BK300; clear BK302; clear HB; have BK296 := n0_; have BK298 := n1_; have BK300 := n2_; have BK302 := n3_; have HB := n4_; clear n0_ n1_ n2_ n3_ n4_; (try clear hb); (try clear hb2); (try clear hk); (try clear hi); have hcz93_0 : w92.cell? ⟨gb300, 0, none⟩ = some (.int .i64 ((rd_T33 l0 x5_2).f0)) := (blk_cell BK300.out 0).trans rfl; have hcz93_1 : w92.cell? ⟨gb300, 1, none⟩ = some (.int .i64 ((rd_T33 l0 x5_2).f1)) := (blk_cell BK300.out 1).trans rfl; have hfz93_0 := blk_frozen BK300.out 0; have hfz93_1 := blk_frozen BK300.out 1; have hcz94_0 : w92.cell? ⟨gb302, 0, none⟩ = some (.int .i64 ((rd_T33 l0 (ji15)).f0)) := (blk_cell BK302.out 0).trans rfl; have hcz94_1 : w92.cell? ⟨gb302, 1, none⟩ = some (.int .i64 ((rd_T33 l0 (ji15)).f1)) := (blk_cell BK302.out 1).trans rfl; have hfz94_0 := blk_frozen BK302.out 0; have hfz94_1 := blk_frozen BK302.out 1; have hcz95_0 : w92.cell? ⟨gb296, 0, none⟩ = some (.int .i64 ((rd_T33 l0 x4_1).f0)) := (blk_cell BK296.out 0).trans rfl; have hcz95_1 : w92.cell? ⟨gb296, 1, none⟩ = some (.int .i64 ((rd_T33 l0 x4_1).f1)) := (blk_cell BK296.out 1).trans rfl; have hfz95_0 := blk_frozen BK296.out 0; have hfz95_1 := blk_frozen BK296.out 1) | (go_at_call 87; (with_reducible refine (spec_l2On.calls ((rd_T33 l0 x5_2).f0) ((rd_T33 l0 x5_2).f1) ((rd_T33 l0 (ji15)).f0) ((rd_T33 l0 (ji15)).f1) ((rd_T33 l0 x4_1).f0) ((rd_T33 l0 x4_1).f1) true _ A73.out).mono ?_); rintro e w96 ⟨rfl, hb⟩; have n0_ := Aside0.mk (blk_below (bf BK296.out) hb); have n1_ := Aside0.mk (blk_below (bf BK298.out) hb); have n2_ := Aside0.mk (blk_below (bf BK300.out) hb); have n3_ := Aside0.mk (blk_below (bf BK302.out) hb); have n4_ := Aside0.mk (below_step (lb HB.out) hb); clear BK296; clear BK298; clear BK300; clear BK302; clear HB; have BK296 := n0_; have BK298 := n1_; have BK300 := n2_; have BK302 := n3_; have HB := n4_; clear n0_ n1_ n2_ n3_ n4_; (try clear hb); (try clear hb2); (try clear hk); (try clear hi)))
                      go_ret
                      exact ⟨by first | rfl | (simp [errW_none, errW_some] <;> rfl) | (simp only [← hji10, ← hji15]; first | rfl | (simp [errW_none, errW_some] <;> rfl)) | (simp [*, errW_none, errW_some] <;> rfl), lb HB.out⟩
                     ·replace c74 := Bool.eq_false_iff.mpr c74
                      subst c74
                      have H1 : (spec_PolyValid.l1 k2 l0 (l0.length : Int) x4_1 (wrap64 (x5_2 + 1))) = some r := by rw [if_neg (show ¬ (false = true) by decide)] at H; exact H
                      clear H
                      have H := H1
                      clear H1
                      have H' := Aside0.mk H
                      clear H
                      have p295 : 0 ≤ (x4_1 : Int) := oa
                      have q295 : x4_1 < (l0.length : Int) := oa
                      obtain ⟨ad295, e295, hx295_0, hx295_1⟩ := at_T33 HR0.out x4_1 p295 q295
                      cases e295
                      replace hx295_0 := (HB.out.cell (World.block_lt_of_cell? w _ hx295_0)).trans hx295_0
                      replace hx295_1 := (HB.out.cell (World.block_lt_of_cell? w _ hx295_1)).trans hx295_1
                      replace p295 := eq_true p295
                      replace q295 := eq_true q295
                      go_wp2_with (first | ((with_reducible refine gate_dst (N := 6) rfl ?_); refine bx_ 6 (cs := #[.int .i64 0, .int .i64 0]) (t := 33) ?_; intro gb296 hg w97 hbox hb; have n0_ := Aside0.mk (below_step (lb HB.out) hb); have n1_ := Aside0.mk (hbox); have n2_ := Aside0.mk ((by rw [hg]; exact (below_size (lb HB.out)) : w.heap.size ≤ gb296)); have n3_ := Aside0.mk ((by rw [hg]; exact (below_size (lb HB.out)) : w.heap.size ≤ gb296)); clear HB; have HB := n0_; have BK296 := n1_; have GW296 := n2_; have GE296 := n3_; clear n0_ n1_ n2_ n3_; clear hb hbox hg; have hcz98_0 : w97.cell? ⟨gb296, 0, none⟩ = some (.int .i64 0) := (blk_cell BK296.out 0).trans rfl; have hcz98_1 : w97.cell? ⟨gb296, 1, none⟩ = some (.int .i64 0) := (blk_cell BK296.out 1).trans rfl; have hfz98_0 := blk_frozen BK296.out 0; have hfz98_1 := blk_frozen BK296.out 1; have p297 : 0 ≤ ((ji10) : Int) := oa; have q297 : (ji10) < (l0.length : Int) := oa; obtain ⟨ad297, e297, hx297_0, hx297_1⟩ := at_T33 HR0.out (ji10) p297 q297; obtain rfl : ad295 = ad297 := (by injection e297); have hn297_0 : ad295.block ≠ gb296 := Nat.ne_of_lt (cl hx297_0 GW296.out); have hn297_1 : ad295.block ≠ gb296 := Nat.ne_of_lt (cl hx297_0 GW296.out); replace hx297_0 := (HB.out.cell (World.block_lt_of_cell? w _ hx297_0)).trans hx297_0; replace hx297_1 := (HB.out.cell (World.block_lt_of_cell? w _ hx297_1)).trans hx297_1; replace hx297_0 := (cell_far (p := ⟨gb296, 0, none⟩) (nb hn297_0) (.int .i64 ((rd_T33 l0 x4_1).f0))).trans hx297_0; replace hx297_1 := (cell_far (p := ⟨gb296, 0, none⟩) (nb hn297_0) (.int .i64 ((rd_T33 l0 x4_1).f0))).trans hx297_1; replace hx297_0 := (cell_far (p := ⟨gb296, 1, none⟩) (nb hn297_1) (.int .i64 ((rd_T33 l0 x4_1).f1))).trans hx297_0; replace hx297_1 := (cell_far (p := ⟨gb296, 1, none⟩) (nb hn297_1) (.int .i64 ((rd_T33 l0 x4_1).f1))).trans hx297_1; clear hn297_0; clear hn297_1; replace p297 := eq_true p297; replace q297 := eq_true q297) | ((with_reducible refine gate_dst (N := 7) rfl ?_); refine bx_ 7 (cs := #[.int .i64 0, .int .i64 0]) (t := 33) ?_; intro gb298 hg w99 hbox hb; have n0_ := Aside0.mk (blk_below (bp BK296.out) hb); have n1_ := Aside0.mk (below_step (lb HB.out) hb); have n2_ := Aside0.mk (hbox); have n3_ := Aside0.mk ((by rw [hg]; exact (below_size (lb HB.out)) : w.heap.size ≤ gb298)); have n4_ := Aside0.mk ((by rw [hg]; exact (below_size (lb HB.out)) : w.heap.size ≤ gb298)); have n5_ := Aside0.mk ((by rw [hg]; exact Nat.ne_of_lt (blk_lt (bp BK296.out)) : gb296 ≠ gb298)); have n6_ := Aside0.mk ((by rw [hg]; exact Nat.ne_of_gt (blk_lt (bp BK296.out)) : gb298 ≠ gb296)); clear BK296; clear HB; have BK296 := n0_; have HB := n1_; have BK298 := n2_; have GW298 := n3_; have GE298 := n4_; have NB296_298 := n5_; have NB298_296 := n6_; clear n0_ n1_ n2_ n3_ n4_ n5_ n6_; clear hb hbox hg; have hnb100 := NB298_296.out; have hnc100 := NB296_298.out; have hcz101_0 : w99.cell? ⟨gb298, 0, none⟩ = some (.int .i64 0) := (blk_cell BK298.out 0).trans rfl; have hcz101_1 : w99.cell? ⟨gb298, 1, none⟩ = some (.int .i64 0) := (blk_cell BK298.out 1).trans rfl; have hfz101_0 := blk_frozen BK298.out 0; have hfz101_1 := blk_frozen BK298.out 1; have p299 : 0 ≤ (x5_2 : Int) := oa; have q299 : x5_2 < (l0.length : Int) := oa; obtain ⟨ad299, e299, hx299_0, hx299_1⟩ := at_T33 HR0.out x5_2 p299 q299; obtain rfl : ad295 = ad299 := (by injection e299); have hn299_0 : ad295.block ≠ gb298 := Nat.ne_of_lt (cl hx299_0 GW298.out); have hn299_1 : ad295.block ≠ gb298 := Nat.ne_of_lt (cl hx299_0 GW298.out); replace hx299_0 := (HB.out.cell (World.block_lt_of_cell? w _ hx299_0)).trans hx299_0; replace hx299_1 := (HB.out.cell (World.block_lt_of_cell? w _ hx299_1)).trans hx299_1; replace hx299_0 := (cell_far (p := ⟨gb298, 0, none⟩) (nb hn299_0) (.int .i64 ((rd_T33 l0 (ji10)).f0))).trans hx299_0; replace hx299_1 := (cell_far (p := ⟨gb298, 0, none⟩) (nb hn299_0) (.int .i64 ((rd_T33 l0 (ji10)).f0))).trans hx299_1; replace hx299_0 := (cell_far (p := ⟨gb298, 1, none⟩) (nb hn299_1) (.int .i64 ((rd_T33 l0 (ji10)).f1))).trans hx299_0; replace hx299_1 := (cell_far (p := ⟨gb298, 1, none⟩) (nb hn299_1) (.int .i64 ((rd_T33 l0 (ji10)).f1))).trans hx299_1; clear hn299_0; clear hn299_1; replace p299 := eq_true p299; replace q299 := eq_true q299) | ((with_reducible refine gate_dst (N := 8) rfl ?_); refine bx_ 8 (cs := #[.int .i64 0, .int .i64 0]) (t := 33) ?_; intro gb300 hg w102 hbox hb; have n0_ := Aside0.mk (blk_below (bf BK296.out) hb); have n1_ := Aside0.mk (blk_below (bp BK298.out) hb); have n2_ := Aside0.mk (below_step (lb HB.out) hb); have n3_ := Aside0.mk (hbox); have n4_ := Aside0.mk ((by rw [hg]; exact (below_size (lb HB.out)) : w.heap.size ≤ gb300)); have n5_ := Aside0.mk ((by rw [hg]; exact (below_size (lb HB.out)) : w.heap.size ≤ gb300)); have n6_ := Aside0.mk ((by rw [hg]; exact Nat.ne_of_lt (blk_lt (bf BK296.out)) : gb296 ≠ gb300)); have n7_ := Aside0.mk ((by rw [hg]; exact Nat.ne_of_gt (blk_lt (bf BK296.out)) : gb300 ≠ gb296)); have n8_ := Aside0.mk ((by rw [hg]; exact Nat.ne_of_lt (blk_lt (bp BK298.out)) : gb298 ≠ gb300)); have n9_ := Aside0.mk ((by rw [hg]; exact Nat.ne_of_gt (blk_lt (bp BK298.out)) : gb300 ≠ gb298)); clear BK296; clear BK298; clear HB; have BK296 := n0_; have BK298 := n1_; have HB := n2_; have BK300 := n3_; have GW300 := n4_; have GE300 := n5_; have NB296_300 := n6_; have NB300_296 := n7_; have NB298_300 := n8_; have NB300_298 := n9_; clear n0_ n1_ n2_ n3_ n4_ n5_ n6_ n7_ n8_ n9_; clear hb hbox hg; have hnb103 := NB300_296.out; have hnc103 := NB296_300.out; have hnb104 := NB300_298.out; have hnc104 := NB298_300.out; have hcz105_0 : w102.cell? ⟨gb300, 0, none⟩ = some (.int .i64 0) := (blk_cell BK300.out 0).trans rfl; have hcz105_1 : w102.cell? ⟨gb300, 1, none⟩ = some (.int .i64 0) := (blk_cell BK300.out 1).trans rfl; have hfz105_0 := blk_frozen BK300.out 0; have hfz105_1 := blk_frozen BK300.out 1; have p301 : 0 ≤ ((ji15) : Int) := oa; have q301 : (ji15) < (l0.length : Int) := oa; obtain ⟨ad301, e301, hx301_0, hx301_1⟩ := at_T33 HR0.out (ji15) p301 q301; obtain rfl : ad295 = ad301 := (by injection e301); have hn301_0 : ad295.block ≠ gb300 := Nat.ne_of_lt (cl hx301_0 GW300.out); have hn301_1 : ad295.block ≠ gb300 := Nat.ne_of_lt (cl hx301_0 GW300.out); replace hx301_0 := (HB.out.cell (World.block_lt_of_cell? w _ hx301_0)).trans hx301_0; replace hx301_1 := (HB.out.cell (World.block_lt_of_cell? w _ hx301_1)).trans hx301_1; replace hx301_0 := (cell_far (p := ⟨gb300, 0, none⟩) (nb hn301_0) (.int .i64 ((rd_T33 l0 x5_2).f0))).trans hx301_0; replace hx301_1 := (cell_far (p := ⟨gb300, 0, none⟩) (nb hn301_0) (.int .i64 ((rd_T33 l0 x5_2).f0))).trans hx301_1; replace hx301_0 := (cell_far (p := ⟨gb300, 1, none⟩) (nb hn301_1) (.int .i64 ((rd_T33 l0 x5_2).f1))).trans hx301_0; replace hx301_1 := (cell_far (p := ⟨gb300, 1, none⟩) (nb hn301_1) (.int .i64 ((rd_T33 l0 x5_2).f1))).trans hx301_1; clear hn301_0; clear hn301_1; replace p301 := eq_true p301; replace q301 := eq_true q301) | ((with_reducible refine gate_dst (N := 9) rfl ?_); refine bx_ 9 (cs := #[.int .i64 0, .int .i64 0]) (t := 33) ?_; intro gb302 hg w106 hbox hb; have n0_ := Aside0.mk (blk_below (bf BK296.out) hb); have n1_ := Aside0.mk (blk_below (bf BK298.out) hb); have n2_ := Aside0.mk (blk_below (bp BK300.out) hb); have n3_ := Aside0.mk (below_step (lb HB.out) hb); have n4_ := Aside0.mk (hbox); have n5_ := Aside0.mk ((by rw [hg]; exact (below_size (lb HB.out)) : w.heap.size ≤ gb302)); have n6_ := Aside0.mk ((by rw [hg]; exact (below_size (lb HB.out)) : w.heap.size ≤ gb302)); have n7_ := Aside0.mk ((by rw [hg]; exact Nat.ne_of_lt (blk_lt (bf BK296.out)) : gb296 ≠ gb302)); have n8_ := Aside0.mk ((by rw [hg]; exact Nat.ne_of_gt (blk_lt (bf BK296.out)) : gb302 ≠ gb296)); have n9_ := Aside0.mk ((by rw [hg]; exact Nat.ne_of_lt (blk_lt (bf BK298.out)) : gb298 ≠ gb302)); have n10_ := Aside0.mk ((by rw [hg]; exact Nat.ne_of_gt (blk_lt (bf BK298.out)) : gb302 ≠ gb298)); have n11_ := Aside0.mk ((by rw [hg]; exact Nat.ne_of_lt (blk_lt (bp BK300.out)) : gb300 ≠ gb302)); have n12_ := Aside0.mk ((by rw [hg]; exact Nat.ne_of_gt (blk_lt (bp BK300.out)) : gb302 ≠ gb300)); clear BK296; clear BK298; clear BK300; clear HB; have BK296 := n0_; have BK298 := n1_; have BK300 := n2_; have HB := n3_; have BK302 := n4_; have GW302 := n5_; have GE302 := n6_; have NB296_302 := n7_; have NB302_296 := n8_; have NB298_302 := n9_; have NB302_298 := n10_; have NB300_302 := n11_; have NB302_300 := n12_; clear n0_ n1_ n2_ n3_ n4_ n5_ n6_ n7_ n8_ n9_ n10_ n11_ n12_; clear hb hbox hg; have hnb107 := NB302_296.out; have hnc107 := NB296_302.out; have hnb108 := NB302_298.out; have hnc108 := NB298_302.out; have hnb109 := NB302_300.out; have hnc109 := NB300_302.out; have hcz110_0 : w106.cell? ⟨gb302, 0, none⟩ = some (.int .i64 0) := (blk_cell BK302.out 0).trans rfl; have hcz110_1 : w106.cell? ⟨gb302, 1, none⟩ = some (.int .i64 0) := (blk_cell BK302.out 1).trans rfl; have hfz110_0 := blk_frozen BK302.out 0; have hfz110_1 := blk_frozen BK302.out 1; have hcz111_0 : w106.cell? ⟨gb300, 0, none⟩ = some (.int .i64 ((rd_T33 l0 x5_2).f0)) := (blk_cell BK300.out 0).trans rfl; have hcz111_1 : w106.cell? ⟨gb300, 1, none⟩ = some (.int .i64 ((rd_T33 l0 x5_2).f1)) := (blk_cell BK300.out 1).trans rfl; have hfz111_0 := blk_frozen BK300.out 0; have hfz111_1 := blk_frozen BK300.out 1; have hcz112_0 : w106.cell? ⟨gb296, 0, none⟩ = some (.int .i64 ((rd_T33 l0 x4_1).f0)) := (blk_cell BK296.out 0).trans rfl; have hcz112_1 : w106.cell? ⟨gb296, 1, none⟩ = some (.int .i64 ((rd_T33 l0 x4_1).f1)) := (blk_cell BK296.out 1).trans rfl; have hfz112_0 := blk_frozen BK296.out 0; have hfz112_1 := blk_frozen BK296.out 1; have hcz113_0 : w106.cell? ⟨gb298, 0, none⟩ = some (.int .i64 ((rd_T33 l0 (ji10)).f0)) := (blk_cell BK298.out 0).trans rfl; have hcz113_1 : w106.cell? ⟨gb298, 1, none⟩ = some (.int .i64 ((rd_T33 l0 (ji10)).f1)) := (blk_cell BK298.out 1).trans rfl; have hfz113_0 := blk_frozen BK298.out 0; have hfz113_1 := blk_frozen BK298.out 1) | (go_at_call 87; (with_reducible refine (spec_l2On.calls ((rd_T33 l0 x4_1).f0) ((rd_T33 l0 x4_1).f1) ((rd_T33 l0 (ji10)).f0) ((rd_T33 l0 (ji10)).f1) ((rd_T33 l0 (ji15)).f0) ((rd_T33 l0 (ji15)).f1) false _ A53.out).mono ?_); rintro e w114 ⟨rfl, hb⟩; have n0_ := Aside0.mk (blk_below (bf BK296.out) hb); have n1_ := Aside0.mk (blk_below (bf BK298.out) hb); have n2_ := Aside0.mk (blk_below (bf BK300.out) hb); have n3_ := Aside0.mk (blk_below (bp BK302.out) hb); have n4_ := Aside0.mk (below_step (lb HB.out) hb); clear BK296; clear BK298; clear BK300; clear BK302; clear HB; have BK296 := n0_; have BK298 := n1_; have BK300 := n2_; have BK302 := n3_; have HB := n4_; clear n0_ n1_ n2_ n3_ n4_; (try clear hb); (try clear hb2); (try clear hk); (try clear hi); have hcz115_0 : w114.cell? ⟨gb300, 0, none⟩ = some (.int .i64 ((rd_T33 l0 x5_2).f0)) := (blk_cell BK300.out 0).trans rfl; have hcz115_1 : w114.cell? ⟨gb300, 1, none⟩ = some (.int .i64 ((rd_T33 l0 x5_2).f1)) := (blk_cell BK300.out 1).trans rfl; have hfz115_0 := blk_frozen BK300.out 0; have hfz115_1 := blk_frozen BK300.out 1; have hcz116_0 : w114.cell? ⟨gb302, 0, none⟩ = some (.int .i64 ((rd_T33 l0 (ji15)).f0)) := (blk_cell BK302.out 0).trans rfl; have hcz116_1 : w114.cell? ⟨gb302, 1, none⟩ = some (.int .i64 ((rd_T33 l0 (ji15)).f1)) := (blk_cell BK302.out 1).trans rfl; have hfz116_0 := blk_frozen BK302.out 0; have hfz116_1 := blk_frozen BK302.out 1; have hcz117_0 : w114.cell? ⟨gb296, 0, none⟩ = some (.int .i64 ((rd_T33 l0 x4_1).f0)) := (blk_cell BK296.out 0).trans rfl; have hcz117_1 : w114.cell? ⟨gb296, 1, none⟩ = some (.int .i64 ((rd_T33 l0 x4_1).f1)) := (blk_cell BK296.out 1).trans rfl; have hfz117_0 := blk_frozen BK296.out 0; have hfz117_1 := blk_frozen BK296.out 1) | (go_at_call 87; (with_reducible refine (spec_l2On.calls ((rd_T33 l0 x5_2).f0) ((rd_T33 l0 x5_2).f1) ((rd_T33 l0 (ji15)).f0) ((rd_T33 l0 (ji15)).f1) ((rd_T33 l0 x4_1).f0) ((rd_T33 l0 x4_1).f1) false _ A73.out).mono ?_); rintro e w118 ⟨rfl, hb⟩; have n0_ := Aside0.mk (blk_below (bf BK296.out) hb); have n1_ := Aside0.mk (blk_below (bf BK298.out) hb); have n2_ := Aside0.mk (blk_below (bf BK300.out) hb); have n3_ := Aside0.mk (blk_below (bf BK302.out) hb); have n4_ := Aside0.mk (below_step (lb HB.out) hb); clear BK296; clear BK298; clear BK300; clear BK302; clear HB; have BK296 := n0_; have BK298 := n1_; have BK300 := n2_; have BK302 := n3_; have HB := n4_; clear n0_ n1_ n2_ n3_ n4_; (try clear hb); (try clear hb2); (try clear hk); (try clear hi)))
                      go_roundg k2
                      case measure => have := HK1.out; have := HK2.out; omega
                      case rel => exact ⟨(wrap64 (x5_2 + 1)), (by first | rfl | (simp; done) | (simp [*]; done)), H', ⟨by have := HK1.out; have := HK2.out; omega⟩, ⟨lb HB.out⟩⟩
                 ·rw [if_neg c18] at H
                  have c18b0 : (x5_2 == (wrap64 (x4_1 + 1))) = false := beq_eq_false_iff_ne.mpr c18
                  have c18b1 : (x5_2 != (wrap64 (x4_1 + 1))) = true := bne_iff_ne.mpr c18
                  by_cases c119 : (ji15) = x4_1
                  ·rw [if_pos c119] at H
                   have c119b0 : ((ji15) == x4_1) = true := beq_iff_eq.mpr c119
                   have c119b1 : ((ji15) != x4_1) = false := bne_eq_false_iff_eq.mpr c119
                   clear c119
                   replace H := Option.bind_eq_some_iff.mp H
                   obtain ⟨t305, A1200, H⟩ := H
                   replace H : (if t305 = true then (some false) else ((spec_l2On.f ((rd_T33 l0 x4_1).f0) ((rd_T33 l0 x4_1).f1) ((rd_T33 l0 (ji10)).f0) ((rd_T33 l0 (ji10)).f1) ((rd_T33 l0 x5_2).f0) ((rd_T33 l0 x5_2).f1)).bind fun t306 => (if t306 = true then (some false) else (spec_PolyValid.l1 k2 l0 (l0.length : Int) x4_1 (wrap64 (x5_2 + 1)))))) = some r := H
                   have A120 := Aside0.mk A1200
                   clear A1200
                   by_cases c121 : t305 = true
                   ·subst c121
                    have H1 : (some false) = some r := by rw [if_pos rfl] at H; exact H
                    clear H
                    have H := H1
                    clear H1
                    obtain rfl := Option.some.inj H
                    have p295 : 0 ≤ (x4_1 : Int) := oa
                    have q295 : x4_1 < (l0.length : Int) := oa
                    obtain ⟨ad295, e295, hx295_0, hx295_1⟩ := at_T33 HR0.out x4_1 p295 q295
                    cases e295
                    replace hx295_0 := (HB.out.cell (World.block_lt_of_cell? w _ hx295_0)).trans hx295_0
                    replace hx295_1 := (HB.out.cell (World.block_lt_of_cell? w _ hx295_1)).trans hx295_1
                    replace p295 := eq_true p295
                    replace q295 := eq_true q295
                    go_wp2_with (first | ((with_reducible refine gate_dst (N := 6) rfl ?_); refine bx_ 6 (cs := #[.int .i64 0, .int .i64 0]) (t := 33) ?_; intro gb296 hg w122 hbox hb; have n0_ := Aside0.mk (below_step (lb HB.out) hb); have n1_ := Aside0.mk (hbox); have n2_ := Aside0.mk ((by rw [hg]; exact (below_size (lb HB.out)) : w.heap.size ≤ gb296)); have n3_ := Aside0.mk ((by rw [hg]; exact (below_size (lb HB.out)) : w.heap.size ≤ gb296)); clear HB; have HB := n0_; have BK296 := n1_; have GW296 := n2_; have GE296 := n3_; clear n0_ n1_ n2_ n3_; clear hb hbox hg; have hcz123_0 : w122.cell? ⟨gb296, 0, none⟩ = some (.int .i64 0) := (blk_cell BK296.out 0).trans rfl; have hcz123_1 : w122.cell? ⟨gb296, 1, none⟩ = some (.int .i64 0) := (blk_cell BK296.out 1).trans rfl; have hfz123_0 := blk_frozen BK296.out 0; have hfz123_1 := blk_frozen BK296.out 1; have p297 : 0 ≤ ((ji10) : Int) := oa; have q297 : (ji10) < (l0.length : Int) := oa; obtain ⟨ad297, e297, hx297_0, hx297_1⟩ := at_T33 HR0.out (ji10) p297 q297; obtain rfl : ad295 = ad297 := (by injection e297); have hn297_0 : ad295.block ≠ gb296 := Nat.ne_of_lt (cl hx297_0 GW296.out); have hn297_1 : ad295.block ≠ gb296 := Nat.ne_of_lt (cl hx297_0 GW296.out); replace hx297_0 := (HB.out.cell (World.block_lt_of_cell? w _ hx297_0)).trans hx297_0; replace hx297_1 := (HB.out.cell (World.block_lt_of_cell? w _ hx297_1)).trans hx297_1; replace hx297_0 := (cell_far (p := ⟨gb296, 0, none⟩) (nb hn297_0) (.int .i64 ((rd_T33 l0 x4_1).f0))).trans hx297_0; replace hx297_1 := (cell_far (p := ⟨gb296, 0, none⟩) (nb hn297_0) (.int .i64 ((rd_T33 l0 x4_1).f0))).trans hx297_1; replace hx297_0 := (cell_far (p := ⟨gb296, 1, none⟩) (nb hn297_1) (.int .i64 ((rd_T33 l0 x4_1).f1))).trans hx297_0; replace hx297_1 := (cell_far (p := ⟨gb296, 1, none⟩) (nb hn297_1) (.int .i64 ((rd_T33 l0 x4_1).f1))).trans hx297_1; clear hn297_0; clear hn297_1; replace p297 := eq_true p297; replace q297 := eq_true q297) | ((with_reducible refine gate_dst (N := 7) rfl ?_); refine bx_ 7 (cs := #[.int .i64 0, .int .i64 0]) (t := 33) ?_; intro gb298 hg w124 hbox hb; have n0_ := Aside0.mk (blk_below (bp BK296.out) hb); have n1_ := Aside0.mk (below_step (lb HB.out) hb); have n2_ := Aside0.mk (hbox); have n3_ := Aside0.mk ((by rw [hg]; exact (below_size (lb HB.out)) : w.heap.size ≤ gb298)); have n4_ := Aside0.mk ((by rw [hg]; exact (below_size (lb HB.out)) : w.heap.size ≤ gb298)); have n5_ := Aside0.mk ((by rw [hg]; exact Nat.ne_of_lt (blk_lt (bp BK296.out)) : gb296 ≠ gb298)); have n6_ := Aside0.mk ((by rw [hg]; exact Nat.ne_of_gt (blk_lt (bp BK296.out)) : gb298 ≠ gb296)); clear BK296; clear HB; have BK296 := n0_; have HB := n1_; have BK298 := n2_; have GW298 := n3_; have GE298 := n4_; have NB296_298 := n5_; have NB298_296 := n6_; clear n0_ n1_ n2_ n3_ n4_ n5_ n6_; clear hb hbox hg; have hnb125 := NB298_296.out; have hnc125 := NB296_298.out; have hcz126_0 : w124.cell? ⟨gb298, 0, none⟩ = some (.int .i64 0) := (blk_cell BK298.out 0).trans rfl; have hcz126_1 : w124.cell? ⟨gb298, 1, none⟩ = some (.int .i64 0) := (blk_cell BK298.out 1).trans rfl; have hfz126_0 := blk_frozen BK298.out 0; have hfz126_1 := blk_frozen BK298.out 1; have p299 : 0 ≤ (x5_2 : Int) := oa; have q299 : x5_2 < (l0.length : Int) := oa; obtain ⟨ad299, e299, hx299_0, hx299_1⟩ := at_T33 HR0.out x5_2 p299 q299; obtain rfl : ad295 = ad299 := (by injection e299); have hn299_0 : ad295.block ≠ gb298 := Nat.ne_of_lt (cl hx299_0 GW298.out); have hn299_1 : ad295.block ≠ gb298 := Nat.ne_of_lt (cl hx299_0 GW298.out); replace hx299_0 := (HB.out.cell (World.block_lt_of_cell? w _ hx299_0)).trans hx299_0; replace hx299_1 := (HB.out.cell (World.block_lt_of_cell? w _ hx299_1)).trans hx299_1; replace hx299_0 := (cell_far (p := ⟨gb298, 0, none⟩) (nb hn299_0) (.int .i64 ((rd_T33 l0 (ji10)).f0))).trans hx299_0; replace hx299_1 := (cell_far (p := ⟨gb298, 0, none⟩) (nb hn299_0) (.int .i64 ((rd_T33 l0 (ji10)).f0))).trans hx299_1; replace hx299_0 := (cell_far (p := ⟨gb298, 1, none⟩) (nb hn299_1) (.int .i64 ((rd_T33 l0 (ji10)).f1))).trans hx299_0; replace hx299_1 := (cell_far (p := ⟨gb298, 1, none⟩) (nb hn299_1) (.int .i64 ((rd_T33 l0 (ji10)).f1))).trans hx299_1; clear hn299_0; clear hn299_1; replace p299 := eq_true p299; replace q299 := eq_true q299) | ((with_reducible refine gate_dst (N := 8) rfl ?_); refine bx_ 8 (cs := #[.int .i64 0, .int .i64 0]) (t := 33) ?_; intro gb300 hg w127 hbox hb; have n0_ := Aside0.mk (blk_below (bf BK296.out) hb); have n1_ := Aside0.mk (blk_below (bp BK298.out) hb); have n2_ := Aside0.mk (below_step (lb HB.out) hb); have n3_ := Aside0.mk (hbox); have n4_ := Aside0.mk ((by rw [hg]; exact (below_size (lb HB.out)) : w.heap.size ≤ gb300)); have n5_ := Aside0.mk ((by rw [hg]; exact (below_size (lb HB.out)) : w.heap.size ≤ gb300)); have n6_ := Aside0.mk ((by rw [hg]; exact Nat.ne_of_lt (blk_lt (bf BK296.out)) : gb296 ≠ gb300)); have n7_ := Aside0.mk ((by rw [hg]; exact Nat.ne_of_gt (blk_lt (bf BK296.out)) : gb300 ≠ gb296)); have n8_ := Aside0.mk ((by rw [hg]; exact Nat.ne_of_lt (blk_lt (bp BK298.out)) : gb298 ≠ gb300)); have n9_ := Aside0.mk ((by rw [hg]; exact Nat.ne_of_gt (blk_lt (bp BK298.out)) : gb300 ≠ gb298)); clear BK296; clear BK298; clear HB; have BK296 := n0_; have BK298 := n1_; have HB := n2_; have BK300 := n3_; have GW300 := n4_; have GE300 := n5_; have NB296_300 := n6_; have NB300_296 := n7_; have NB298_300 := n8_; have NB300_298 := n9_; clear n0_ n1_ n2_ n3_ n4_ n5_ n6_ n7_ n8_ n9_; clear hb hbox hg; have hnb128 := NB300_296.out; have hnc128 := NB296_300.out; have hnb129 := NB300_298.out; have hnc129 := NB298_300.out; have hcz130_0 : w127.cell? ⟨gb300, 0, none⟩ = some (.int .i64 0) := (blk_cell BK300.out 0).trans rfl; have hcz130_1 : w127.cell? ⟨gb300, 1, none⟩ = some (.int .i64 0) := (blk_cell BK300.out 1).trans rfl; have hfz130_0 := blk_frozen BK300.out 0; have hfz130_1 := blk_frozen BK300.out 1; have p301 : 0 ≤ ((ji15) : Int) := oa; have q301 : (ji15) < (l0.length : Int) := oa; obtain ⟨ad301, e301, hx301_0, hx301_1⟩ := at_T33 HR0.out (ji15) p301 q301; obtain rfl : ad295 = ad301 := (by injection e301); have hn301_0 : ad295.block ≠ gb300 := Nat.ne_of_lt (cl hx301_0 GW300.out); have hn301_1 : ad295.block ≠ gb300 := Nat.ne_of_lt (cl hx301_0 GW300.out); replace hx301_0 := (HB.out.cell (World.block_lt_of_cell? w _ hx301_0)).trans hx301_0; replace hx301_1 := (HB.out.cell (World.block_lt_of_cell? w _ hx301_1)).trans hx301_1; replace hx301_0 := (cell_far (p := ⟨gb300, 0, none⟩) (nb hn301_0) (.int .i64 ((rd_T33 l0 x5_2).f0))).trans hx301_0; replace hx301_1 := (cell_far (p := ⟨gb300, 0, none⟩) (nb hn301_0) (.int .i64 ((rd_T33 l0 x5_2).f0))).trans hx301_1; replace hx301_0 := (cell_far (p := ⟨gb300, 1, none⟩) (nb hn301_1) (.int .i64 ((rd_T33 l0 x5_2).f1))).trans hx301_0; replace hx301_1 := (cell_far (p := ⟨gb300, 1, none⟩) (nb hn301_1) (.int .i64 ((rd_T33 l0 x5_2).f1))).trans hx301_1; clear hn301_0; clear hn301_1; replace p301 := eq_true p301; replace q301 := eq_true q301) | ((with_reducible refine gate_dst (N := 9) rfl ?_); refine bx_ 9 (cs := #[.int .i64 0, .int .i64 0]) (t := 33) ?_; intro gb302 hg w131 hbox hb; have n0_ := Aside0.mk (blk_below (bf BK296.out) hb); have n1_ := Aside0.mk (blk_below (bf BK298.out) hb); have n2_ := Aside0.mk (blk_below (bp BK300.out) hb); have n3_ := Aside0.mk (below_step (lb HB.out) hb); have n4_ := Aside0.mk (hbox); have n5_ := Aside0.mk ((by rw [hg]; exact (below_size (lb HB.out)) : w.heap.size ≤ gb302)); have n6_ := Aside0.mk ((by rw [hg]; exact (below_size (lb HB.out)) : w.heap.size ≤ gb302)); have n7_ := Aside0.mk ((by rw [hg]; exact Nat.ne_of_lt (blk_lt (bf BK296.out)) : gb296 ≠ gb302)); have n8_ := Aside0.mk ((by rw [hg]; exact Nat.ne_of_gt (blk_lt (bf BK296.out)) : gb302 ≠ gb296)); have n9_ := Aside0.mk ((by rw [hg]; exact Nat.ne_of_lt (blk_lt (bf BK298.out)) : gb298 ≠ gb302)); have n10_ := Aside0.mk ((by rw [hg]; exact Nat.ne_of_gt (blk_lt (bf BK298.out)) : gb302 ≠ gb298)); have n11_ := Aside0.mk ((by rw [hg]; exact Nat.ne_of_lt (blk_lt (bp BK300.out)) : gb300 ≠ gb302)); have n12_ := Aside0.mk ((by rw [hg]; exact Nat.ne_of_gt (blk_lt (bp BK300.out)) : gb302 ≠ gb300)); clear BK296; clear BK298; clear BK300; clear HB; have BK296 := n0_; have BK298 := n1_; have BK300 := n2_; have HB := n3_; have BK302 := n4_; have GW302 := n5_; have GE302 := n6_; have NB296_302 := n7_; have NB302_296 := n8_; have NB298_302 := n9_; have NB302_298 := n10_; have NB300_302 := n11_; have NB302_300 := n12_; clear n0_ n1_ n2_ n3_ n4_ n5_ n6_ n7_ n8_ n9_ n10_ n11_ n12_; clear hb hbox hg; have hnb132 := NB302_296.out; have hnc132 := NB296_302.out; have hnb133 := NB302_298.out; have hnc133 := NB298_302.out; have hnb134 := NB302_300.out; have hnc134 := NB300_302.out; have hcz135_0 : w131.cell? ⟨gb302, 0, none⟩ = some (.int .i64 0) := (blk_cell BK302.out 0).trans rfl; have hcz135_1 : w131.cell? ⟨gb302, 1, none⟩ = some (.int .i64 0) := (blk_cell BK302.out 1).trans rfl; have hfz135_0 := blk_frozen BK302.out 0; have hfz135_1 := blk_frozen BK302.out 1; have hcz136_0 : w131.cell? ⟨gb300, 0, none⟩ = some (.int .i64 ((rd_T33 l0 x5_2).f0)) := (blk_cell BK300.out 0).trans rfl; have hcz136_1 : w131.cell? ⟨gb300, 1, none⟩ = some (.int .i64 ((rd_T33 l0 x5_2).f1)) := (blk_cell BK300.out 1).trans rfl; have hfz136_0 := blk_frozen BK300.out 0; have hfz136_1 := blk_frozen BK300.out 1; have hcz137_0 : w131.cell? ⟨gb298, 0, none⟩ = some (.int .i64 ((rd_T33 l0 (ji10)).f0)) := (blk_cell BK298.out 0).trans rfl; have hcz137_1 : w131.cell? ⟨gb298, 1, none⟩ = some (.int .i64 ((rd_T33 l0 (ji10)).f1)) := (blk_cell BK298.out 1).trans rfl; have hfz137_0 := blk_frozen BK298.out 0; have hfz137_1 := blk_frozen BK298.out 1) | ((with_reducible refine gate_callee (f := 87) rfl ?_); refine goesL_ (some 89) rfl rfl Try.func87 (by kernel_rfl) rfl #[.agg #[.int .i64 ((rd_T33 l0 x5_2).f0), .int .i64 ((rd_T33 l0 x5_2).f1)], .agg #[.int .i64 ((rd_T33 l0 (ji15)).f0), .int .i64 ((rd_T33 l0 (ji15)).f1)], .agg #[.int .i64 ((rd_T33 l0 (ji10)).f0), .int .i64 ((rd_T33 l0 (ji10)).f1)]] rfl (by (try simp only [List.map_toArray, List.map_cons, List.map_nil]); first | done | (simp only [hji10, hji15]; rfl) | rfl | (simp only [List.length_drop, List.length_take]; rfl)) ?_; (with_reducible refine (spec_l2On.calls ((rd_T33 l0 x5_2).f0) ((rd_T33 l0 x5_2).f1) ((rd_T33 l0 (ji15)).f0) ((rd_T33 l0 (ji15)).f1) ((rd_T33 l0 (ji10)).f0) ((rd_T33 l0 (ji10)).f1) true _ A120.out).mono ?_); rintro e w138 ⟨rfl, hb⟩; refine ⟨_, rfl, ?_⟩; have n0_ := Aside0.mk (blk_below (bf BK296.out) hb); have n1_ := Aside0.mk (blk_below (bf BK298.out) hb); have n2_ := Aside0.mk (blk_below (bf BK300.out) hb); have n3_ := Aside0.mk (blk_below (bp BK302.out) hb); have n4_ := Aside0.mk (below_step (lb HB.out) hb); clear BK296; clear BK298; clear BK300; clear BK302; clear HB; have BK296 := n0_; have BK298 := n1_; have BK300 := n2_; have BK302 := n3_; have HB := n4_; clear n0_ n1_ n2_ n3_ n4_; (try clear hb); (try clear hb2); (try clear hk); (try clear hi)))
                    go_ret
                    exact ⟨by first | rfl | (simp [errW_none, errW_some] <;> rfl) | (simp only [← hji10, ← hji15]; first | rfl | (simp [errW_none, errW_some] <;> rfl)) | (simp [*, errW_none, errW_some] <;> rfl), lb HB.out⟩
                   ·replace c121 := Bool.eq_false_iff.mpr c121
                    subst c121
                    have H1 : ((spec_l2On.f ((rd_T33 l0 x4_1).f0) ((rd_T33 l0 x4_1).f1) ((rd_T33 l0 (ji10)).f0) ((rd_T33 l0 (ji10)).f1) ((rd_T33 l0 x5_2).f0) ((rd_T33 l0 x5_2).f1)).bind fun t306 => (if t306 = true then (some false) else (spec_PolyValid.l1 k2 l0 (l0.length : Int) x4_1 (wrap64 (x5_2 + 1))))) = some r := by rw [if_neg (show ¬ (false = true) by decide)] at H; exact H
                    clear H
                    have H := H1
                    clear H1
                    replace H := Option.bind_eq_some_iff.mp H
                    obtain ⟨t306, A1390, H⟩ := H
                    replace H : (if t306 = true then (some false) else (spec_PolyValid.l1 k2 l0 (l0.length : Int) x4_1 (wrap64 (x5_2 + 1)))) = some r := H
                    have A139 := Aside0.mk A1390
                    clear A1390
                    by_cases c140 : t306 = true
                    ·subst c140
                     have H1 : (some false) = some r := by rw [if_pos rfl] at H; exact H
                     clear H
                     have H := H1
                     clear H1
                     obtain rfl := Option.some.inj H
                     have p295 : 0 ≤ (x4_1 : Int) := oa
                     have q295 : x4_1 < (l0.length : Int) := oa
                     obtain ⟨ad295, e295, hx295_0, hx295_1⟩ := at_T33 HR0.out x4_1 p295 q295
                     cases e295
                     replace hx295_0 := (HB.out.cell (World.block_lt_of_cell? w _ hx295_0)).trans hx295_0
                     replace hx295_1 := (HB.out.cell (World.block_lt_of_cell? w _ hx295_1)).trans hx295_1
                     replace p295 := eq_true p295
                     replace q295 := eq_true q295
                     go_wp2_with (first | ((with_reducible refine gate_dst (N := 6) rfl ?_); refine bx_ 6 (cs := #[.int .i64 0, .int .i64 0]) (t := 33) ?_; intro gb296 hg w141 hbox hb; have n0_ := Aside0.mk (below_step (lb HB.out) hb); have n1_ := Aside0.mk (hbox); have n2_ := Aside0.mk ((by rw [hg]; exact (below_size (lb HB.out)) : w.heap.size ≤ gb296)); have n3_ := Aside0.mk ((by rw [hg]; exact (below_size (lb HB.out)) : w.heap.size ≤ gb296)); clear HB; have HB := n0_; have BK296 := n1_; have GW296 := n2_; have GE296 := n3_; clear n0_ n1_ n2_ n3_; clear hb hbox hg; have hcz142_0 : w141.cell? ⟨gb296, 0, none⟩ = some (.int .i64 0) := (blk_cell BK296.out 0).trans rfl; have hcz142_1 : w141.cell? ⟨gb296, 1, none⟩ = some (.int .i64 0) := (blk_cell BK296.out 1).trans rfl; have hfz142_0 := blk_frozen BK296.out 0; have hfz142_1 := blk_frozen BK296.out 1; have p297 : 0 ≤ ((ji10) : Int) := oa; have q297 : (ji10) < (l0.length : Int) := oa; obtain ⟨ad297, e297, hx297_0, hx297_1⟩ := at_T33 HR0.out (ji10) p297 q297; obtain rfl : ad295 = ad297 := (by injection e297); have hn297_0 : ad295.block ≠ gb296 := Nat.ne_of_lt (cl hx297_0 GW296.out); have hn297_1 : ad295.block ≠ gb296 := Nat.ne_of_lt (cl hx297_0 GW296.out); replace hx297_0 := (HB.out.cell (World.block_lt_of_cell? w _ hx297_0)).trans hx297_0; replace hx297_1 := (HB.out.cell (World.block_lt_of_cell? w _ hx297_1)).trans hx297_1; replace hx297_0 := (cell_far (p := ⟨gb296, 0, none⟩) (nb hn297_0) (.int .i64 ((rd_T33 l0 x4_1).f0))).trans hx297_0; replace hx297_1 := (cell_far (p := ⟨gb296, 0, none⟩) (nb hn297_0) (.int .i64 ((rd_T33 l0 x4_1).f0))).trans hx297_1; replace hx297_0 := (cell_far (p := ⟨gb296, 1, none⟩) (nb hn297_1) (.int .i64 ((rd_T33 l0 x4_1).f1))).trans hx297_0; replace hx297_1 := (cell_far (p := ⟨gb296, 1, none⟩) (nb hn297_1) (.int .i64 ((rd_T33 l0 x4_1).f1))).trans hx297_1; clear hn297_0; clear hn297_1; replace p297 := eq_true p297; replace q297 := eq_true q297) | ((with_reducible refine gate_dst (N := 7) rfl ?_); refine bx_ 7 (cs := #[.int .i64 0, .int .i64 0]) (t := 33) ?_; intro gb298 hg w143 hbox hb; have n0_ := Aside0.mk (blk_below (bp BK296.out) hb); have n1_ := Aside0.mk (below_step (lb HB.out) hb); have n2_ := Aside0.mk (hbox); have n3_ := Aside0.mk ((by rw [hg]; exact (below_size (lb HB.out)) : w.heap.size ≤ gb298)); have n4_ := Aside0.mk ((by rw [hg]; exact (below_size (lb HB.out)) : w.heap.size ≤ gb298)); have n5_ := Aside0.mk ((by rw [hg]; exact Nat.ne_of_lt (blk_lt (bp BK296.out)) : gb296 ≠ gb298)); have n6_ := Aside0.mk ((by rw [hg]; exact Nat.ne_of_gt (blk_lt (bp BK296.out)) : gb298 ≠ gb296)); clear BK296; clear HB; have BK296 := n0_; have HB := n1_; have BK298 := n2_; have GW298 := n3_; have GE298 := n4_; have NB296_298 := n5_; have NB298_296 := n6_; clear n0_ n1_ n2_ n3_ n4_ n5_ n6_; clear hb hbox hg; have hnb144 := NB298_296.out; have hnc144 := NB296_298.out; have hcz145_0 : w143.cell? ⟨gb298, 0, none⟩ = some (.int .i64 0) := (blk_cell BK298.out 0).trans rfl; have hcz145_1 : w143.cell? ⟨gb298, 1, none⟩ = some (.int .i64 0) := (blk_cell BK298.out 1).trans rfl; have hfz145_0 := blk_frozen BK298.out 0; have hfz145_1 := blk_frozen BK298.out 1; have p299 : 0 ≤ (x5_2 : Int) := oa; have q299 : x5_2 < (l0.length : Int) := oa; obtain ⟨ad299, e299, hx299_0, hx299_1⟩ := at_T33 HR0.out x5_2 p299 q299; obtain rfl : ad295 = ad299 := (by injection e299); have hn299_0 : ad295.block ≠ gb298 := Nat.ne_of_lt (cl hx299_0 GW298.out); have hn299_1 : ad295.block ≠ gb298 := Nat.ne_of_lt (cl hx299_0 GW298.out); replace hx299_0 := (HB.out.cell (World.block_lt_of_cell? w _ hx299_0)).trans hx299_0; replace hx299_1 := (HB.out.cell (World.block_lt_of_cell? w _ hx299_1)).trans hx299_1; replace hx299_0 := (cell_far (p := ⟨gb298, 0, none⟩) (nb hn299_0) (.int .i64 ((rd_T33 l0 (ji10)).f0))).trans hx299_0; replace hx299_1 := (cell_far (p := ⟨gb298, 0, none⟩) (nb hn299_0) (.int .i64 ((rd_T33 l0 (ji10)).f0))).trans hx299_1; replace hx299_0 := (cell_far (p := ⟨gb298, 1, none⟩) (nb hn299_1) (.int .i64 ((rd_T33 l0 (ji10)).f1))).trans hx299_0; replace hx299_1 := (cell_far (p := ⟨gb298, 1, none⟩) (nb hn299_1) (.int .i64 ((rd_T33 l0 (ji10)).f1))).trans hx299_1; clear hn299_0; clear hn299_1; replace p299 := eq_true p299; replace q299 := eq_true q299) | ((with_reducible refine gate_dst (N := 8) rfl ?_); refine bx_ 8 (cs := #[.int .i64 0, .int .i64 0]) (t := 33) ?_; intro gb300 hg w146 hbox hb; have n0_ := Aside0.mk (blk_below (bf BK296.out) hb); have n1_ := Aside0.mk (blk_below (bp BK298.out) hb); have n2_ := Aside0.mk (below_step (lb HB.out) hb); have n3_ := Aside0.mk (hbox); have n4_ := Aside0.mk ((by rw [hg]; exact (below_size (lb HB.out)) : w.heap.size ≤ gb300)); have n5_ := Aside0.mk ((by rw [hg]; exact (below_size (lb HB.out)) : w.heap.size ≤ gb300)); have n6_ := Aside0.mk ((by rw [hg]; exact Nat.ne_of_lt (blk_lt (bf BK296.out)) : gb296 ≠ gb300)); have n7_ := Aside0.mk ((by rw [hg]; exact Nat.ne_of_gt (blk_lt (bf BK296.out)) : gb300 ≠ gb296)); have n8_ := Aside0.mk ((by rw [hg]; exact Nat.ne_of_lt (blk_lt (bp BK298.out)) : gb298 ≠ gb300)); have n9_ := Aside0.mk ((by rw [hg]; exact Nat.ne_of_gt (blk_lt (bp BK298.out)) : gb300 ≠ gb298)); clear BK296; clear BK298; clear HB; have BK296 := n0_; have BK298 := n1_; have HB := n2_; have BK300 := n3_; have GW300 := n4_; have GE300 := n5_; have NB296_300 := n6_; have NB300_296 := n7_; have NB298_300 := n8_; have NB300_298 := n9_; clear n0_ n1_ n2_ n3_ n4_ n5_ n6_ n7_ n8_ n9_; clear hb hbox hg; have hnb147 := NB300_296.out; have hnc147 := NB296_300.out; have hnb148 := NB300_298.out; have hnc148 := NB298_300.out; have hcz149_0 : w146.cell? ⟨gb300, 0, none⟩ = some (.int .i64 0) := (blk_cell BK300.out 0).trans rfl; have hcz149_1 : w146.cell? ⟨gb300, 1, none⟩ = some (.int .i64 0) := (blk_cell BK300.out 1).trans rfl; have hfz149_0 := blk_frozen BK300.out 0; have hfz149_1 := blk_frozen BK300.out 1; have p301 : 0 ≤ ((ji15) : Int) := oa; have q301 : (ji15) < (l0.length : Int) := oa; obtain ⟨ad301, e301, hx301_0, hx301_1⟩ := at_T33 HR0.out (ji15) p301 q301; obtain rfl : ad295 = ad301 := (by injection e301); have hn301_0 : ad295.block ≠ gb300 := Nat.ne_of_lt (cl hx301_0 GW300.out); have hn301_1 : ad295.block ≠ gb300 := Nat.ne_of_lt (cl hx301_0 GW300.out); replace hx301_0 := (HB.out.cell (World.block_lt_of_cell? w _ hx301_0)).trans hx301_0; replace hx301_1 := (HB.out.cell (World.block_lt_of_cell? w _ hx301_1)).trans hx301_1; replace hx301_0 := (cell_far (p := ⟨gb300, 0, none⟩) (nb hn301_0) (.int .i64 ((rd_T33 l0 x5_2).f0))).trans hx301_0; replace hx301_1 := (cell_far (p := ⟨gb300, 0, none⟩) (nb hn301_0) (.int .i64 ((rd_T33 l0 x5_2).f0))).trans hx301_1; replace hx301_0 := (cell_far (p := ⟨gb300, 1, none⟩) (nb hn301_1) (.int .i64 ((rd_T33 l0 x5_2).f1))).trans hx301_0; replace hx301_1 := (cell_far (p := ⟨gb300, 1, none⟩) (nb hn301_1) (.int .i64 ((rd_T33 l0 x5_2).f1))).trans hx301_1; clear hn301_0; clear hn301_1; replace p301 := eq_true p301; replace q301 := eq_true q301) | ((with_reducible refine gate_dst (N := 9) rfl ?_); refine bx_ 9 (cs := #[.int .i64 0, .int .i64 0]) (t := 33) ?_; intro gb302 hg w150 hbox hb; have n0_ := Aside0.mk (blk_below (bf BK296.out) hb); have n1_ := Aside0.mk (blk_below (bf BK298.out) hb); have n2_ := Aside0.mk (blk_below (bp BK300.out) hb); have n3_ := Aside0.mk (below_step (lb HB.out) hb); have n4_ := Aside0.mk (hbox); have n5_ := Aside0.mk ((by rw [hg]; exact (below_size (lb HB.out)) : w.heap.size ≤ gb302)); have n6_ := Aside0.mk ((by rw [hg]; exact (below_size (lb HB.out)) : w.heap.size ≤ gb302)); have n7_ := Aside0.mk ((by rw [hg]; exact Nat.ne_of_lt (blk_lt (bf BK296.out)) : gb296 ≠ gb302)); have n8_ := Aside0.mk ((by rw [hg]; exact Nat.ne_of_gt (blk_lt (bf BK296.out)) : gb302 ≠ gb296)); have n9_ := Aside0.mk ((by rw [hg]; exact Nat.ne_of_lt (blk_lt (bf BK298.out)) : gb298 ≠ gb302)); have n10_ := Aside0.mk ((by rw [hg]; exact Nat.ne_of_gt (blk_lt (bf BK298.out)) : gb302 ≠ gb298)); have n11_ := Aside0.mk ((by rw [hg]; exact Nat.ne_of_lt (blk_lt (bp BK300.out)) : gb300 ≠ gb302)); have n12_ := Aside0.mk ((by rw [hg]; exact Nat.ne_of_gt (blk_lt (bp BK300.out)) : gb302 ≠ gb300)); clear BK296; clear BK298; clear BK300; clear HB; have BK296 := n0_; have BK298 := n1_; have BK300 := n2_; have HB := n3_; have BK302 := n4_; have GW302 := n5_; have GE302 := n6_; have NB296_302 := n7_; have NB302_296 := n8_; have NB298_302 := n9_; have NB302_298 := n10_; have NB300_302 := n11_; have NB302_300 := n12_; clear n0_ n1_ n2_ n3_ n4_ n5_ n6_ n7_ n8_ n9_ n10_ n11_ n12_; clear hb hbox hg; have hnb151 := NB302_296.out; have hnc151 := NB296_302.out; have hnb152 := NB302_298.out; have hnc152 := NB298_302.out; have hnb153 := NB302_300.out; have hnc153 := NB300_302.out; have hcz154_0 : w150.cell? ⟨gb302, 0, none⟩ = some (.int .i64 0) := (blk_cell BK302.out 0).trans rfl; have hcz154_1 : w150.cell? ⟨gb302, 1, none⟩ = some (.int .i64 0) := (blk_cell BK302.out 1).trans rfl; have hfz154_0 := blk_frozen BK302.out 0; have hfz154_1 := blk_frozen BK302.out 1; have hcz155_0 : w150.cell? ⟨gb300, 0, none⟩ = some (.int .i64 ((rd_T33 l0 x5_2).f0)) := (blk_cell BK300.out 0).trans rfl; have hcz155_1 : w150.cell? ⟨gb300, 1, none⟩ = some (.int .i64 ((rd_T33 l0 x5_2).f1)) := (blk_cell BK300.out 1).trans rfl; have hfz155_0 := blk_frozen BK300.out 0; have hfz155_1 := blk_frozen BK300.out 1; have hcz156_0 : w150.cell? ⟨gb298, 0, none⟩ = some (.int .i64 ((rd_T33 l0 (ji10)).f0)) := (blk_cell BK298.out 0).trans rfl; have hcz156_1 : w150.cell? ⟨gb298, 1, none⟩ = some (.int .i64 ((rd_T33 l0 (ji10)).f1)) := (blk_cell BK298.out 1).trans rfl; have hfz156_0 := blk_frozen BK298.out 0; have hfz156_1 := blk_frozen BK298.out 1) | ((with_reducible refine gate_callee (f := 87) rfl ?_); refine goesL_ (some 89) rfl rfl Try.func87 (by kernel_rfl) rfl #[.agg #[.int .i64 ((rd_T33 l0 x5_2).f0), .int .i64 ((rd_T33 l0 x5_2).f1)], .agg #[.int .i64 ((rd_T33 l0 (ji15)).f0), .int .i64 ((rd_T33 l0 (ji15)).f1)], .agg #[.int .i64 ((rd_T33 l0 (ji10)).f0), .int .i64 ((rd_T33 l0 (ji10)).f1)]] rfl (by (try simp only [List.map_toArray, List.map_cons, List.map_nil]); first | done | (simp only [hji10, hji15]; rfl) | rfl | (simp only [List.length_drop, List.length_take]; rfl)) ?_; (with_reducible refine (spec_l2On.calls ((rd_T33 l0 x5_2).f0) ((rd_T33 l0 x5_2).f1) ((rd_T33 l0 (ji15)).f0) ((rd_T33 l0 (ji15)).f1) ((rd_T33 l0 (ji10)).f0) ((rd_T33 l0 (ji10)).f1) false _ A120.out).mono ?_); rintro e w157 ⟨rfl, hb⟩; refine ⟨_, rfl, ?_⟩; have n0_ := Aside0.mk (blk_below (bf BK296.out) hb); have n1_ := Aside0.mk (blk_below (bf BK298.out) hb); have n2_ := Aside0.mk (blk_below (bf BK300.out) hb); have n3_ := Aside0.mk (blk_below (bp BK302.out) hb); have n4_ := Aside0.mk (below_step (lb HB.out) hb); clear BK296; clear BK298; clear BK300; clear BK302; clear HB; have BK296 := n0_; have BK298 := n1_; have BK300 := n2_; have BK302 := n3_; have HB := n4_; clear n0_ n1_ n2_ n3_ n4_; (try clear hb); (try clear hb2); (try clear hk); (try clear hi); have hcz158_0 : w157.cell? ⟨gb296, 0, none⟩ = some (.int .i64 ((rd_T33 l0 x4_1).f0)) := (blk_cell BK296.out 0).trans rfl; have hcz158_1 : w157.cell? ⟨gb296, 1, none⟩ = some (.int .i64 ((rd_T33 l0 x4_1).f1)) := (blk_cell BK296.out 1).trans rfl; have hfz158_0 := blk_frozen BK296.out 0; have hfz158_1 := blk_frozen BK296.out 1; have hcz159_0 : w157.cell? ⟨gb298, 0, none⟩ = some (.int .i64 ((rd_T33 l0 (ji10)).f0)) := (blk_cell BK298.out 0).trans rfl; have hcz159_1 : w157.cell? ⟨gb298, 1, none⟩ = some (.int .i64 ((rd_T33 l0 (ji10)).f1)) := (blk_cell BK298.out 1).trans rfl; have hfz159_0 := blk_frozen BK298.out 0; have hfz159_1 := blk_frozen BK298.out 1; have hcz160_0 : w157.cell? ⟨gb300, 0, none⟩ = some (.int .i64 ((rd_T33 l0 x5_2).f0)) := (blk_cell BK300.out 0).trans rfl; have hcz160_1 : w157.cell? ⟨gb300, 1, none⟩ = some (.int .i64 ((rd_T33 l0 x5_2).f1)) := (blk_cell BK300.out 1).trans rfl; have hfz160_0 := blk_frozen BK300.out 0; have hfz160_1 := blk_frozen BK300.out 1) | (go_at_call 87; (with_reducible refine (spec_l2On.calls ((rd_T33 l0 x4_1).f0) ((rd_T33 l0 x4_1).f1) ((rd_T33 l0 (ji10)).f0) ((rd_T33 l0 (ji10)).f1) ((rd_T33 l0 x5_2).f0) ((rd_T33 l0 x5_2).f1) true _ A139.out).mono ?_); rintro e w161 ⟨rfl, hb⟩; have n0_ := Aside0.mk (blk_below (bf BK296.out) hb); have n1_ := Aside0.mk (blk_below (bf BK298.out) hb); have n2_ := Aside0.mk (blk_below (bf BK300.out) hb); have n3_ := Aside0.mk (blk_below (bf BK302.out) hb); have n4_ := Aside0.mk (below_step (lb HB.out) hb); clear BK296; clear BK298; clear BK300; clear BK302; clear HB; have BK296 := n0_; have BK298 := n1_; have BK300 := n2_; have BK302 := n3_; have HB := n4_; clear n0_ n1_ n2_ n3_ n4_; (try clear hb); (try clear hb2); (try clear hk); (try clear hi)))
                     go_ret
                     exact ⟨by first | rfl | (simp [errW_none, errW_some] <;> rfl) | (simp only [← hji10, ← hji15]; first | rfl | (simp [errW_none, errW_some] <;> rfl)) | (simp [*, errW_none, errW_some] <;> rfl), lb HB.out⟩
                    ·replace c140 := Bool.eq_false_iff.mpr c140
                     subst c140
                     have H1 : (spec_PolyValid.l1 k2 l0 (l0.length : Int) x4_1 (wrap64 (x5_2 + 1))) = some r := by rw [if_neg (show ¬ (false = true) by decide)] at H; exact H
                     clear H
                     have H := H1
                     clear H1
                     have H' := Aside0.mk H
                     clear H
                     have p295 : 0 ≤ (x4_1 : Int) := oa
                     have q295 : x4_1 < (l0.length : Int) := oa
                     obtain ⟨ad295, e295, hx295_0, hx295_1⟩ := at_T33 HR0.out x4_1 p295 q295
                     cases e295
                     replace hx295_0 := (HB.out.cell (World.block_lt_of_cell? w _ hx295_0)).trans hx295_0
                     replace hx295_1 := (HB.out.cell (World.block_lt_of_cell? w _ hx295_1)).trans hx295_1
                     replace p295 := eq_true p295
                     replace q295 := eq_true q295
                     go_wp2_with (first | ((with_reducible refine gate_dst (N := 6) rfl ?_); refine bx_ 6 (cs := #[.int .i64 0, .int .i64 0]) (t := 33) ?_; intro gb296 hg w162 hbox hb; have n0_ := Aside0.mk (below_step (lb HB.out) hb); have n1_ := Aside0.mk (hbox); have n2_ := Aside0.mk ((by rw [hg]; exact (below_size (lb HB.out)) : w.heap.size ≤ gb296)); have n3_ := Aside0.mk ((by rw [hg]; exact (below_size (lb HB.out)) : w.heap.size ≤ gb296)); clear HB; have HB := n0_; have BK296 := n1_; have GW296 := n2_; have GE296 := n3_; clear n0_ n1_ n2_ n3_; clear hb hbox hg; have hcz163_0 : w162.cell? ⟨gb296, 0, none⟩ = some (.int .i64 0) := (blk_cell BK296.out 0).trans rfl; have hcz163_1 : w162.cell? ⟨gb296, 1, none⟩ = some (.int .i64 0) := (blk_cell BK296.out 1).trans rfl; have hfz163_0 := blk_frozen BK296.out 0; have hfz163_1 := blk_frozen BK296.out 1; have p297 : 0 ≤ ((ji10) : Int) := oa; have q297 : (ji10) < (l0.length : Int) := oa; obtain ⟨ad297, e297, hx297_0, hx297_1⟩ := at_T33 HR0.out (ji10) p297 q297; obtain rfl : ad295 = ad297 := (by injection e297); have hn297_0 : ad295.block ≠ gb296 := Nat.ne_of_lt (cl hx297_0 GW296.out); have hn297_1 : ad295.block ≠ gb296 := Nat.ne_of_lt (cl hx297_0 GW296.out); replace hx297_0 := (HB.out.cell (World.block_lt_of_cell? w _ hx297_0)).trans hx297_0; replace hx297_1 := (HB.out.cell (World.block_lt_of_cell? w _ hx297_1)).trans hx297_1; replace hx297_0 := (cell_far (p := ⟨gb296, 0, none⟩) (nb hn297_0) (.int .i64 ((rd_T33 l0 x4_1).f0))).trans hx297_0; replace hx297_1 := (cell_far (p := ⟨gb296, 0, none⟩) (nb hn297_0) (.int .i64 ((rd_T33 l0 x4_1).f0))).trans hx297_1; replace hx297_0 := (cell_far (p := ⟨gb296, 1, none⟩) (nb hn297_1) (.int .i64 ((rd_T33 l0 x4_1).f1))).trans hx297_0; replace hx297_1 := (cell_far (p := ⟨gb296, 1, none⟩) (nb hn297_1) (.int .i64 ((rd_T33 l0 x4_1).f1))).trans hx297_1; clear hn297_0; clear hn297_1; replace p297 := eq_true p297; replace q297 := eq_true q297) | ((with_reducible refine gate_dst (N := 7) rfl ?_); refine bx_ 7 (cs := #[.int .i64 0, .int .i64 0]) (t := 33) ?_; intro gb298 hg w164 hbox hb; have n0_ := Aside0.mk (blk_below (bp BK296.out) hb); have n1_ := Aside0.mk (below_step (lb HB.out) hb); have n2_ := Aside0.mk (hbox); have n3_ := Aside0.mk ((by rw [hg]; exact (below_size (lb HB.out)) : w.heap.size ≤ gb298)); have n4_ := Aside0.mk ((by rw [hg]; exact (below_size (lb HB.out)) : w.heap.size ≤ gb298)); have n5_ := Aside0.mk ((by rw [hg]; exact Nat.ne_of_lt (blk_lt (bp BK296.out)) : gb296 ≠ gb298)); have n6_ := Aside0.mk ((by rw [hg]; exact Nat.ne_of_gt (blk_lt (bp BK296.out)) : gb298 ≠ gb296)); clear BK296; clear HB; have BK296 := n0_; have HB := n1_; have BK298 := n2_; have GW298 := n3_; have GE298 := n4_; have NB296_298 := n5_; have NB298_296 := n6_; clear n0_ n1_ n2_ n3_ n4_ n5_ n6_; clear hb hbox hg; have hnb165 := NB298_296.out; have hnc165 := NB296_298.out; have hcz166_0 : w164.cell? ⟨gb298, 0, none⟩ = some (.int .i64 0) := (blk_cell BK298.out 0).trans rfl; have hcz166_1 : w164.cell? ⟨gb298, 1, none⟩ = some (.int .i64 0) := (blk_cell BK298.out 1).trans rfl; have hfz166_0 := blk_frozen BK298.out 0; have hfz166_1 := blk_frozen BK298.out 1; have p299 : 0 ≤ (x5_2 : Int) := oa; have q299 : x5_2 < (l0.length : Int) := oa; obtain ⟨ad299, e299, hx299_0, hx299_1⟩ := at_T33 HR0.out x5_2 p299 q299; obtain rfl : ad295 = ad299 := (by injection e299); have hn299_0 : ad295.block ≠ gb298 := Nat.ne_of_lt (cl hx299_0 GW298.out); have hn299_1 : ad295.block ≠ gb298 := Nat.ne_of_lt (cl hx299_0 GW298.out); replace hx299_0 := (HB.out.cell (World.block_lt_of_cell? w _ hx299_0)).trans hx299_0; replace hx299_1 := (HB.out.cell (World.block_lt_of_cell? w _ hx299_1)).trans hx299_1; replace hx299_0 := (cell_far (p := ⟨gb298, 0, none⟩) (nb hn299_0) (.int .i64 ((rd_T33 l0 (ji10)).f0))).trans hx299_0; replace hx299_1 := (cell_far (p := ⟨gb298, 0, none⟩) (nb hn299_0) (.int .i64 ((rd_T33 l0 (ji10)).f0))).trans hx299_1; replace hx299_0 := (cell_far (p := ⟨gb298, 1, none⟩) (nb hn299_1) (.int .i64 ((rd_T33 l0 (ji10)).f1))).trans hx299_0; replace hx299_1 := (cell_far (p := ⟨gb298, 1, none⟩) (nb hn299_1) (.int .i64 ((rd_T33 l0 (ji10)).f1))).trans hx299_1; clear hn299_0; clear hn299_1; replace p299 := eq_true p299; replace q299 := eq_true q299) | ((with_reducible refine gate_dst (N := 8) rfl ?_); refine bx_ 8 (cs := #[.int .i64 0, .int .i64 0]) (t := 33) ?_; intro gb300 hg w167 hbox hb; have n0_ := Aside0.mk (blk_below (bf BK296.out) hb); have n1_ := Aside0.mk (blk_below (bp BK298.out) hb); have n2_ := Aside0.mk (below_step (lb HB.out) hb); have n3_ := Aside0.mk (hbox); have n4_ := Aside0.mk ((by rw [hg]; exact (below_size (lb HB.out)) : w.heap.size ≤ gb300)); have n5_ := Aside0.mk ((by rw [hg]; exact (below_size (lb HB.out)) : w.heap.size ≤ gb300)); have n6_ := Aside0.mk ((by rw [hg]; exact Nat.ne_of_lt (blk_lt (bf BK296.out)) : gb296 ≠ gb300)); have n7_ := Aside0.mk ((by rw [hg]; exact Nat.ne_of_gt (blk_lt (bf BK296.out)) : gb300 ≠ gb296)); have n8_ := Aside0.mk ((by rw [hg]; exact Nat.ne_of_lt (blk_lt (bp BK298.out)) : gb298 ≠ gb300)); have n9_ := Aside0.mk ((by rw [hg]; exact Nat.ne_of_gt (blk_lt (bp BK298.out)) : gb300 ≠ gb298)); clear BK296; clear BK298; clear HB; have BK296 := n0_; have BK298 := n1_; have HB := n2_; have BK300 := n3_; have GW300 := n4_; have GE300 := n5_; have NB296_300 := n6_; have NB300_296 := n7_; have NB298_300 := n8_; have NB300_298 := n9_; clear n0_ n1_ n2_ n3_ n4_ n5_ n6_ n7_ n8_ n9_; clear hb hbox hg; have hnb168 := NB300_296.out; have hnc168 := NB296_300.out; have hnb169 := NB300_298.out; have hnc169 := NB298_300.out; have hcz170_0 : w167.cell? ⟨gb300, 0, none⟩ = some (.int .i64 0) := (blk_cell BK300.out 0).trans rfl; have hcz170_1 : w167.cell? ⟨gb300, 1, none⟩ = some (.int .i64 0) := (blk_cell BK300.out 1).trans rfl; have hfz170_0 := blk_frozen BK300.out 0; have hfz170_1 := blk_frozen BK300.out 1; have p301 : 0 ≤ ((ji15) : Int) := oa; have q301 : (ji15) < (l0.length : Int) := oa; obtain ⟨ad301, e301, hx301_0, hx301_1⟩ := at_T33 HR0.out (ji15) p301 q301; obtain rfl : ad295 = ad301 := (by injection e301); have hn301_0 : ad295.block ≠ gb300 := Nat.ne_of_lt (cl hx301_0 GW300.out); have hn301_1 : ad295.block ≠ gb300 := Nat.ne_of_lt (cl hx301_0 GW300.out); replace hx301_0 := (HB.out.cell (World.block_lt_of_cell? w _ hx301_0)).trans hx301_0; replace hx301_1 := (HB.out.cell (World.block_lt_of_cell? w _ hx301_1)).trans hx301_1; replace hx301_0 := (cell_far (p := ⟨gb300, 0, none⟩) (nb hn301_0) (.int .i64 ((rd_T33 l0 x5_2).f0))).trans hx301_0; replace hx301_1 := (cell_far (p := ⟨gb300, 0, none⟩) (nb hn301_0) (.int .i64 ((rd_T33 l0 x5_2).f0))).trans hx301_1; replace hx301_0 := (cell_far (p := ⟨gb300, 1, none⟩) (nb hn301_1) (.int .i64 ((rd_T33 l0 x5_2).f1))).trans hx301_0; replace hx301_1 := (cell_far (p := ⟨gb300, 1, none⟩) (nb hn301_1) (.int .i64 ((rd_T33 l0 x5_2).f1))).trans hx301_1; clear hn301_0; clear hn301_1; replace p301 := eq_true p301; replace q301 := eq_true q301) | ((with_reducible refine gate_dst (N := 9) rfl ?_); refine bx_ 9 (cs := #[.int .i64 0, .int .i64 0]) (t := 33) ?_; intro gb302 hg w171 hbox hb; have n0_ := Aside0.mk (blk_below (bf BK296.out) hb); have n1_ := Aside0.mk (blk_below (bf BK298.out) hb); have n2_ := Aside0.mk (blk_below (bp BK300.out) hb); have n3_ := Aside0.mk (below_step (lb HB.out) hb); have n4_ := Aside0.mk (hbox); have n5_ := Aside0.mk ((by rw [hg]; exact (below_size (lb HB.out)) : w.heap.size ≤ gb302)); have n6_ := Aside0.mk ((by rw [hg]; exact (below_size (lb HB.out)) : w.heap.size ≤ gb302)); have n7_ := Aside0.mk ((by rw [hg]; exact Nat.ne_of_lt (blk_lt (bf BK296.out)) : gb296 ≠ gb302)); have n8_ := Aside0.mk ((by rw [hg]; exact Nat.ne_of_gt (blk_lt (bf BK296.out)) : gb302 ≠ gb296)); have n9_ := Aside0.mk ((by rw [hg]; exact Nat.ne_of_lt (blk_lt (bf BK298.out)) : gb298 ≠ gb302)); have n10_ := Aside0.mk ((by rw [hg]; exact Nat.ne_of_gt (blk_lt (bf BK298.out)) : gb302 ≠ gb298)); have n11_ := Aside0.mk ((by rw [hg]; exact Nat.ne_of_lt (blk_lt (bp BK300.out)) : gb300 ≠ gb302)); have n12_ := Aside0.mk ((by rw [hg]; exact Nat.ne_of_gt (blk_lt (bp BK300.out)) : gb302 ≠ gb300)); clear BK296; clear BK298; clear BK300; clear HB; have BK296 := n0_; have BK298 := n1_; have BK300 := n2_; have HB := n3_; have BK302 := n4_; have GW302 := n5_; have GE302 := n6_; have NB296_302 := n7_; have NB302_296 := n8_; have NB298_302 := n9_; have NB302_298 := n10_; have NB300_302 := n11_; have NB302_300 := n12_; clear n0_ n1_ n2_ n3_ n4_ n5_ n6_ n7_ n8_ n9_ n10_ n11_ n12_; clear hb hbox hg; have hnb172 := NB302_296.out; have hnc172 := NB296_302.out; have hnb173 := NB302_298.out; have hnc173 := NB298_302.out; have hnb174 := NB302_300.out; have hnc174 := NB300_302.out; have hcz175_0 : w171.cell? ⟨gb302, 0, none⟩ = some (.int .i64 0) := (blk_cell BK302.out 0).trans rfl; have hcz175_1 : w171.cell? ⟨gb302, 1, none⟩ = some (.int .i64 0) := (blk_cell BK302.out 1).trans rfl; have hfz175_0 := blk_frozen BK302.out 0; have hfz175_1 := blk_frozen BK302.out 1; have hcz176_0 : w171.cell? ⟨gb300, 0, none⟩ = some (.int .i64 ((rd_T33 l0 x5_2).f0)) := (blk_cell BK300.out 0).trans rfl; have hcz176_1 : w171.cell? ⟨gb300, 1, none⟩ = some (.int .i64 ((rd_T33 l0 x5_2).f1)) := (blk_cell BK300.out 1).trans rfl; have hfz176_0 := blk_frozen BK300.out 0; have hfz176_1 := blk_frozen BK300.out 1; have hcz177_0 : w171.cell? ⟨gb298, 0, none⟩ = some (.int .i64 ((rd_T33 l0 (ji10)).f0)) := (blk_cell BK298.out 0).trans rfl; have hcz177_1 : w171.cell? ⟨gb298, 1, none⟩ = some (.int .i64 ((rd_T33 l0 (ji10)).f1)) := (blk_cell BK298.out 1).trans rfl; have hfz177_0 := blk_frozen BK298.out 0; have hfz177_1 := blk_frozen BK298.out 1) | ((with_reducible refine gate_callee (f := 87) rfl ?_); refine goesL_ (some 89) rfl rfl Try.func87 (by kernel_rfl) rfl #[.agg #[.int .i64 ((rd_T33 l0 x5_2).f0), .int .i64 ((rd_T33 l0 x5_2).f1)], .agg #[.int .i64 ((rd_T33 l0 (ji15)).f0), .int .i64 ((rd_T33 l0 (ji15)).f1)], .agg #[.int .i64 ((rd_T33 l0 (ji10)).f0), .int .i64 ((rd_T33 l0 (ji10)).f1)]] rfl (by (try simp only [List.map_toArray, List.map_cons, List.map_nil]); first | done | (simp only [hji10, hji15]; rfl) | rfl | (simp only [List.length_drop, List.length_take]; rfl)) ?_; (with_reducible refine (spec_l2On.calls ((rd_T33 l0 x5_2).f0) ((rd_T33 l0 x5_2).f1) ((rd_T33 l0 (ji15)).f0) ((rd_T33 l0 (ji15)).f1) ((rd_T33 l0 (ji10)).f0) ((rd_T33 l0 (ji10)).f1) false _ A120.out).mono ?_); rintro e w178 ⟨rfl, hb⟩; refine ⟨_, rfl, ?_⟩; have n0_ := Aside0.mk (blk_below (bf BK296.out) hb); have n1_ := Aside0.mk (blk_below (bf BK298.out) hb); have n2_ := Aside0.mk (blk_below (bf BK300.out) hb); have n3_ := Aside0.mk (blk_below (bp BK302.out) hb); have n4_ := Aside0.mk (below_step (lb HB.out) hb); clear BK296; clear BK298; clear BK300; clear BK302; clear HB; have BK296 := n0_; have BK298 := n1_; have BK300 := n2_; have BK302 := n3_; have HB := n4_; clear n0_ n1_ n2_ n3_ n4_; (try clear hb); (try clear hb2); (try clear hk); (try clear hi); have hcz179_0 : w178.cell? ⟨gb296, 0, none⟩ = some (.int .i64 ((rd_T33 l0 x4_1).f0)) := (blk_cell BK296.out 0).trans rfl; have hcz179_1 : w178.cell? ⟨gb296, 1, none⟩ = some (.int .i64 ((rd_T33 l0 x4_1).f1)) := (blk_cell BK296.out 1).trans rfl; have hfz179_0 := blk_frozen BK296.out 0; have hfz179_1 := blk_frozen BK296.out 1; have hcz180_0 : w178.cell? ⟨gb298, 0, none⟩ = some (.int .i64 ((rd_T33 l0 (ji10)).f0)) := (blk_cell BK298.out 0).trans rfl; have hcz180_1 : w178.cell? ⟨gb298, 1, none⟩ = some (.int .i64 ((rd_T33 l0 (ji10)).f1)) := (blk_cell BK298.out 1).trans rfl; have hfz180_0 := blk_frozen BK298.out 0; have hfz180_1 := blk_frozen BK298.out 1; have hcz181_0 : w178.cell? ⟨gb300, 0, none⟩ = some (.int .i64 ((rd_T33 l0 x5_2).f0)) := (blk_cell BK300.out 0).trans rfl; have hcz181_1 : w178.cell? ⟨gb300, 1, none⟩ = some (.int .i64 ((rd_T33 l0 x5_2).f1)) := (blk_cell BK300.out 1).trans rfl; have hfz181_0 := blk_frozen BK300.out 0; have hfz181_1 := blk_frozen BK300.out 1) | (go_at_call 87; (with_reducible refine (spec_l2On.calls ((rd_T33 l0 x4_1).f0) ((rd_T33 l0 x4_1).f1) ((rd_T33 l0 (ji10)).f0) ((rd_T33 l0 (ji10)).f1) ((rd_T33 l0 x5_2).f0) ((rd_T33 l0 x5_2).f1) false _ A139.out).mono ?_); rintro e w182 ⟨rfl, hb⟩; have n0_ := Aside0.mk (blk_below (bf BK296.out) hb); have n1_ := Aside0.mk (blk_below (bf BK298.out) hb); have n2_ := Aside0.mk (blk_below (bf BK300.out) hb); have n3_ := Aside0.mk (blk_below (bf BK302.out) hb); have n4_ := Aside0.mk (below_step (lb HB.out) hb); clear BK296; clear BK298; clear BK300; clear BK302; clear HB; have BK296 := n0_; have BK298 := n1_; have BK300 := n2_; have BK302 := n3_; have HB := n4_; clear n0_ n1_ n2_ n3_ n4_; (try clear hb); (try clear hb2); (try clear hk); (try clear hi)))
                     go_roundg k2
                     case measure => have := HK1.out; have := HK2.out; omega
                     case rel => exact ⟨(wrap64 (x5_2 + 1)), (by first | rfl | (simp; done) | (simp [*]; done)), H', ⟨by have := HK1.out; have := HK2.out; omega⟩, ⟨lb HB.out⟩⟩
                  ·rw [if_neg c119] at H
                   have c119b0 : ((ji15) == x4_1) = false := beq_eq_false_iff_ne.mpr c119
                   have c119b1 : ((ji15) != x4_1) = true := bne_iff_ne.mpr c119
                   replace H := Option.bind_eq_some_iff.mp H
                   obtain ⟨t307, A1830, H⟩ := H
                   replace H : (if t307 = true then (some false) else (spec_PolyValid.l1 k2 l0 (l0.length : Int) x4_1 (wrap64 (x5_2 + 1)))) = some r := H
                   have A183 := Aside0.mk A1830
                   clear A1830
                   by_cases c184 : t307 = true
                   ·subst c184
                    have H1 : (some false) = some r := by rw [if_pos rfl] at H; exact H
                    clear H
                    have H := H1
                    clear H1
                    obtain rfl := Option.some.inj H
                    have p295 : 0 ≤ (x4_1 : Int) := oa
                    have q295 : x4_1 < (l0.length : Int) := oa
                    obtain ⟨ad295, e295, hx295_0, hx295_1⟩ := at_T33 HR0.out x4_1 p295 q295
                    cases e295
                    replace hx295_0 := (HB.out.cell (World.block_lt_of_cell? w _ hx295_0)).trans hx295_0
                    replace hx295_1 := (HB.out.cell (World.block_lt_of_cell? w _ hx295_1)).trans hx295_1
                    replace p295 := eq_true p295
                    replace q295 := eq_true q295
                    go_wp2_with (first | ((with_reducible refine gate_dst (N := 6) rfl ?_); refine bx_ 6 (cs := #[.int .i64 0, .int .i64 0]) (t := 33) ?_; intro gb296 hg w185 hbox hb; have n0_ := Aside0.mk (below_step (lb HB.out) hb); have n1_ := Aside0.mk (hbox); have n2_ := Aside0.mk ((by rw [hg]; exact (below_size (lb HB.out)) : w.heap.size ≤ gb296)); have n3_ := Aside0.mk ((by rw [hg]; exact (below_size (lb HB.out)) : w.heap.size ≤ gb296)); clear HB; have HB := n0_; have BK296 := n1_; have GW296 := n2_; have GE296 := n3_; clear n0_ n1_ n2_ n3_; clear hb hbox hg; have hcz186_0 : w185.cell? ⟨gb296, 0, none⟩ = some (.int .i64 0) := (blk_cell BK296.out 0).trans rfl; have hcz186_1 : w185.cell? ⟨gb296, 1, none⟩ = some (.int .i64 0) := (blk_cell BK296.out 1).trans rfl; have hfz186_0 := blk_frozen BK296.out 0; have hfz186_1 := blk_frozen BK296.out 1; have p297 : 0 ≤ ((ji10) : Int) := oa; have q297 : (ji10) < (l0.length : Int) := oa; obtain ⟨ad297, e297, hx297_0, hx297_1⟩ := at_T33 HR0.out (ji10) p297 q297; obtain rfl : ad295 = ad297 := (by injection e297); have hn297_0 : ad295.block ≠ gb296 := Nat.ne_of_lt (cl hx297_0 GW296.out); have hn297_1 : ad295.block ≠ gb296 := Nat.ne_of_lt (cl hx297_0 GW296.out); replace hx297_0 := (HB.out.cell (World.block_lt_of_cell? w _ hx297_0)).trans hx297_0; replace hx297_1 := (HB.out.cell (World.block_lt_of_cell? w _ hx297_1)).trans hx297_1; replace hx297_0 := (cell_far (p := ⟨gb296, 0, none⟩) (nb hn297_0) (.int .i64 ((rd_T33 l0 x4_1).f0))).trans hx297_0; replace hx297_1 := (cell_far (p := ⟨gb296, 0, none⟩) (nb hn297_0) (.int .i64 ((rd_T33 l0 x4_1).f0))).trans hx297_1; replace hx297_0 := (cell_far (p := ⟨gb296, 1, none⟩) (nb hn297_1) (.int .i64 ((rd_T33 l0 x4_1).f1))).trans hx297_0; replace hx297_1 := (cell_far (p := ⟨gb296, 1, none⟩) (nb hn297_1) (.int .i64 ((rd_T33 l0 x4_1).f1))).trans hx297_1; clear hn297_0; clear hn297_1; replace p297 := eq_true p297; replace q297 := eq_true q297) | ((with_reducible refine gate_dst (N := 7) rfl ?_); refine bx_ 7 (cs := #[.int .i64 0, .int .i64 0]) (t := 33) ?_; intro gb298 hg w187 hbox hb; have n0_ := Aside0.mk (blk_below (bp BK296.out) hb); have n1_ := Aside0.mk (below_step (lb HB.out) hb); have n2_ := Aside0.mk (hbox); have n3_ := Aside0.mk ((by rw [hg]; exact (below_size (lb HB.out)) : w.heap.size ≤ gb298)); have n4_ := Aside0.mk ((by rw [hg]; exact (below_size (lb HB.out)) : w.heap.size ≤ gb298)); have n5_ := Aside0.mk ((by rw [hg]; exact Nat.ne_of_lt (blk_lt (bp BK296.out)) : gb296 ≠ gb298)); have n6_ := Aside0.mk ((by rw [hg]; exact Nat.ne_of_gt (blk_lt (bp BK296.out)) : gb298 ≠ gb296)); clear BK296; clear HB; have BK296 := n0_; have HB := n1_; have BK298 := n2_; have GW298 := n3_; have GE298 := n4_; have NB296_298 := n5_; have NB298_296 := n6_; clear n0_ n1_ n2_ n3_ n4_ n5_ n6_; clear hb hbox hg; have hnb188 := NB298_296.out; have hnc188 := NB296_298.out; have hcz189_0 : w187.cell? ⟨gb298, 0, none⟩ = some (.int .i64 0) := (blk_cell BK298.out 0).trans rfl; have hcz189_1 : w187.cell? ⟨gb298, 1, none⟩ = some (.int .i64 0) := (blk_cell BK298.out 1).trans rfl; have hfz189_0 := blk_frozen BK298.out 0; have hfz189_1 := blk_frozen BK298.out 1; have p299 : 0 ≤ (x5_2 : Int) := oa; have q299 : x5_2 < (l0.length : Int) := oa; obtain ⟨ad299, e299, hx299_0, hx299_1⟩ := at_T33 HR0.out x5_2 p299 q299; obtain rfl : ad295 = ad299 := (by injection e299); have hn299_0 : ad295.block ≠ gb298 := Nat.ne_of_lt (cl hx299_0 GW298.out); have hn299_1 : ad295.block ≠ gb298 := Nat.ne_of_lt (cl hx299_0 GW298.out); replace hx299_0 := (HB.out.cell (World.block_lt_of_cell? w _ hx299_0)).trans hx299_0; replace hx299_1 := (HB.out.cell (World.block_lt_of_cell? w _ hx299_1)).trans hx299_1; replace hx299_0 := (cell_far (p := ⟨gb298, 0, none⟩) (nb hn299_0) (.int .i64 ((rd_T33 l0 (ji10)).f0))).trans hx299_0; replace hx299_1 := (cell_far (p := ⟨gb298, 0, none⟩) (nb hn299_0) (.int .i64 ((rd_T33 l0 (ji10)).f0))).trans hx299_1; replace hx299_0 := (cell_far (p := ⟨gb298, 1, none⟩) (nb hn299_1) (.int .i64 ((rd_T33 l0 (ji10)).f1))).trans hx299_0; replace hx299_1 := (cell_far (p := ⟨gb298, 1, none⟩) (nb hn299_1) (.int .i64 ((rd_T33 l0 (ji10)).f1))).trans hx299_1; clear hn299_0; clear hn299_1; replace p299 := eq_true p299; replace q299 := eq_true q299) | ((with_reducible refine gate_dst (N := 8) rfl ?_); refine bx_ 8 (cs := #[.int .i64 0, .int .i64 0]) (t := 33) ?_; intro gb300 hg w190 hbox hb; have n0_ := Aside0.mk (blk_below (bf BK296.out) hb); have n1_ := Aside0.mk (blk_below (bp BK298.out) hb); have n2_ := Aside0.mk (below_step (lb HB.out) hb); have n3_ := Aside0.mk (hbox); have n4_ := Aside0.mk ((by rw [hg]; exact (below_size (lb HB.out)) : w.heap.size ≤ gb300)); have n5_ := Aside0.mk ((by rw [hg]; exact (below_size (lb HB.out)) : w.heap.size ≤ gb300)); have n6_ := Aside0.mk ((by rw [hg]; exact Nat.ne_of_lt (blk_lt (bf BK296.out)) : gb296 ≠ gb300)); have n7_ := Aside0.mk ((by rw [hg]; exact Nat.ne_of_gt (blk_lt (bf BK296.out)) : gb300 ≠ gb296)); have n8_ := Aside0.mk ((by rw [hg]; exact Nat.ne_of_lt (blk_lt (bp BK298.out)) : gb298 ≠ gb300)); have n9_ := Aside0.mk ((by rw [hg]; exact Nat.ne_of_gt (blk_lt (bp BK298.out)) : gb300 ≠ gb298)); clear BK296; clear BK298; clear HB; have BK296 := n0_; have BK298 := n1_; have HB := n2_; have BK300 := n3_; have GW300 := n4_; have GE300 := n5_; have NB296_300 := n6_; have NB300_296 := n7_; have NB298_300 := n8_; have NB300_298 := n9_; clear n0_ n1_ n2_ n3_ n4_ n5_ n6_ n7_ n8_ n9_; clear hb hbox hg; have hnb191 := NB300_296.out; have hnc191 := NB296_300.out; have hnb192 := NB300_298.out; have hnc192 := NB298_300.out; have hcz193_0 : w190.cell? ⟨gb300, 0, none⟩ = some (.int .i64 0) := (blk_cell BK300.out 0).trans rfl; have hcz193_1 : w190.cell? ⟨gb300, 1, none⟩ = some (.int .i64 0) := (blk_cell BK300.out 1).trans rfl; have hfz193_0 := blk_frozen BK300.out 0; have hfz193_1 := blk_frozen BK300.out 1; have p301 : 0 ≤ ((ji15) : Int) := oa; have q301 : (ji15) < (l0.length : Int) := oa; obtain ⟨ad301, e301, hx301_0, hx301_1⟩ := at_T33 HR0.out (ji15) p301 q301; obtain rfl : ad295 = ad301 := (by injection e301); have hn301_0 : ad295.block ≠ gb300 := Nat.ne_of_lt (cl hx301_0 GW300.out); have hn301_1 : ad295.block ≠ gb300 := Nat.ne_of_lt (cl hx301_0 GW300.out); replace hx301_0 := (HB.out.cell (World.block_lt_of_cell? w _ hx301_0)).trans hx301_0; replace hx301_1 := (HB.out.cell (World.block_lt_of_cell? w _ hx301_1)).trans hx301_1; replace hx301_0 := (cell_far (p := ⟨gb300, 0, none⟩) (nb hn301_0) (.int .i64 ((rd_T33 l0 x5_2).f0))).trans hx301_0; replace hx301_1 := (cell_far (p := ⟨gb300, 0, none⟩) (nb hn301_0) (.int .i64 ((rd_T33 l0 x5_2).f0))).trans hx301_1; replace hx301_0 := (cell_far (p := ⟨gb300, 1, none⟩) (nb hn301_1) (.int .i64 ((rd_T33 l0 x5_2).f1))).trans hx301_0; replace hx301_1 := (cell_far (p := ⟨gb300, 1, none⟩) (nb hn301_1) (.int .i64 ((rd_T33 l0 x5_2).f1))).trans hx301_1; clear hn301_0; clear hn301_1; replace p301 := eq_true p301; replace q301 := eq_true q301) | ((with_reducible refine gate_dst (N := 9) rfl ?_); refine bx_ 9 (cs := #[.int .i64 0, .int .i64 0]) (t := 33) ?_; intro gb302 hg w194 hbox hb; have n0_ := Aside0.mk (blk_below (bf BK296.out) hb); have n1_ := Aside0.mk (blk_below (bf BK298.out) hb); have n2_ := Aside0.mk (blk_below (bp BK300.out) hb); have n3_ := Aside0.mk (below_step (lb HB.out) hb); have n4_ := Aside0.mk (hbox); have n5_ := Aside0.mk ((by rw [hg]; exact (below_size (lb HB.out)) : w.heap.size ≤ gb302)); have n6_ := Aside0.mk ((by rw [hg]; exact (below_size (lb HB.out)) : w.heap.size ≤ gb302)); have n7_ := Aside0.mk ((by rw [hg]; exact Nat.ne_of_lt (blk_lt (bf BK296.out)) : gb296 ≠ gb302)); have n8_ := Aside0.mk ((by rw [hg]; exact Nat.ne_of_gt (blk_lt (bf BK296.out)) : gb302 ≠ gb296)); have n9_ := Aside0.mk ((by rw [hg]; exact Nat.ne_of_lt (blk_lt (bf BK298.out)) : gb298 ≠ gb302)); have n10_ := Aside0.mk ((by rw [hg]; exact Nat.ne_of_gt (blk_lt (bf BK298.out)) : gb302 ≠ gb298)); have n11_ := Aside0.mk ((by rw [hg]; exact Nat.ne_of_lt (blk_lt (bp BK300.out)) : gb300 ≠ gb302)); have n12_ := Aside0.mk ((by rw [hg]; exact Nat.ne_of_gt (blk_lt (bp BK300.out)) : gb302 ≠ gb300)); clear BK296; clear BK298; clear BK300; clear HB; have BK296 := n0_; have BK298 := n1_; have BK300 := n2_; have HB := n3_; have BK302 := n4_; have GW302 := n5_; have GE302 := n6_; have NB296_302 := n7_; have NB302_296 := n8_; have NB298_302 := n9_; have NB302_298 := n10_; have NB300_302 := n11_; have NB302_300 := n12_; clear n0_ n1_ n2_ n3_ n4_ n5_ n6_ n7_ n8_ n9_ n10_ n11_ n12_; clear hb hbox hg; have hnb195 := NB302_296.out; have hnc195 := NB296_302.out; have hnb196 := NB302_298.out; have hnc196 := NB298_302.out; have hnb197 := NB302_300.out; have hnc197 := NB300_302.out; have hcz198_0 : w194.cell? ⟨gb302, 0, none⟩ = some (.int .i64 0) := (blk_cell BK302.out 0).trans rfl; have hcz198_1 : w194.cell? ⟨gb302, 1, none⟩ = some (.int .i64 0) := (blk_cell BK302.out 1).trans rfl; have hfz198_0 := blk_frozen BK302.out 0; have hfz198_1 := blk_frozen BK302.out 1; have hcz199_0 : w194.cell? ⟨gb296, 0, none⟩ = some (.int .i64 ((rd_T33 l0 x4_1).f0)) := (blk_cell BK296.out 0).trans rfl; have hcz199_1 : w194.cell? ⟨gb296, 1, none⟩ = some (.int .i64 ((rd_T33 l0 x4_1).f1)) := (blk_cell BK296.out 1).trans rfl; have hfz199_0 := blk_frozen BK296.out 0; have hfz199_1 := blk_frozen BK296.out 1; have hcz200_0 : w194.cell? ⟨gb298, 0, none⟩ = some (.int .i64 ((rd_T33 l0 (ji10)).f0)) := (blk_cell BK298.out 0).trans rfl; have hcz200_1 : w194.cell? ⟨gb298, 1, none⟩ = some (.int .i64 ((rd_T33 l0 (ji10)).f1)) := (blk_cell BK298.out 1).trans rfl; have hfz200_0 := blk_frozen BK298.out 0; have hfz200_1 := blk_frozen BK298.out 1; have hcz201_0 : w194.cell? ⟨gb300, 0, none⟩ = some (.int .i64 ((rd_T33 l0 x5_2).f0)) := (blk_cell BK300.out 0).trans rfl; have hcz201_1 : w194.cell? ⟨gb300, 1, none⟩ = some (.int .i64 ((rd_T33 l0 x5_2).f1)) := (blk_cell BK300.out 1).trans rfl; have hfz201_0 := blk_frozen BK300.out 0; have hfz201_1 := blk_frozen BK300.out 1) | ((with_reducible refine gate_callee (f := 62) rfl ?_); refine goesL_ (some 53) rfl rfl Try.func62 (by kernel_rfl) rfl #[.agg #[.int .i64 ((rd_T33 l0 x4_1).f0), .int .i64 ((rd_T33 l0 x4_1).f1)], .agg #[.int .i64 ((rd_T33 l0 (ji10)).f0), .int .i64 ((rd_T33 l0 (ji10)).f1)], .agg #[.int .i64 ((rd_T33 l0 x5_2).f0), .int .i64 ((rd_T33 l0 x5_2).f1)], .agg #[.int .i64 ((rd_T33 l0 (ji15)).f0), .int .i64 ((rd_T33 l0 (ji15)).f1)]] rfl (by (try simp only [List.map_toArray, List.map_cons, List.map_nil]); first | done | (simp only [hji10, hji15]; rfl) | rfl | (simp only [List.length_drop, List.length_take]; rfl)) ?_; (with_reducible refine (spec_l31Meet.calls k2 ((rd_T33 l0 x4_1).f0) ((rd_T33 l0 x4_1).f1) ((rd_T33 l0 (ji10)).f0) ((rd_T33 l0 (ji10)).f1) ((rd_T33 l0 x5_2).f0) ((rd_T33 l0 x5_2).f1) ((rd_T33 l0 (ji15)).f0) ((rd_T33 l0 (ji15)).f1) true _ A183.out).mono ?_); rintro e w202 ⟨rfl, hb⟩; refine ⟨_, rfl, ?_⟩; have n0_ := Aside0.mk (blk_below (bf BK296.out) hb); have n1_ := Aside0.mk (blk_below (bf BK298.out) hb); have n2_ := Aside0.mk (blk_below (bf BK300.out) hb); have n3_ := Aside0.mk (blk_below (bp BK302.out) hb); have n4_ := Aside0.mk (below_step (lb HB.out) hb); clear BK296; clear BK298; clear BK300; clear BK302; clear HB; have BK296 := n0_; have BK298 := n1_; have BK300 := n2_; have BK302 := n3_; have HB := n4_; clear n0_ n1_ n2_ n3_ n4_; (try clear hb); (try clear hb2); (try clear hk); (try clear hi)))
                    go_ret
                    exact ⟨by first | rfl | (simp [errW_none, errW_some] <;> rfl) | (simp only [← hji10, ← hji15]; first | rfl | (simp [errW_none, errW_some] <;> rfl)) | (simp [*, errW_none, errW_some] <;> rfl), lb HB.out⟩
                   ·replace c184 := Bool.eq_false_iff.mpr c184
                    subst c184
                    have H1 : (spec_PolyValid.l1 k2 l0 (l0.length : Int) x4_1 (wrap64 (x5_2 + 1))) = some r := by rw [if_neg (show ¬ (false = true) by decide)] at H; exact H
                    clear H
                    have H := H1
                    clear H1
                    have H' := Aside0.mk H
                    clear H
                    have p295 : 0 ≤ (x4_1 : Int) := oa
                    have q295 : x4_1 < (l0.length : Int) := oa
                    obtain ⟨ad295, e295, hx295_0, hx295_1⟩ := at_T33 HR0.out x4_1 p295 q295
                    cases e295
                    replace hx295_0 := (HB.out.cell (World.block_lt_of_cell? w _ hx295_0)).trans hx295_0
                    replace hx295_1 := (HB.out.cell (World.block_lt_of_cell? w _ hx295_1)).trans hx295_1
                    replace p295 := eq_true p295
                    replace q295 := eq_true q295
                    go_wp2_with (first | ((with_reducible refine gate_dst (N := 6) rfl ?_); refine bx_ 6 (cs := #[.int .i64 0, .int .i64 0]) (t := 33) ?_; intro gb296 hg w203 hbox hb; have n0_ := Aside0.mk (below_step (lb HB.out) hb); have n1_ := Aside0.mk (hbox); have n2_ := Aside0.mk ((by rw [hg]; exact (below_size (lb HB.out)) : w.heap.size ≤ gb296)); have n3_ := Aside0.mk ((by rw [hg]; exact (below_size (lb HB.out)) : w.heap.size ≤ gb296)); clear HB; have HB := n0_; have BK296 := n1_; have GW296 := n2_; have GE296 := n3_; clear n0_ n1_ n2_ n3_; clear hb hbox hg; have hcz204_0 : w203.cell? ⟨gb296, 0, none⟩ = some (.int .i64 0) := (blk_cell BK296.out 0).trans rfl; have hcz204_1 : w203.cell? ⟨gb296, 1, none⟩ = some (.int .i64 0) := (blk_cell BK296.out 1).trans rfl; have hfz204_0 := blk_frozen BK296.out 0; have hfz204_1 := blk_frozen BK296.out 1; have p297 : 0 ≤ ((ji10) : Int) := oa; have q297 : (ji10) < (l0.length : Int) := oa; obtain ⟨ad297, e297, hx297_0, hx297_1⟩ := at_T33 HR0.out (ji10) p297 q297; obtain rfl : ad295 = ad297 := (by injection e297); have hn297_0 : ad295.block ≠ gb296 := Nat.ne_of_lt (cl hx297_0 GW296.out); have hn297_1 : ad295.block ≠ gb296 := Nat.ne_of_lt (cl hx297_0 GW296.out); replace hx297_0 := (HB.out.cell (World.block_lt_of_cell? w _ hx297_0)).trans hx297_0; replace hx297_1 := (HB.out.cell (World.block_lt_of_cell? w _ hx297_1)).trans hx297_1; replace hx297_0 := (cell_far (p := ⟨gb296, 0, none⟩) (nb hn297_0) (.int .i64 ((rd_T33 l0 x4_1).f0))).trans hx297_0; replace hx297_1 := (cell_far (p := ⟨gb296, 0, none⟩) (nb hn297_0) (.int .i64 ((rd_T33 l0 x4_1).f0))).trans hx297_1; replace hx297_0 := (cell_far (p := ⟨gb296, 1, none⟩) (nb hn297_1) (.int .i64 ((rd_T33 l0 x4_1).f1))).trans hx297_0; replace hx297_1 := (cell_far (p := ⟨gb296, 1, none⟩) (nb hn297_1) (.int .i64 ((rd_T33 l0 x4_1).f1))).trans hx297_1; clear hn297_0; clear hn297_1; replace p297 := eq_true p297; replace q297 := eq_true q297) | ((with_reducible refine gate_dst (N := 7) rfl ?_); refine bx_ 7 (cs := #[.int .i64 0, .int .i64 0]) (t := 33) ?_; intro gb298 hg w205 hbox hb; have n0_ := Aside0.mk (blk_below (bp BK296.out) hb); have n1_ := Aside0.mk (below_step (lb HB.out) hb); have n2_ := Aside0.mk (hbox); have n3_ := Aside0.mk ((by rw [hg]; exact (below_size (lb HB.out)) : w.heap.size ≤ gb298)); have n4_ := Aside0.mk ((by rw [hg]; exact (below_size (lb HB.out)) : w.heap.size ≤ gb298)); have n5_ := Aside0.mk ((by rw [hg]; exact Nat.ne_of_lt (blk_lt (bp BK296.out)) : gb296 ≠ gb298)); have n6_ := Aside0.mk ((by rw [hg]; exact Nat.ne_of_gt (blk_lt (bp BK296.out)) : gb298 ≠ gb296)); clear BK296; clear HB; have BK296 := n0_; have HB := n1_; have BK298 := n2_; have GW298 := n3_; have GE298 := n4_; have NB296_298 := n5_; have NB298_296 := n6_; clear n0_ n1_ n2_ n3_ n4_ n5_ n6_; clear hb hbox hg; have hnb206 := NB298_296.out; have hnc206 := NB296_298.out; have hcz207_0 : w205.cell? ⟨gb298, 0, none⟩ = some (.int .i64 0) := (blk_cell BK298.out 0).trans rfl; have hcz207_1 : w205.cell? ⟨gb298, 1, none⟩ = some (.int .i64 0) := (blk_cell BK298.out 1).trans rfl; have hfz207_0 := blk_frozen BK298.out 0; have hfz207_1 := blk_frozen BK298.out 1; have p299 : 0 ≤ (x5_2 : Int) := oa; have q299 : x5_2 < (l0.length : Int) := oa; obtain ⟨ad299, e299, hx299_0, hx299_1⟩ := at_T33 HR0.out x5_2 p299 q299; obtain rfl : ad295 = ad299 := (by injection e299); have hn299_0 : ad295.block ≠ gb298 := Nat.ne_of_lt (cl hx299_0 GW298.out); have hn299_1 : ad295.block ≠ gb298 := Nat.ne_of_lt (cl hx299_0 GW298.out); replace hx299_0 := (HB.out.cell (World.block_lt_of_cell? w _ hx299_0)).trans hx299_0; replace hx299_1 := (HB.out.cell (World.block_lt_of_cell? w _ hx299_1)).trans hx299_1; replace hx299_0 := (cell_far (p := ⟨gb298, 0, none⟩) (nb hn299_0) (.int .i64 ((rd_T33 l0 (ji10)).f0))).trans hx299_0; replace hx299_1 := (cell_far (p := ⟨gb298, 0, none⟩) (nb hn299_0) (.int .i64 ((rd_T33 l0 (ji10)).f0))).trans hx299_1; replace hx299_0 := (cell_far (p := ⟨gb298, 1, none⟩) (nb hn299_1) (.int .i64 ((rd_T33 l0 (ji10)).f1))).trans hx299_0; replace hx299_1 := (cell_far (p := ⟨gb298, 1, none⟩) (nb hn299_1) (.int .i64 ((rd_T33 l0 (ji10)).f1))).trans hx299_1; clear hn299_0; clear hn299_1; replace p299 := eq_true p299; replace q299 := eq_true q299) | ((with_reducible refine gate_dst (N := 8) rfl ?_); refine bx_ 8 (cs := #[.int .i64 0, .int .i64 0]) (t := 33) ?_; intro gb300 hg w208 hbox hb; have n0_ := Aside0.mk (blk_below (bf BK296.out) hb); have n1_ := Aside0.mk (blk_below (bp BK298.out) hb); have n2_ := Aside0.mk (below_step (lb HB.out) hb); have n3_ := Aside0.mk (hbox); have n4_ := Aside0.mk ((by rw [hg]; exact (below_size (lb HB.out)) : w.heap.size ≤ gb300)); have n5_ := Aside0.mk ((by rw [hg]; exact (below_size (lb HB.out)) : w.heap.size ≤ gb300)); have n6_ := Aside0.mk ((by rw [hg]; exact Nat.ne_of_lt (blk_lt (bf BK296.out)) : gb296 ≠ gb300)); have n7_ := Aside0.mk ((by rw [hg]; exact Nat.ne_of_gt (blk_lt (bf BK296.out)) : gb300 ≠ gb296)); have n8_ := Aside0.mk ((by rw [hg]; exact Nat.ne_of_lt (blk_lt (bp BK298.out)) : gb298 ≠ gb300)); have n9_ := Aside0.mk ((by rw [hg]; exact Nat.ne_of_gt (blk_lt (bp BK298.out)) : gb300 ≠ gb298)); clear BK296; clear BK298; clear HB; have BK296 := n0_; have BK298 := n1_; have HB := n2_; have BK300 := n3_; have GW300 := n4_; have GE300 := n5_; have NB296_300 := n6_; have NB300_296 := n7_; have NB298_300 := n8_; have NB300_298 := n9_; clear n0_ n1_ n2_ n3_ n4_ n5_ n6_ n7_ n8_ n9_; clear hb hbox hg; have hnb209 := NB300_296.out; have hnc209 := NB296_300.out; have hnb210 := NB300_298.out; have hnc210 := NB298_300.out; have hcz211_0 : w208.cell? ⟨gb300, 0, none⟩ = some (.int .i64 0) := (blk_cell BK300.out 0).trans rfl; have hcz211_1 : w208.cell? ⟨gb300, 1, none⟩ = some (.int .i64 0) := (blk_cell BK300.out 1).trans rfl; have hfz211_0 := blk_frozen BK300.out 0; have hfz211_1 := blk_frozen BK300.out 1; have p301 : 0 ≤ ((ji15) : Int) := oa; have q301 : (ji15) < (l0.length : Int) := oa; obtain ⟨ad301, e301, hx301_0, hx301_1⟩ := at_T33 HR0.out (ji15) p301 q301; obtain rfl : ad295 = ad301 := (by injection e301); have hn301_0 : ad295.block ≠ gb300 := Nat.ne_of_lt (cl hx301_0 GW300.out); have hn301_1 : ad295.block ≠ gb300 := Nat.ne_of_lt (cl hx301_0 GW300.out); replace hx301_0 := (HB.out.cell (World.block_lt_of_cell? w _ hx301_0)).trans hx301_0; replace hx301_1 := (HB.out.cell (World.block_lt_of_cell? w _ hx301_1)).trans hx301_1; replace hx301_0 := (cell_far (p := ⟨gb300, 0, none⟩) (nb hn301_0) (.int .i64 ((rd_T33 l0 x5_2).f0))).trans hx301_0; replace hx301_1 := (cell_far (p := ⟨gb300, 0, none⟩) (nb hn301_0) (.int .i64 ((rd_T33 l0 x5_2).f0))).trans hx301_1; replace hx301_0 := (cell_far (p := ⟨gb300, 1, none⟩) (nb hn301_1) (.int .i64 ((rd_T33 l0 x5_2).f1))).trans hx301_0; replace hx301_1 := (cell_far (p := ⟨gb300, 1, none⟩) (nb hn301_1) (.int .i64 ((rd_T33 l0 x5_2).f1))).trans hx301_1; clear hn301_0; clear hn301_1; replace p301 := eq_true p301; replace q301 := eq_true q301) | ((with_reducible refine gate_dst (N := 9) rfl ?_); refine bx_ 9 (cs := #[.int .i64 0, .int .i64 0]) (t := 33) ?_; intro gb302 hg w212 hbox hb; have n0_ := Aside0.mk (blk_below (bf BK296.out) hb); have n1_ := Aside0.mk (blk_below (bf BK298.out) hb); have n2_ := Aside0.mk (blk_below (bp BK300.out) hb); have n3_ := Aside0.mk (below_step (lb HB.out) hb); have n4_ := Aside0.mk (hbox); have n5_ := Aside0.mk ((by rw [hg]; exact (below_size (lb HB.out)) : w.heap.size ≤ gb302)); have n6_ := Aside0.mk ((by rw [hg]; exact (below_size (lb HB.out)) : w.heap.size ≤ gb302)); have n7_ := Aside0.mk ((by rw [hg]; exact Nat.ne_of_lt (blk_lt (bf BK296.out)) : gb296 ≠ gb302)); have n8_ := Aside0.mk ((by rw [hg]; exact Nat.ne_of_gt (blk_lt (bf BK296.out)) : gb302 ≠ gb296)); have n9_ := Aside0.mk ((by rw [hg]; exact Nat.ne_of_lt (blk_lt (bf BK298.out)) : gb298 ≠ gb302)); have n10_ := Aside0.mk ((by rw [hg]; exact Nat.ne_of_gt (blk_lt (bf BK298.out)) : gb302 ≠ gb298)); have n11_ := Aside0.mk ((by rw [hg]; exact Nat.ne_of_lt (blk_lt (bp BK300.out)) : gb300 ≠ gb302)); have n12_ := Aside0.mk ((by rw [hg]; exact Nat.ne_of_gt (blk_lt (bp BK300.out)) : gb302 ≠ gb300)); clear BK296; clear BK298; clear BK300; clear HB; have BK296 := n0_; have BK298 := n1_; have BK300 := n2_; have HB := n3_; have BK302 := n4_; have GW302 := n5_; have GE302 := n6_; have NB296_302 := n7_; have NB302_296 := n8_; have NB298_302 := n9_; have NB302_298 := n10_; have NB300_302 := n11_; have NB302_300 := n12_; clear n0_ n1_ n2_ n3_ n4_ n5_ n6_ n7_ n8_ n9_ n10_ n11_ n12_; clear hb hbox hg; have hnb213 := NB302_296.out; have hnc213 := NB296_302.out; have hnb214 := NB302_298.out; have hnc214 := NB298_302.out; have hnb215 := NB302_300.out; have hnc215 := NB300_302.out; have hcz216_0 : w212.cell? ⟨gb302, 0, none⟩ = some (.int .i64 0) := (blk_cell BK302.out 0).trans rfl; have hcz216_1 : w212.cell? ⟨gb302, 1, none⟩ = some (.int .i64 0) := (blk_cell BK302.out 1).trans rfl; have hfz216_0 := blk_frozen BK302.out 0; have hfz216_1 := blk_frozen BK302.out 1; have hcz217_0 : w212.cell? ⟨gb296, 0, none⟩ = some (.int .i64 ((rd_T33 l0 x4_1).f0)) := (blk_cell BK296.out 0).trans rfl; have hcz217_1 : w212.cell? ⟨gb296, 1, none⟩ = some (.int .i64 ((rd_T33 l0 x4_1).f1)) := (blk_cell BK296.out 1).trans rfl; have hfz217_0 := blk_frozen BK296.out 0; have hfz217_1 := blk_frozen BK296.out 1; have hcz218_0 : w212.cell? ⟨gb298, 0, none⟩ = some (.int .i64 ((rd_T33 l0 (ji10)).f0)) := (blk_cell BK298.out 0).trans rfl; have hcz218_1 : w212.cell? ⟨gb298, 1, none⟩ = some (.int .i64 ((rd_T33 l0 (ji10)).f1)) := (blk_cell BK298.out 1).trans rfl; have hfz218_0 := blk_frozen BK298.out 0; have hfz218_1 := blk_frozen BK298.out 1; have hcz219_0 : w212.cell? ⟨gb300, 0, none⟩ = some (.int .i64 ((rd_T33 l0 x5_2).f0)) := (blk_cell BK300.out 0).trans rfl; have hcz219_1 : w212.cell? ⟨gb300, 1, none⟩ = some (.int .i64 ((rd_T33 l0 x5_2).f1)) := (blk_cell BK300.out 1).trans rfl; have hfz219_0 := blk_frozen BK300.out 0; have hfz219_1 := blk_frozen BK300.out 1) | ((with_reducible refine gate_callee (f := 62) rfl ?_); refine goesL_ (some 53) rfl rfl Try.func62 (by kernel_rfl) rfl #[.agg #[.int .i64 ((rd_T33 l0 x4_1).f0), .int .i64 ((rd_T33 l0 x4_1).f1)], .agg #[.int .i64 ((rd_T33 l0 (ji10)).f0), .int .i64 ((rd_T33 l0 (ji10)).f1)], .agg #[.int .i64 ((rd_T33 l0 x5_2).f0), .int .i64 ((rd_T33 l0 x5_2).f1)], .agg #[.int .i64 ((rd_T33 l0 (ji15)).f0), .int .i64 ((rd_T33 l0 (ji15)).f1)]] rfl (by (try simp only [List.map_toArray, List.map_cons, List.map_nil]); first | done | (simp only [hji10, hji15]; rfl) | rfl | (simp only [List.length_drop, List.length_take]; rfl)) ?_; (with_reducible refine (spec_l31Meet.calls k2 ((rd_T33 l0 x4_1).f0) ((rd_T33 l0 x4_1).f1) ((rd_T33 l0 (ji10)).f0) ((rd_T33 l0 (ji10)).f1) ((rd_T33 l0 x5_2).f0) ((rd_T33 l0 x5_2).f1) ((rd_T33 l0 (ji15)).f0) ((rd_T33 l0 (ji15)).f1) false _ A183.out).mono ?_); rintro e w220 ⟨rfl, hb⟩; refine ⟨_, rfl, ?_⟩; have n0_ := Aside0.mk (blk_below (bf BK296.out) hb); have n1_ := Aside0.mk (blk_below (bf BK298.out) hb); have n2_ := Aside0.mk (blk_below (bf BK300.out) hb); have n3_ := Aside0.mk (blk_below (bp BK302.out) hb); have n4_ := Aside0.mk (below_step (lb HB.out) hb); clear BK296; clear BK298; clear BK300; clear BK302; clear HB; have BK296 := n0_; have BK298 := n1_; have BK300 := n2_; have BK302 := n3_; have HB := n4_; clear n0_ n1_ n2_ n3_ n4_; (try clear hb); (try clear hb2); (try clear hk); (try clear hi)))
                    go_roundg k2
                    case measure => have := HK1.out; have := HK2.out; omega
                    case rel => exact ⟨(wrap64 (x5_2 + 1)), (by first | rfl | (simp; done) | (simp [*]; done)), H', ⟨by have := HK1.out; have := HK2.out; omega⟩, ⟨lb HB.out⟩⟩
                ·rw [if_neg c17] at H
                 exact absurd H (by simp)
               ·rw [if_neg c16] at H
                exact absurd H (by simp)
              ·rw [if_neg c14] at H
               exact absurd H (by simp)
             ·rw [if_neg c13] at H
              exact absurd H (by simp)
            ·rw [if_neg c12] at H
             exact absurd H (by simp)
           ·rw [if_neg c11] at H
            exact absurd H (by simp)
         ·rw [if_neg c8] at H
          exact absurd H (by simp)
        ·rw [if_neg c7] at H
         exact absurd H (by simp)
       ·rw [if_neg c6] at H
        have c6b0 : decide (x5_2 < (l0.length : Int)) = false := decide_eq_false c6
        clear c6
        have H' := Aside0.mk H
        clear H
        go_wp2
        go_roundg k2
        case measure => have := HK1.out; have := HK2.out; omega
        case rel => exact ⟨(wrap64 (x4_1 + 1)), (by first | rfl | (simp; done) | (simp [*]; done)), H', ⟨by have := HK1.out; have := HK2.out; omega⟩, ⟨lb HB.out⟩⟩
    ·rw [if_neg c5] at H
     have c5b0 : decide (x4_1 < (l0.length : Int)) = false := decide_eq_false c5
     clear c5
     obtain rfl := Option.some.inj H
     go_wp2
     go_ret
     exact ⟨er, lb HB.out⟩
 ·replace c3 := Bool.eq_false_iff.mpr c3
  subst c3
  have H1 : (some false) = some r := by rw [if_neg (show ¬ (false = true) by decide)] at H; exact H
  clear H
  have H := H1
  clear H1
  obtain rfl := Option.some.inj H
  go_enter Try.func66, Try.ntmps66
  go_wp2_with (first | ((with_reducible refine gate_callee (f := 88) rfl ?_); refine goesL_ (some 11) rfl rfl Try.func88 (by kernel_rfl) rfl #[.slice A0 l0.length c0] rfl al ?_; (with_reducible refine (spec_l31Points.calls k _ _ l0 false _ ?side1 ?side2 A2.out).mono ?_); (case side1 => repeat (first | exact HR0.out | (with_reducible refine Kd.C_alloc ?_ _) | (with_reducible refine Kd.C_drewN ?_ _) | (with_reducible refine Kd.C_drew ?_))); (case side2 => exact HC0.out); rintro e w221 ⟨rfl, hb⟩; refine ⟨_, rfl, ?_⟩; have n0_ := Aside0.mk (below_step (lb HB.out) hb); clear HB; have HB := n0_; clear n0_; (try clear hb); (try clear hb2); (try clear hk); (try clear hi)))
  go_ret
  exact ⟨er, lb HB.out⟩
def spec_ParcelValid.f (k : Nat) (l0 : List (S33)) : Option (Bool) := (spec_PolyValid.f k l0).bind fun t308 => (if t308 = true then ((spec_l31Area.f k l0).bind fun t309 => (some (decide (t309 > 0)))) else (some false))
theorem spec_ParcelValid.mono : ∀ a0 k, LeO (spec_ParcelValid.f k a0) (spec_ParcelValid.f (k + 1) a0) := by
 intro a0 k
 unfold spec_ParcelValid.f
 repeat' first
   | (with_reducible exact spec_PolyValid.mono _ _)
   | (with_reducible exact spec_l31Area.mono _ _)
   | (with_reducible exact LeO.refl _)
   | (with_reducible exact LeO.none _)
   | (with_reducible refine LeO.ite ?_ ?_)
   | (with_reducible refine LeO.bind ?_ (fun _ => ?_))
   | exact spec_PolyValid.mono _ _
   | exact spec_l31Area.mono _ _
   | exact LeO.none _
   | refine LeO.ite ?_ ?_
   | refine LeO.bind ?_ (fun _ => ?_)
set_option maxHeartbeats 8000000 in
set_option maxRecDepth 100000 in
theorem spec_ParcelValid.calls (k : Nat) (A0 : Option Addr) (c0 : Nat) (l0 : List (S33)) (r : Bool) (w : World) (hr0 : Kd.C k33 w A0 l0.length l0) (hc0 : l0.length ≤ c0) (h : spec_ParcelValid.f k l0 = some r) :
  Calls Try.prog 35 #[.slice A0 l0.length c0] w fun e w' => e = .returned (.bool r) ∧ Below w.heap.size w w' := by
 have HR0 := Aside0.mk hr0
 have HC0 := Aside0.mk hc0
 clear hr0 hc0
 have HB := Aside0.mk (Below.refl w.heap.size w)
 have H : ((spec_PolyValid.f k l0).bind fun t308 => (if t308 = true then ((spec_l31Area.f k l0).bind fun t309 => (some (decide (t309 > 0)))) else (some false))) = some r := h
 clear h
 replace H := Option.bind_eq_some_iff.mp H
 obtain ⟨t308, A20, H⟩ := H
 replace H : (if t308 = true then ((spec_l31Area.f k l0).bind fun t309 => (some (decide (t309 > 0)))) else (some false)) = some r := H
 have A2 := Aside0.mk A20
 clear A20
 by_cases c3 : t308 = true
 ·subst c3
  have H1 : ((spec_l31Area.f k l0).bind fun t309 => (some (decide (t309 > 0)))) = some r := by rw [if_pos rfl] at H; exact H
  clear H
  have H := H1
  clear H1
  replace H := Option.bind_eq_some_iff.mp H
  obtain ⟨t309, A40, H⟩ := H
  replace H : (some (decide (t309 > 0))) = some r := H
  have A4 := Aside0.mk A40
  clear A40
  obtain rfl := Option.some.inj H
  go_enter Try.func35, Try.ntmps35
  go_wp2_with (first | ((with_reducible refine gate_callee (f := 66) rfl ?_); refine goesL_ (some 4) rfl rfl Try.func66 (by kernel_rfl) rfl #[.slice A0 l0.length c0] rfl al ?_; (with_reducible refine (spec_PolyValid.calls k _ _ l0 true _ ?side1 ?side2 A2.out).mono ?_); (case side1 => repeat (first | exact HR0.out | (with_reducible refine Kd.C_alloc ?_ _) | (with_reducible refine Kd.C_drewN ?_ _) | (with_reducible refine Kd.C_drew ?_))); (case side2 => exact HC0.out); rintro e w5 ⟨rfl, hb⟩; refine ⟨_, rfl, ?_⟩; have n0_ := Aside0.mk (below_step (lb HB.out) hb); clear HB; have HB := n0_; clear n0_; (try clear hb); (try clear hb2); (try clear hk); (try clear hi)) | (go_at_call 50; (with_reducible refine (spec_l31Area.calls k _ _ l0 t309 _ ?side1 ?side2 A4.out).mono ?_); (case side1 => exact cm (Kd.C_below HR0.out HB.out)); (case side2 => exact HC0.out); rintro e w6 ⟨rfl, hb⟩; have n0_ := Aside0.mk (below_step (lb HB.out) hb); clear HB; have HB := n0_; clear n0_; (try clear hb); (try clear hb2); (try clear hk); (try clear hi)))
  go_ret
  exact ⟨er, lb HB.out⟩
 ·replace c3 := Bool.eq_false_iff.mpr c3
  subst c3
  have H1 : (some false) = some r := by rw [if_neg (show ¬ (false = true) by decide)] at H; exact H
  clear H
  have H := H1
  clear H1
  obtain rfl := Option.some.inj H
  go_enter Try.func35, Try.ntmps35
  go_wp2_with (first | ((with_reducible refine gate_callee (f := 66) rfl ?_); refine goesL_ (some 4) rfl rfl Try.func66 (by kernel_rfl) rfl #[.slice A0 l0.length c0] rfl al ?_; (with_reducible refine (spec_PolyValid.calls k _ _ l0 false _ ?side1 ?side2 A2.out).mono ?_); (case side1 => repeat (first | exact HR0.out | (with_reducible refine Kd.C_alloc ?_ _) | (with_reducible refine Kd.C_drewN ?_ _) | (with_reducible refine Kd.C_drew ?_))); (case side2 => exact HC0.out); rintro e w7 ⟨rfl, hb⟩; refine ⟨_, rfl, ?_⟩; have n0_ := Aside0.mk (below_step (lb HB.out) hb); clear HB; have HB := n0_; clear n0_; (try clear hb); (try clear hb2); (try clear hk); (try clear hi)))
  go_ret
  exact ⟨er, lb HB.out⟩
end Go.Proofs.Ytfonigbkoligmaa.P
-- squeezed

import Derived.Test.YtfonigbkoligmaaPx0
import Derived.Test.YtfonigbkoligmaaPx1
import Derived.Test.YtfonigbkoligmaaPx4
import Derived.Test.YtfonigbkoligmaaPx7
namespace Go.Proofs.Ytfonigbkoligmaa.P
open Go.RowKit Go.Proofs.YtfonigbkoligmaaW.PrintWords Go.Proofs.YtfonigbkoligmaaW.PrintLast Go.Proofs.YtfonigbkoligmaaW.PrintMore
attribute [local go_sem] max2_int min2_int max_two min_two max_three min_three max_four min_four
set_option linter.unusedVariables false
set_option linter.unusedSimpArgs false
attribute [local go_sem high] eqA33
def spec_l31Meet.j0 : Nat → Bool → Int → Int → Int → Int → Int → Int → Int → Int → Option (Bool)
 | 0, _, _, _, _, _, _, _, _, _ => none
 | k + 1, x30, x351000, x351001, x352000, x352001, x353000, x353001, x354000, x354001 => if x30 = true then (some true) else ((spec_l31Side.f x351000 x351001 x352000 x352001 x353000 x353001).bind fun t358 => ((spec_l31Side.f x351000 x351001 x352000 x352001 x354000 x354001).bind fun t359 => (if (wrap64 (t358 * t359)) < 0 then ((spec_l31Side.f x353000 x353001 x354000 x354001 x351000 x351001).bind fun t360 => ((spec_l31Side.f x353000 x353001 x354000 x354001 x352000 x352001).bind fun t361 => (some (decide ((wrap64 (t360 * t361)) < 0))))) else (some false))))
def spec_l31Meet.f (k : Nat) (a0_0 : Int) (a0_1 : Int) (a1_0 : Int) (a1_1 : Int) (a2_0 : Int) (a2_1 : Int) (a3_0 : Int) (a3_1 : Int) : Option (Bool) := (spec_l2On.f a0_0 a0_1 a1_0 a1_1 a2_0 a2_1).bind fun t354 => (if t354 = true then (spec_l31Meet.j0 k true a0_0 a0_1 a1_0 a1_1 a2_0 a2_1 a3_0 a3_1) else ((spec_l2On.f a0_0 a0_1 a1_0 a1_1 a3_0 a3_1).bind fun t355 => (if t355 = true then (spec_l31Meet.j0 k true a0_0 a0_1 a1_0 a1_1 a2_0 a2_1 a3_0 a3_1) else ((spec_l2On.f a2_0 a2_1 a3_0 a3_1 a0_0 a0_1).bind fun t356 => (if t356 = true then (spec_l31Meet.j0 k true a0_0 a0_1 a1_0 a1_1 a2_0 a2_1 a3_0 a3_1) else ((spec_l2On.f a2_0 a2_1 a3_0 a3_1 a1_0 a1_1).bind fun t357 => (spec_l31Meet.j0 k t357 a0_0 a0_1 a1_0 a1_1 a2_0 a2_1 a3_0 a3_1)))))))
theorem spec_l31Meet.mono_l : ∀ k, (∀ y0 y1 y2 y3 y4 y5 y6 y7 y8, LeO (spec_l31Meet.j0 k y0 y1 y2 y3 y4 y5 y6 y7 y8) (spec_l31Meet.j0 (k + 1) y0 y1 y2 y3 y4 y5 y6 y7 y8))
 | 0 => fun _ _ _ _ _ _ _ _ _ r h => by simp [spec_l31Meet.j0] at h
 | k + 1 => by
  have ih0 := spec_l31Meet.mono_l k
  ·intro y0 y1 y2 y3 y4 y5 y6 y7 y8
   unfold spec_l31Meet.j0
   repeat' first
   | (with_reducible exact ih0 _ _ _ _ _ _ _ _ _)
   | (with_reducible exact LeO.refl _)
   | (with_reducible exact LeO.none _)
   | (with_reducible refine LeO.ite ?_ ?_)
   | (with_reducible refine LeO.bind ?_ (fun _ => ?_))
   | exact ih0 _ _ _ _ _ _ _ _ _
   | exact LeO.none _
   | refine LeO.ite ?_ ?_
   | refine LeO.bind ?_ (fun _ => ?_)
theorem spec_l31Meet.mono : ∀ a0 a1 a2 a3 a4 a5 a6 a7 k, LeO (spec_l31Meet.f k a0 a1 a2 a3 a4 a5 a6 a7) (spec_l31Meet.f (k + 1) a0 a1 a2 a3 a4 a5 a6 a7) := by
 intro a0 a1 a2 a3 a4 a5 a6 a7 k
 have ih0 := spec_l31Meet.mono_l k
 unfold spec_l31Meet.f
 repeat' first
   | (with_reducible exact ih0 _ _ _ _ _ _ _ _ _)
   | (with_reducible exact LeO.refl _)
   | (with_reducible exact LeO.none _)
   | (with_reducible refine LeO.ite ?_ ?_)
   | (with_reducible refine LeO.bind ?_ (fun _ => ?_))
   | exact ih0 _ _ _ _ _ _ _ _ _
   | exact LeO.none _
   | refine LeO.ite ?_ ?_
   | refine LeO.bind ?_ (fun _ => ?_)
def spec_l31Meet.T3 : Bool × List (List Nat × List Nat) := (true,[([],[]),([],[]),([],[]),([0,1,2],[0,1,2]),([],[]),([],[]),([],[]),([4,5,6,3],[4,5,6]),([3,7],[3,7]),([8],[8]),([9,7],[9]),([10],[10]),([10],[10]),([10],[10]),([11,12,13,10,10],[10,11,12,13]),([10],[10]),([10],[10]),([10],[10]),([15,16,17,14,10],[10,15,16,17]),([14,18,10],[10,14,18]),([19,10],[10,19]),([10,20],[10,20]),([21,18,0,1,2,3,4,5,6,7,8,9,10,11,12,13,14,15,16,17,18,19,20,21],[21])])
def spec_l31Meet.B3 : List Nat := [0,0,0,7,0,0,0,127,255,511,1023,2047,2047,2047,16383,2047,2047,2047,262143,524287,1048575,2097151,4194303]
theorem spec_l31Meet.tab3 : rtab .any (opsOf Try.f62 3) = spec_l31Meet.T3 := by kernel_rfl
theorem spec_l31Meet.bits3 : waitsOk spec_l31Meet.T3.2 spec_l31Meet.B3 = true := by kernel_rfl
set_option maxHeartbeats 8000000 in
set_option maxRecDepth 100000 in
theorem spec_l31Meet.calls (k : Nat) (a0_0 : Int) (a0_1 : Int) (a1_0 : Int) (a1_1 : Int) (a2_0 : Int) (a2_1 : Int) (a3_0 : Int) (a3_1 : Int) (r : Bool) (w : World) (h : spec_l31Meet.f k a0_0 a0_1 a1_0 a1_1 a2_0 a2_1 a3_0 a3_1 = some r) :
  Calls Try.prog 62 #[.agg #[.int .i64 a0_0, .int .i64 a0_1], .agg #[.int .i64 a1_0, .int .i64 a1_1], .agg #[.int .i64 a2_0, .int .i64 a2_1], .agg #[.int .i64 a3_0, .int .i64 a3_1]] w fun e w' => e = .returned (.bool r) ∧ Below w.heap.size w w' := by
 have hu33 := Try.underlying33
 have HB := Aside0.mk (Below.refl w.heap.size w)
 have H : ((spec_l2On.f a0_0 a0_1 a1_0 a1_1 a2_0 a2_1).bind fun t354 => (if t354 = true then (spec_l31Meet.j0 k true a0_0 a0_1 a1_0 a1_1 a2_0 a2_1 a3_0 a3_1) else ((spec_l2On.f a0_0 a0_1 a1_0 a1_1 a3_0 a3_1).bind fun t355 => (if t355 = true then (spec_l31Meet.j0 k true a0_0 a0_1 a1_0 a1_1 a2_0 a2_1 a3_0 a3_1) else ((spec_l2On.f a2_0 a2_1 a3_0 a3_1 a0_0 a0_1).bind fun t356 => (if t356 = true then (spec_l31Meet.j0 k true a0_0 a0_1 a1_0 a1_1 a2_0 a2_1 a3_0 a3_1) else ((spec_l2On.f a2_0 a2_1 a3_0 a3_1 a1_0 a1_1).bind fun t357 => (spec_l31Meet.j0 k t357 a0_0 a0_1 a1_0 a1_1 a2_0 a2_1 a3_0 a3_1)))))))) = some r := h
 clear h
 have HC5 := Aside0.mk H
 clear H
 go_enter Try.func62, Try.ntmps62
 go_upto_region 1 with (first | ((with_reducible refine gate_dst (N := 4) rfl ?_); refine bx_ 4 (cs := #[.int .i64 a0_0, .int .i64 a0_1]) (t := 33) ?_; intro gb350 hg w6 hbox hb; have n0_ := Aside0.mk (below_step (lb HB.out) hb); have n1_ := Aside0.mk (hbox); have n2_ := Aside0.mk ((by rw [hg]; exact (below_size (lb HB.out)) : w.heap.size ≤ gb350)); have n3_ := Aside0.mk ((by rw [hg]; exact (below_size (lb HB.out)) : w.heap.size ≤ gb350)); clear HB; have HB := n0_; have BK350 := n1_; have GW350 := n2_; have GE350 := n3_; clear n0_ n1_ n2_ n3_; clear hb hbox hg) | ((with_reducible refine gate_dst (N := 5) rfl ?_); refine bx_ 5 (cs := #[.int .i64 a1_0, .int .i64 a1_1]) (t := 33) ?_; intro gb351 hg w7 hbox hb; have n0_ := Aside0.mk (blk_below (bf BK350.out) hb); have n1_ := Aside0.mk (below_step (lb HB.out) hb); have n2_ := Aside0.mk (hbox); have n3_ := Aside0.mk ((by rw [hg]; exact (below_size (lb HB.out)) : w.heap.size ≤ gb351)); have n4_ := Aside0.mk ((by rw [hg]; exact (below_size (lb HB.out)) : w.heap.size ≤ gb351)); have n5_ := Aside0.mk ((by rw [hg]; exact Nat.ne_of_lt (blk_lt (bf BK350.out)) : gb350 ≠ gb351)); have n6_ := Aside0.mk ((by rw [hg]; exact Nat.ne_of_gt (blk_lt (bf BK350.out)) : gb351 ≠ gb350)); clear BK350; clear HB; have BK350 := n0_; have HB := n1_; have BK351 := n2_; have GW351 := n3_; have GE351 := n4_; have NB350_351 := n5_; have NB351_350 := n6_; clear n0_ n1_ n2_ n3_ n4_ n5_ n6_; clear hb hbox hg) | ((with_reducible refine gate_dst (N := 6) rfl ?_); refine bx_ 6 (cs := #[.int .i64 a2_0, .int .i64 a2_1]) (t := 33) ?_; intro gb352 hg w8 hbox hb; have n0_ := Aside0.mk (blk_below (bf BK350.out) hb); have n1_ := Aside0.mk (blk_below (bf BK351.out) hb); have n2_ := Aside0.mk (below_step (lb HB.out) hb); have n3_ := Aside0.mk (hbox); have n4_ := Aside0.mk ((by rw [hg]; exact (below_size (lb HB.out)) : w.heap.size ≤ gb352)); have n5_ := Aside0.mk ((by rw [hg]; exact (below_size (lb HB.out)) : w.heap.size ≤ gb352)); have n6_ := Aside0.mk ((by rw [hg]; exact Nat.ne_of_lt (blk_lt (bf BK350.out)) : gb350 ≠ gb352)); have n7_ := Aside0.mk ((by rw [hg]; exact Nat.ne_of_gt (blk_lt (bf BK350.out)) : gb352 ≠ gb350)); have n8_ := Aside0.mk ((by rw [hg]; exact Nat.ne_of_lt (blk_lt (bf BK351.out)) : gb351 ≠ gb352)); have n9_ := Aside0.mk ((by rw [hg]; exact Nat.ne_of_gt (blk_lt (bf BK351.out)) : gb352 ≠ gb351)); clear BK350; clear BK351; clear HB; have BK350 := n0_; have BK351 := n1_; have HB := n2_; have BK352 := n3_; have GW352 := n4_; have GE352 := n5_; have NB350_352 := n6_; have NB352_350 := n7_; have NB351_352 := n8_; have NB352_351 := n9_; clear n0_ n1_ n2_ n3_ n4_ n5_ n6_ n7_ n8_ n9_; clear hb hbox hg) | ((with_reducible refine gate_dst (N := 7) rfl ?_); refine bx_ 7 (cs := #[.int .i64 a3_0, .int .i64 a3_1]) (t := 33) ?_; intro gb353 hg w9 hbox hb; have n0_ := Aside0.mk (blk_below (bf BK350.out) hb); have n1_ := Aside0.mk (blk_below (bf BK351.out) hb); have n2_ := Aside0.mk (blk_below (bf BK352.out) hb); have n3_ := Aside0.mk (below_step (lb HB.out) hb); have n4_ := Aside0.mk (hbox); have n5_ := Aside0.mk ((by rw [hg]; exact (below_size (lb HB.out)) : w.heap.size ≤ gb353)); have n6_ := Aside0.mk ((by rw [hg]; exact (below_size (lb HB.out)) : w.heap.size ≤ gb353)); have n7_ := Aside0.mk ((by rw [hg]; exact Nat.ne_of_lt (blk_lt (bf BK350.out)) : gb350 ≠ gb353)); have n8_ := Aside0.mk ((by rw [hg]; exact Nat.ne_of_gt (blk_lt (bf BK350.out)) : gb353 ≠ gb350)); have n9_ := Aside0.mk ((by rw [hg]; exact Nat.ne_of_lt (blk_lt (bf BK351.out)) : gb351 ≠ gb353)); have n10_ := Aside0.mk ((by rw [hg]; exact Nat.ne_of_gt (blk_lt (bf BK351.out)) : gb353 ≠ gb351)); have n11_ := Aside0.mk ((by rw [hg]; exact Nat.ne_of_lt (blk_lt (bf BK352.out)) : gb352 ≠ gb353)); have n12_ := Aside0.mk ((by rw [hg]; exact Nat.ne_of_gt (blk_lt (bf BK352.out)) : gb353 ≠ gb352)); clear BK350; clear BK351; clear BK352; clear HB; have BK350 := n0_; have BK351 := n1_; have BK352 := n2_; have HB := n3_; have BK353 := n4_; have GW353 := n5_; have GE353 := n6_; have NB350_353 := n7_; have NB353_350 := n8_; have NB351_353 := n9_; have NB353_351 := n10_; have NB352_353 := n11_; have NB353_352 := n12_; clear n0_ n1_ n2_ n3_ n4_ n5_ n6_ n7_ n8_ n9_ n10_ n11_ n12_; clear hb hbox hg))
 (try simp only [Act.put, List.setIfInBounds_toArray, List.set_cons_zero, List.set_cons_succ])
 go_cut [30] (fun v30 wc => ∃ (kq : Nat) (x30_4 : Bool), v30 = .bool x30_4 ∧ Aside0 (spec_l31Meet.j0 kq x30_4 a0_0 a0_1 a1_0 a1_1 a2_0 a2_1 a3_0 a3_1 = some r) ∧ Aside0 (kq ≤ k) ∧ Aside0 (wc.heap[gb350]? = some (.cells #[.int .i64 a0_0, .int .i64 a0_1] 33 (0, 0))) ∧ Aside0 (wc.heap[gb351]? = some (.cells #[.int .i64 a1_0, .int .i64 a1_1] 33 (0, 0))) ∧ Aside0 (wc.heap[gb352]? = some (.cells #[.int .i64 a2_0, .int .i64 a2_1] 33 (0, 0))) ∧ Aside0 (wc.heap[gb353]? = some (.cells #[.int .i64 a3_0, .int .i64 a3_1] 33 (0, 0))) ∧ Aside0 (Below w.heap.size w wc))
 case first =>
  have H := HC5.out
  clear HC5
  replace H := Option.bind_eq_some_iff.mp H
  obtain ⟨t354, A100, H⟩ := H
  replace H : (if t354 = true then (spec_l31Meet.j0 k true a0_0 a0_1 a1_0 a1_1 a2_0 a2_1 a3_0 a3_1) else ((spec_l2On.f a0_0 a0_1 a1_0 a1_1 a3_0 a3_1).bind fun t355 => (if t355 = true then (spec_l31Meet.j0 k true a0_0 a0_1 a1_0 a1_1 a2_0 a2_1 a3_0 a3_1) else ((spec_l2On.f a2_0 a2_1 a3_0 a3_1 a0_0 a0_1).bind fun t356 => (if t356 = true then (spec_l31Meet.j0 k true a0_0 a0_1 a1_0 a1_1 a2_0 a2_1 a3_0 a3_1) else ((spec_l2On.f a2_0 a2_1 a3_0 a3_1 a1_0 a1_1).bind fun t357 => (spec_l31Meet.j0 k t357 a0_0 a0_1 a1_0 a1_1 a2_0 a2_1 a3_0 a3_1))))))) = some r := H
  have A10 := Aside0.mk A100
  clear A100
  by_cases c11 : t354 = true
  ·subst c11
   have H1 : (spec_l31Meet.j0 k true a0_0 a0_1 a1_0 a1_1 a2_0 a2_1 a3_0 a3_1) = some r := by rw [if_pos rfl] at H; exact H
   clear H
   have H := H1
   clear H1
   have H' := Aside0.mk H
   clear H
   have hnb12 := NB350_351.out
   have hnc12 := NB351_350.out
   have hnb13 := NB350_352.out
   have hnc13 := NB352_350.out
   have hnb14 := NB350_353.out
   have hnc14 := NB353_350.out
   have hcz15_0 : w9.cell? ⟨gb350, 0, none⟩ = some (.int .i64 a0_0) := (blk_cell BK350.out 0).trans rfl
   have hcz15_1 : w9.cell? ⟨gb350, 1, none⟩ = some (.int .i64 a0_1) := (blk_cell BK350.out 1).trans rfl
   have hfz15_0 := blk_frozen BK350.out 0
   have hfz15_1 := blk_frozen BK350.out 1
   have hnb16 := NB351_352.out
   have hnc16 := NB352_351.out
   have hnb17 := NB351_353.out
   have hnc17 := NB353_351.out
   have hcz18_0 : w9.cell? ⟨gb351, 0, none⟩ = some (.int .i64 a1_0) := (blk_cell BK351.out 0).trans rfl
   have hcz18_1 : w9.cell? ⟨gb351, 1, none⟩ = some (.int .i64 a1_1) := (blk_cell BK351.out 1).trans rfl
   have hfz18_0 := blk_frozen BK351.out 0
   have hfz18_1 := blk_frozen BK351.out 1
   have hnb19 := NB352_353.out
   have hnc19 := NB353_352.out
   have hcz20_0 : w9.cell? ⟨gb352, 0, none⟩ = some (.int .i64 a2_0) := (blk_cell BK352.out 0).trans rfl
   have hcz20_1 : w9.cell? ⟨gb352, 1, none⟩ = some (.int .i64 a2_1) := (blk_cell BK352.out 1).trans rfl
   have hfz20_0 := blk_frozen BK352.out 0
   have hfz20_1 := blk_frozen BK352.out 1
   go_wp2_with (first | ((with_reducible refine gate_callee (f := 87) rfl ?_); refine goesL_ (some 12) rfl rfl Try.func87 (by kernel_rfl) rfl #[.agg #[.int .i64 a0_0, .int .i64 a0_1], .agg #[.int .i64 a1_0, .int .i64 a1_1], .agg #[.int .i64 a2_0, .int .i64 a2_1]] rfl al ?_; (with_reducible refine (spec_l2On.calls a0_0 a0_1 a1_0 a1_1 a2_0 a2_1 true _ A10.out).mono ?_); rintro e w21 ⟨rfl, hb⟩; refine ⟨_, rfl, ?_⟩; have n0_ := Aside0.mk (blk_below (bf BK350.out) hb); have n1_ := Aside0.mk (blk_below (bf BK351.out) hb); have n2_ := Aside0.mk (blk_below (bf BK352.out) hb); have n3_ := Aside0.mk (blk_below (bf BK353.out) hb); have n4_ := Aside0.mk (below_step (lb HB.out) hb); clear BK350; clear BK351; clear BK352; clear BK353; clear HB; have BK350 := n0_; have BK351 := n1_; have BK352 := n2_; have BK353 := n3_; have HB := n4_; clear n0_ n1_ n2_ n3_ n4_; (try clear hb); (try clear hb2); (try clear hk); (try clear hi)))
   go_meet
   case rel => exact ⟨_, (true), (by first | rfl | (simp; done) | (simp [*]; done)), H', ⟨by first | omega | exact Nat.le_refl _⟩, ⟨bu BK350.out⟩, ⟨bu BK351.out⟩, ⟨bu BK352.out⟩, ⟨bu BK353.out⟩, ⟨lb HB.out⟩⟩
  ·replace c11 := Bool.eq_false_iff.mpr c11
   subst c11
   have H1 : ((spec_l2On.f a0_0 a0_1 a1_0 a1_1 a3_0 a3_1).bind fun t355 => (if t355 = true then (spec_l31Meet.j0 k true a0_0 a0_1 a1_0 a1_1 a2_0 a2_1 a3_0 a3_1) else ((spec_l2On.f a2_0 a2_1 a3_0 a3_1 a0_0 a0_1).bind fun t356 => (if t356 = true then (spec_l31Meet.j0 k true a0_0 a0_1 a1_0 a1_1 a2_0 a2_1 a3_0 a3_1) else ((spec_l2On.f a2_0 a2_1 a3_0 a3_1 a1_0 a1_1).bind fun t357 => (spec_l31Meet.j0 k t357 a0_0 a0_1 a1_0 a1_1 a2_0 a2_1 a3_0 a3_1)))))) = some r := by rw [if_neg (show ¬ (false = true) by decide)] at H; exact H
   clear H
   have H := H1
   clear H1
   replace H := Option.bind_eq_some_iff.mp H
   obtain ⟨t355, A220, H⟩ := H
   replace H : (if t355 = true then (spec_l31Meet.j0 k true a0_0 a0_1 a1_0 a1_1 a2_0 a2_1 a3_0 a3_1) else ((spec_l2On.f a2_0 a2_1 a3_0 a3_1 a0_0 a0_1).bind fun t356 => (if t356 = true then (spec_l31Meet.j0 k true a0_0 a0_1 a1_0 a1_1 a2_0 a2_1 a3_0 a3_1) else ((spec_l2On.f a2_0 a2_1 a3_0 a3_1 a1_0 a1_1).bind fun t357 => (spec_l31Meet.j0 k t357 a0_0 a0_1 a1_0 a1_1 a2_0 a2_1 a3_0 a3_1))))) = some r := H
   have A22 := Aside0.mk A220
   clear A220
   by_cases c23 : t355 = true
   ·subst c23
    have H1 : (spec_l31Meet.j0 k true a0_0 a0_1 a1_0 a1_1 a2_0 a2_1 a3_0 a3_1) = some r := by rw [if_pos rfl] at H; exact H
    clear H
    have H := H1
    clear H1
    have H' := Aside0.mk H
    clear H
    have hnb24 := NB350_351.out
    have hnc24 := NB351_350.out
    have hnb25 := NB350_352.out
    have hnc25 := NB352_350.out
    have hnb26 := NB350_353.out
    have hnc26 := NB353_350.out
    have hcz27_0 : w9.cell? ⟨gb350, 0, none⟩ = some (.int .i64 a0_0) := (blk_cell BK350.out 0).trans rfl
    have hcz27_1 : w9.cell? ⟨gb350, 1, none⟩ = some (.int .i64 a0_1) := (blk_cell BK350.out 1).trans rfl
    have hfz27_0 := blk_frozen BK350.out 0
    have hfz27_1 := blk_frozen BK350.out 1
    have hnb28 := NB351_352.out
    have hnc28 := NB352_351.out
    have hnb29 := NB351_353.out
    have hnc29 := NB353_351.out
    have hcz30_0 : w9.cell? ⟨gb351, 0, none⟩ = some (.int .i64 a1_0) := (blk_cell BK351.out 0).trans rfl
    have hcz30_1 : w9.cell? ⟨gb351, 1, none⟩ = some (.int .i64 a1_1) := (blk_cell BK351.out 1).trans rfl
    have hfz30_0 := blk_frozen BK351.out 0
    have hfz30_1 := blk_frozen BK351.out 1
    have hnb31 := NB352_353.out
    have hnc31 := NB353_352.out
    have hcz32_0 : w9.cell? ⟨gb352, 0, none⟩ = some (.int .i64 a2_0) := (blk_cell BK352.out 0).trans rfl
    have hcz32_1 : w9.cell? ⟨gb352, 1, none⟩ = some (.int .i64 a2_1) := (blk_cell BK352.out 1).trans rfl
    have hfz32_0 := blk_frozen BK352.out 0
    have hfz32_1 := blk_frozen BK352.out 1
    go_wp2_with (first | ((with_reducible refine gate_callee (f := 87) rfl ?_); refine goesL_ (some 12) rfl rfl Try.func87 (by kernel_rfl) rfl #[.agg #[.int .i64 a0_0, .int .i64 a0_1], .agg #[.int .i64 a1_0, .int .i64 a1_1], .agg #[.int .i64 a2_0, .int .i64 a2_1]] rfl al ?_; (with_reducible refine (spec_l2On.calls a0_0 a0_1 a1_0 a1_1 a2_0 a2_1 false _ A10.out).mono ?_); rintro e w33 ⟨rfl, hb⟩; refine ⟨_, rfl, ?_⟩; have n0_ := Aside0.mk (blk_below (bf BK350.out) hb); have n1_ := Aside0.mk (blk_below (bf BK351.out) hb); have n2_ := Aside0.mk (blk_below (bf BK352.out) hb); have n3_ := Aside0.mk (blk_below (bf BK353.out) hb); have n4_ := Aside0.mk (below_step (lb HB.out) hb); clear BK350; clear BK351; clear BK352; clear BK353; clear HB; have BK350 := n0_; have BK351 := n1_; have BK352 := n2_; have BK353 := n3_; have HB := n4_; clear n0_ n1_ n2_ n3_ n4_; (try clear hb); (try clear hb2); (try clear hk); (try clear hi); have hcz34_0 : w33.cell? ⟨gb350, 0, none⟩ = some (.int .i64 a0_0) := (blk_cell BK350.out 0).trans rfl; have hcz34_1 : w33.cell? ⟨gb350, 1, none⟩ = some (.int .i64 a0_1) := (blk_cell BK350.out 1).trans rfl; have hfz34_0 := blk_frozen BK350.out 0; have hfz34_1 := blk_frozen BK350.out 1; have hcz35_0 : w33.cell? ⟨gb351, 0, none⟩ = some (.int .i64 a1_0) := (blk_cell BK351.out 0).trans rfl; have hcz35_1 : w33.cell? ⟨gb351, 1, none⟩ = some (.int .i64 a1_1) := (blk_cell BK351.out 1).trans rfl; have hfz35_0 := blk_frozen BK351.out 0; have hfz35_1 := blk_frozen BK351.out 1; have hcz36_0 : w33.cell? ⟨gb353, 0, none⟩ = some (.int .i64 a3_0) := (blk_cell BK353.out 0).trans rfl; have hcz36_1 : w33.cell? ⟨gb353, 1, none⟩ = some (.int .i64 a3_1) := (blk_cell BK353.out 1).trans rfl; have hfz36_0 := blk_frozen BK353.out 0; have hfz36_1 := blk_frozen BK353.out 1) | (go_at_call 87; (with_reducible refine (spec_l2On.calls a0_0 a0_1 a1_0 a1_1 a3_0 a3_1 true _ A22.out).mono ?_); rintro e w37 ⟨rfl, hb⟩; have n0_ := Aside0.mk (blk_below (bf BK350.out) hb); have n1_ := Aside0.mk (blk_below (bf BK351.out) hb); have n2_ := Aside0.mk (blk_below (bf BK352.out) hb); have n3_ := Aside0.mk (blk_below (bf BK353.out) hb); have n4_ := Aside0.mk (below_step (lb HB.out) hb); clear BK350; clear BK351; clear BK352; clear BK353; clear HB; have BK350 := n0_; have BK351 := n1_; have BK352 := n2_; have BK353 := n3_; have HB := n4_; clear n0_ n1_ n2_ n3_ n4_; (try clear hb); (try clear hb2); (try clear hk); (try clear hi)))
    go_meet
    case rel => exact ⟨_, (true), (by first | rfl | (simp; done) | (simp [*]; done)), H', ⟨by first | omega | exact Nat.le_refl _⟩, ⟨bu BK350.out⟩, ⟨bu BK351.out⟩, ⟨bu BK352.out⟩, ⟨bu BK353.out⟩, ⟨lb HB.out⟩⟩
   ·replace c23 := Bool.eq_false_iff.mpr c23
    subst c23
    have H1 : ((spec_l2On.f a2_0 a2_1 a3_0 a3_1 a0_0 a0_1).bind fun t356 => (if t356 = true then (spec_l31Meet.j0 k true a0_0 a0_1 a1_0 a1_1 a2_0 a2_1 a3_0 a3_1) else ((spec_l2On.f a2_0 a2_1 a3_0 a3_1 a1_0 a1_1).bind fun t357 => (spec_l31Meet.j0 k t357 a0_0 a0_1 a1_0 a1_1 a2_0 a2_1 a3_0 a3_1)))) = some r := by rw [if_neg (show ¬ (false = true) by decide)] at H; exact H
    clear H
    have H := H1
    clear H1
    replace H := Option.bind_eq_some_iff.mp H
    obtain ⟨t356, A380, H⟩ := H
    replace H : (if t356 = true then (spec_l31Meet.j0 k true a0_0 a0_1 a1_0 a1_1 a2_0 a2_1 a3_0 a3_1) else ((spec_l2On.f a2_0 a2_1 a3_0 a3_1 a1_0 a1_1).bind fun t357 => (spec_l31Meet.j0 k t357 a0_0 a0_1 a1_0 a1_1 a2_0 a2_1 a3_0 a3_1))) = some r := H
    have A38 := Aside0.mk A380
    clear A380
    by_cases c39 : t356 = true
    ·subst c39
     have H1 : (spec_l31Meet.j0 k true a0_0 a0_1 a1_0 a1_1 a2_0 a2_1 a3_0 a3_1) = some r := by rw [if_pos rfl] at H; exact H
     clear H
     have H := H1
     clear H1
     have H' := Aside0.mk H
     clear H
     have hnb40 := NB350_351.out
     have hnc40 := NB351_350.out
     have hnb41 := NB350_352.out
     have hnc41 := NB352_350.out
     have hnb42 := NB350_353.out
     have hnc42 := NB353_350.out
     have hcz43_0 : w9.cell? ⟨gb350, 0, none⟩ = some (.int .i64 a0_0) := (blk_cell BK350.out 0).trans rfl
     have hcz43_1 : w9.cell? ⟨gb350, 1, none⟩ = some (.int .i64 a0_1) := (blk_cell BK350.out 1).trans rfl
     have hfz43_0 := blk_frozen BK350.out 0
     have hfz43_1 := blk_frozen BK350.out 1
     have hnb44 := NB351_352.out
     have hnc44 := NB352_351.out
     have hnb45 := NB351_353.out
     have hnc45 := NB353_351.out
     have hcz46_0 : w9.cell? ⟨gb351, 0, none⟩ = some (.int .i64 a1_0) := (blk_cell BK351.out 0).trans rfl
     have hcz46_1 : w9.cell? ⟨gb351, 1, none⟩ = some (.int .i64 a1_1) := (blk_cell BK351.out 1).trans rfl
     have hfz46_0 := blk_frozen BK351.out 0
     have hfz46_1 := blk_frozen BK351.out 1
     have hnb47 := NB352_353.out
     have hnc47 := NB353_352.out
     have hcz48_0 : w9.cell? ⟨gb352, 0, none⟩ = some (.int .i64 a2_0) := (blk_cell BK352.out 0).trans rfl
     have hcz48_1 : w9.cell? ⟨gb352, 1, none⟩ = some (.int .i64 a2_1) := (blk_cell BK352.out 1).trans rfl
     have hfz48_0 := blk_frozen BK352.out 0
     have hfz48_1 := blk_frozen BK352.out 1
     go_wp2_with (first | ((with_reducible refine gate_callee (f := 87) rfl ?_); refine goesL_ (some 12) rfl rfl Try.func87 (by kernel_rfl) rfl #[.agg #[.int .i64 a0_0, .int .i64 a0_1], .agg #[.int .i64 a1_0, .int .i64 a1_1], .agg #[.int .i64 a2_0, .int .i64 a2_1]] rfl al ?_; (with_reducible refine (spec_l2On.calls a0_0 a0_1 a1_0 a1_1 a2_0 a2_1 false _ A10.out).mono ?_); rintro e w49 ⟨rfl, hb⟩; refine ⟨_, rfl, ?_⟩; have n0_ := Aside0.mk (blk_below (bf BK350.out) hb); have n1_ := Aside0.mk (blk_below (bf BK351.out) hb); have n2_ := Aside0.mk (blk_below (bf BK352.out) hb); have n3_ := Aside0.mk (blk_below (bf BK353.out) hb); have n4_ := Aside0.mk (below_step (lb HB.out) hb); clear BK350; clear BK351; clear BK352; clear BK353; clear HB; have BK350 := n0_; have BK351 := n1_; have BK352 := n2_; have BK353 := n3_; have HB := n4_; clear n0_ n1_ n2_ n3_ n4_; (try clear hb); (try clear hb2); (try clear hk); (try clear hi); have hcz50_0 : w49.cell? ⟨gb350, 0, none⟩ = some (.int .i64 a0_0) := (blk_cell BK350.out 0).trans rfl; have hcz50_1 : w49.cell? ⟨gb350, 1, none⟩ = some (.int .i64 a0_1) := (blk_cell BK350.out 1).trans rfl; have hfz50_0 := blk_frozen BK350.out 0; have hfz50_1 := blk_frozen BK350.out 1; have hcz51_0 : w49.cell? ⟨gb351, 0, none⟩ = some (.int .i64 a1_0) := (blk_cell BK351.out 0).trans rfl; have hcz51_1 : w49.cell? ⟨gb351, 1, none⟩ = some (.int .i64 a1_1) := (blk_cell BK351.out 1).trans rfl; have hfz51_0 := blk_frozen BK351.out 0; have hfz51_1 := blk_frozen BK351.out 1; have hcz52_0 : w49.cell? ⟨gb353, 0, none⟩ = some (.int .i64 a3_0) := (blk_cell BK353.out 0).trans rfl; have hcz52_1 : w49.cell? ⟨gb353, 1, none⟩ = some (.int .i64 a3_1) := (blk_cell BK353.out 1).trans rfl; have hfz52_0 := blk_frozen BK353.out 0; have hfz52_1 := blk_frozen BK353.out 1) | (go_at_call 87; (with_reducible refine (spec_l2On.calls a0_0 a0_1 a1_0 a1_1 a3_0 a3_1 false _ A22.out).mono ?_); rintro e w53 ⟨rfl, hb⟩; have n0_ := Aside0.mk (blk_below (bf BK350.out) hb); have n1_ := Aside0.mk (blk_below (bf BK351.out) hb); have n2_ := Aside0.mk (blk_below (bf BK352.out) hb); have n3_ := Aside0.mk (blk_below (bf BK353.out) hb); have n4_ := Aside0.mk (below_step (lb HB.out) hb); clear BK350; clear BK351; clear BK352; clear BK353; clear HB; have BK350 := n0_; have BK351 := n1_; have BK352 := n2_; have BK353 := n3_; have HB := n4_; clear n0_ n1_ n2_ n3_ n4_; (try clear hb); (try clear hb2); (try clear hk); (try clear hi); have hcz54_0 : w53.cell? ⟨gb352, 0, none⟩ = some (.int .i64 a2_0) := (blk_cell BK352.out 0).trans rfl; have hcz54_1 : w53.cell? ⟨gb352, 1, none⟩ = some (.int .i64 a2_1) := (blk_cell BK352.out 1).trans rfl; have hfz54_0 := blk_frozen BK352.out 0; have hfz54_1 := blk_frozen BK352.out 1; have hcz55_0 : w53.cell? ⟨gb353, 0, none⟩ = some (.int .i64 a3_0) := (blk_cell BK353.out 0).trans rfl; have hcz55_1 : w53.cell? ⟨gb353, 1, none⟩ = some (.int .i64 a3_1) := (blk_cell BK353.out 1).trans rfl; have hfz55_0 := blk_frozen BK353.out 0; have hfz55_1 := blk_frozen BK353.out 1; have hcz56_0 : w53.cell? ⟨gb350, 0, none⟩ = some (.int .i64 a0_0) := (blk_cell BK350.out 0).trans rfl; have hcz56_1 : w53.cell? ⟨gb350, 1, none⟩ = some (.int .i64 a0_1) := (blk_cell BK350.out 1).trans rfl; have hfz56_0 := blk_frozen BK350.out 0; have hfz56_1 := blk_frozen BK350.out 1) | (go_at_call 87; (with_reducible refine (spec_l2On.calls a2_0 a2_1 a3_0 a3_1 a0_0 a0_1 true _ A38.out).mono ?_); rintro e w57 ⟨rfl, hb⟩; have n0_ := Aside0.mk (blk_below (bf BK350.out) hb); have n1_ := Aside0.mk (blk_below (bf BK351.out) hb); have n2_ := Aside0.mk (blk_below (bf BK352.out) hb); have n3_ := Aside0.mk (blk_below (bf BK353.out) hb); have n4_ := Aside0.mk (below_step (lb HB.out) hb); clear BK350; clear BK351; clear BK352; clear BK353; clear HB; have BK350 := n0_; have BK351 := n1_; have BK352 := n2_; have BK353 := n3_; have HB := n4_; clear n0_ n1_ n2_ n3_ n4_; (try clear hb); (try clear hb2); (try clear hk); (try clear hi)))
     go_meet
     case rel => exact ⟨_, (true), (by first | rfl | (simp; done) | (simp [*]; done)), H', ⟨by first | omega | exact Nat.le_refl _⟩, ⟨bu BK350.out⟩, ⟨bu BK351.out⟩, ⟨bu BK352.out⟩, ⟨bu BK353.out⟩, ⟨lb HB.out⟩⟩
    ·replace c39 := Bool.eq_false_iff.mpr c39
     subst c39
     have H1 : ((spec_l2On.f a2_0 a2_1 a3_0 a3_1 a1_0 a1_1).bind fun t357 => (spec_l31Meet.j0 k t357 a0_0 a0_1 a1_0 a1_1 a2_0 a2_1 a3_0 a3_1)) = some r := by rw [if_neg (show ¬ (false = true) by decide)] at H; exact H
     clear H
     have H := H1
     clear H1
     replace H := Option.bind_eq_some_iff.mp H
     obtain ⟨t357, A580, H⟩ := H
     replace H : (spec_l31Meet.j0 k t357 a0_0 a0_1 a1_0 a1_1 a2_0 a2_1 a3_0 a3_1) = some r := H
     have A58 := Aside0.mk A580
     clear A580
     have H' := Aside0.mk H
     clear H
     have hnb59 := NB350_351.out
     have hnc59 := NB351_350.out
     have hnb60 := NB350_352.out
     have hnc60 := NB352_350.out
     have hnb61 := NB350_353.out
     have hnc61 := NB353_350.out
     have hcz62_0 : w9.cell? ⟨gb350, 0, none⟩ = some (.int .i64 a0_0) := (blk_cell BK350.out 0).trans rfl
     have hcz62_1 : w9.cell? ⟨gb350, 1, none⟩ = some (.int .i64 a0_1) := (blk_cell BK350.out 1).trans rfl
     have hfz62_0 := blk_frozen BK350.out 0
     have hfz62_1 := blk_frozen BK350.out 1
     have hnb63 := NB351_352.out
     have hnc63 := NB352_351.out
     have hnb64 := NB351_353.out
     have hnc64 := NB353_351.out
     have hcz65_0 : w9.cell? ⟨gb351, 0, none⟩ = some (.int .i64 a1_0) := (blk_cell BK351.out 0).trans rfl
     have hcz65_1 : w9.cell? ⟨gb351, 1, none⟩ = some (.int .i64 a1_1) := (blk_cell BK351.out 1).trans rfl
     have hfz65_0 := blk_frozen BK351.out 0
     have hfz65_1 := blk_frozen BK351.out 1
     have hnb66 := NB352_353.out
     have hnc66 := NB353_352.out
     have hcz67_0 : w9.cell? ⟨gb352, 0, none⟩ = some (.int .i64 a2_0) := (blk_cell BK352.out 0).trans rfl
     have hcz67_1 : w9.cell? ⟨gb352, 1, none⟩ = some (.int .i64 a2_1) := (blk_cell BK352.out 1).trans rfl
     have hfz67_0 := blk_frozen BK352.out 0
     have hfz67_1 := blk_frozen BK352.out 1
     go_wp2_with (first | ((with_reducible refine gate_callee (f := 87) rfl ?_); refine goesL_ (some 12) rfl rfl Try.func87 (by kernel_rfl) rfl #[.agg #[.int .i64 a0_0, .int .i64 a0_1], .agg #[.int .i64 a1_0, .int .i64 a1_1], .agg #[.int .i64 a2_0, .int .i64 a2_1]] rfl al ?_; (with_reducible refine (spec_l2On.calls a0_0 a0_1 a1_0 a1_1 a2_0 a2_1 false _ A10.out).mono ?_); rintro e w68 ⟨rfl, hb⟩; refine ⟨_, rfl, ?_⟩; have n0_ := Aside0.mk (blk_below (bf BK350.out) hb); have n1_ := Aside0.mk (blk_below (bf BK351.out) hb); have n2_ := Aside0.mk (blk_below (bf BK352.out) hb); have n3_ := Aside0.mk (blk_below (bf BK353.out) hb); have n4_ := Aside0.mk (below_step (lb HB.out) hb); clear BK350; clear BK351; clear BK352; clear BK353; clear HB; have BK350 := n0_; have BK351 := n1_; have BK352 := n2_; have BK353 := n3_; have HB := n4_; clear n0_ n1_ n2_ n3_ n4_; (try clear hb); (try clear hb2); (try clear hk); (try clear hi); have hcz69_0 : w68.cell? ⟨gb350, 0, none⟩ = some (.int .i64 a0_0) := (blk_cell BK350.out 0).trans rfl; have hcz69_1 : w68.cell? ⟨gb350, 1, none⟩ = some (.int .i64 a0_1) := (blk_cell BK350.out 1).trans rfl; have hfz69_0 := blk_frozen BK350.out 0; have hfz69_1 := blk_frozen BK350.out 1; have hcz70_0 : w68.cell? ⟨gb351, 0, none⟩ = some (.int .i64 a1_0) := (blk_cell BK351.out 0).trans rfl; have hcz70_1 : w68.cell? ⟨gb351, 1, none⟩ = some (.int .i64 a1_1) := (blk_cell BK351.out 1).trans rfl; have hfz70_0 := blk_frozen BK351.out 0; have hfz70_1 := blk_frozen BK351.out 1; have hcz71_0 : w68.cell? ⟨gb353, 0, none⟩ = some (.int .i64 a3_0) := (blk_cell BK353.out 0).trans rfl; have hcz71_1 : w68.cell? ⟨gb353, 1, none⟩ = some (.int .i64 a3_1) := (blk_cell BK353.out 1).trans rfl; have hfz71_0 := blk_frozen BK353.out 0; have hfz71_1 := blk_frozen BK353.out 1) | (go_at_call 87; (with_reducible refine (spec_l2On.calls a0_0 a0_1 a1_0 a1_1 a3_0 a3_1 false _ A22.out).mono ?_); rintro e w72 ⟨rfl, hb⟩; have n0_ := Aside0.mk (blk_below (bf BK350.out) hb); have n1_ := Aside0.mk (blk_below (bf BK351.out) hb); have n2_ := Aside0.mk (blk_below (bf BK352.out) hb); have n3_ := Aside0.mk (blk_below (bf BK353.out) hb); have n4_ := Aside0.mk (below_step (lb HB.out) hb); clear BK350; clear BK351; clear BK352; clear BK353; clear HB; have BK350 := n0_; have BK351 := n1_; have BK352 := n2_; have BK353 := n3_; have HB := n4_; clear n0_ n1_ n2_ n3_ n4_; (try clear hb); (try clear hb2); (try clear hk); (try clear hi); have hcz73_0 : w72.cell? ⟨gb352, 0, none⟩ = some (.int .i64 a2_0) := (blk_cell BK352.out 0).trans rfl; have hcz73_1 : w72.cell? ⟨gb352, 1, none⟩ = some (.int .i64 a2_1) := (blk_cell BK352.out 1).trans rfl; have hfz73_0 := blk_frozen BK352.out 0; have hfz73_1 := blk_frozen BK352.out 1; have hcz74_0 : w72.cell? ⟨gb353, 0, none⟩ = some (.int .i64 a3_0) := (blk_cell BK353.out 0).trans rfl; have hcz74_1 : w72.cell? ⟨gb353, 1, none⟩ = some (.int .i64 a3_1) := (blk_cell BK353.out 1).trans rfl; have hfz74_0 := blk_frozen BK353.out 0; have hfz74_1 := blk_frozen BK353.out 1; have hcz75_0 : w72.cell? ⟨gb350, 0, none⟩ = some (.int .i64 a0_0) := (blk_cell BK350.out 0).trans rfl; have hcz75_1 : w72.cell? ⟨gb350, 1, none⟩ = some (.int .i64 a0_1) := (blk_cell BK350.out 1).trans rfl; have hfz75_0 := blk_frozen BK350.out 0; have hfz75_1 := blk_frozen BK350.out 1) | (go_at_call 87; (with_reducible refine (spec_l2On.calls a2_0 a2_1 a3_0 a3_1 a0_0 a0_1 false _ A38.out).mono ?_); rintro e w76 ⟨rfl, hb⟩; have n0_ := Aside0.mk (blk_below (bf BK350.out) hb); have n1_ := Aside0.mk (blk_below (bf BK351.out) hb); have n2_ := Aside0.mk (blk_below (bf BK352.out) hb); have n3_ := Aside0.mk (blk_below (bf BK353.out) hb); have n4_ := Aside0.mk (below_step (lb HB.out) hb); clear BK350; clear BK351; clear BK352; clear BK353; clear HB; have BK350 := n0_; have BK351 := n1_; have BK352 := n2_; have BK353 := n3_; have HB := n4_; clear n0_ n1_ n2_ n3_ n4_; (try clear hb); (try clear hb2); (try clear hk); (try clear hi); have hcz77_0 : w76.cell? ⟨gb352, 0, none⟩ = some (.int .i64 a2_0) := (blk_cell BK352.out 0).trans rfl; have hcz77_1 : w76.cell? ⟨gb352, 1, none⟩ = some (.int .i64 a2_1) := (blk_cell BK352.out 1).trans rfl; have hfz77_0 := blk_frozen BK352.out 0; have hfz77_1 := blk_frozen BK352.out 1; have hcz78_0 : w76.cell? ⟨gb353, 0, none⟩ = some (.int .i64 a3_0) := (blk_cell BK353.out 0).trans rfl; have hcz78_1 : w76.cell? ⟨gb353, 1, none⟩ = some (.int .i64 a3_1) := (blk_cell BK353.out 1).trans rfl; have hfz78_0 := blk_frozen BK353.out 0; have hfz78_1 := blk_frozen BK353.out 1; have hcz79_0 : w76.cell? ⟨gb351, 0, none⟩ = some (.int .i64 a1_0) := (blk_cell BK351.out 0).trans rfl; have hcz79_1 : w76.cell? ⟨gb351, 1, none⟩ = some (.int .i64 a1_1) := (blk_cell BK351.out 1).trans rfl; have hfz79_0 := blk_frozen BK351.out 0; have hfz79_1 := blk_frozen BK351.out 1) | (go_at_call 87; (with_reducible refine (spec_l2On.calls a2_0 a2_1 a3_0 a3_1 a1_0 a1_1 t357 _ A58.out).mono ?_); rintro e w80 ⟨rfl, hb⟩; have n0_ := Aside0.mk (blk_below (bf BK350.out) hb); have n1_ := Aside0.mk (blk_below (bf BK351.out) hb); have n2_ := Aside0.mk (blk_below (bf BK352.out) hb); have n3_ := Aside0.mk (blk_below (bf BK353.out) hb); have n4_ := Aside0.mk (below_step (lb HB.out) hb); clear BK350; clear BK351; clear BK352; clear BK353; clear HB; have BK350 := n0_; have BK351 := n1_; have BK352 := n2_; have BK353 := n3_; have HB := n4_; clear n0_ n1_ n2_ n3_ n4_; (try clear hb); (try clear hb2); (try clear hk); (try clear hi)))
     go_meet
     case rel => exact ⟨_, (t357), (by first | rfl | (simp; done) | (simp [*]; done)), H', ⟨by first | omega | exact Nat.le_refl _⟩, ⟨bu BK350.out⟩, ⟨bu BK351.out⟩, ⟨bu BK352.out⟩, ⟨bu BK353.out⟩, ⟨lb HB.out⟩⟩
 case rest =>
  clear HC5
  try clear c1
  try clear c2
  try clear p2
  try clear c3
  try clear c4
  try clear c5
  try clear c6
  try clear c8
  try clear c11
  try clear c12
  try clear c13
  try clear c14
  try clear c16
  try clear c17
  try clear c19
  try clear c23
  try clear c24
  try clear c25
  try clear c26
  try clear c28
  try clear c29
  try clear c31
  try clear c39
  try clear c40
  try clear c41
  try clear c42
  try clear c44
  try clear c45
  try clear c47
  try clear c59
  try clear c60
  try clear c61
  try clear c62
  try clear c63
  try clear c64
  try clear c66
  try clear hcz15_0
  try clear hcz15_1
  try clear hcz18_0
  try clear hcz18_1
  try clear hcz20_0
  try clear hcz20_1
  try clear hcz27_0
  try clear hcz27_1
  try clear hcz30_0
  try clear hcz30_1
  try clear hcz32_0
  try clear hcz32_1
  try clear hcz34_0
  try clear hcz34_1
  try clear hcz35_0
  try clear hcz35_1
  try clear hcz36_0
  try clear hcz36_1
  try clear hcz43_0
  try clear hcz43_1
  try clear hcz46_0
  try clear hcz46_1
  try clear hcz48_0
  try clear hcz48_1
  try clear hcz50_0
  try clear hcz50_1
  try clear hcz51_0
  try clear hcz51_1
  try clear hcz52_0
  try clear hcz52_1
  try clear hcz54_0
  try clear hcz54_1
  try clear hcz55_0
  try clear hcz55_1
  try clear hcz56_0
  try clear hcz56_1
  try clear hcz62_0
  try clear hcz62_1
  try clear hcz65_0
  try clear hcz65_1
  try clear hcz67_0
  try clear hcz67_1
  try clear hcz69_0
  try clear hcz69_1
  try clear hcz70_0
  try clear hcz70_1
  try clear hcz71_0
  try clear hcz71_1
  try clear hcz73_0
  try clear hcz73_1
  try clear hcz74_0
  try clear hcz74_1
  try clear hcz75_0
  try clear hcz75_1
  try clear hcz77_0
  try clear hcz77_1
  try clear hcz78_0
  try clear hcz78_1
  try clear hcz79_0
  try clear hcz79_1
  try clear hfz15_0
  try clear hfz15_1
  try clear hfz18_0
  try clear hfz18_1
  try clear hfz20_0
  try clear hfz20_1
  try clear hfz27_0
  try clear hfz27_1
  try clear hfz30_0
  try clear hfz30_1
  try clear hfz32_0
  try clear hfz32_1
  try clear hfz34_0
  try clear hfz34_1
  try clear hfz35_0
  try clear hfz35_1
  try clear hfz36_0
  try clear hfz36_1
  try clear hfz43_0
  try clear hfz43_1
  try clear hfz46_0
  try clear hfz46_1
  try clear hfz48_0
  try clear hfz48_1
  try clear hfz50_0
  try clear hfz50_1
  try clear hfz51_0
  try clear hfz51_1
  try clear hfz52_0
  try clear hfz52_1
  try clear hfz54_0
  try clear hfz54_1
  try clear hfz55_0
  try clear hfz55_1
  try clear hfz56_0
  try clear hfz56_1
  try clear hfz62_0
  try clear hfz62_1
  try clear hfz65_0
  try clear hfz65_1
  try clear hfz67_0
  try clear hfz67_1
  try clear hfz69_0
  try clear hfz69_1
  try clear hfz70_0
  try clear hfz70_1
  try clear hfz71_0
  try clear hfz71_1
  try clear hfz73_0
  try clear hfz73_1
  try clear hfz74_0
  try clear hfz74_1
  try clear hfz75_0
  try clear hfz75_1
  try clear hfz77_0
  try clear hfz77_1
  try clear hfz78_0
  try clear hfz78_1
  try clear hfz79_0
  try clear hfz79_1
  obtain ⟨kq, x30_4, rfl, HA, HJ4, BK350, BK351, BK352, BK353, HB⟩ := hcut
  cases kq with
  | zero => exact absurd HA.out (by simp [spec_l31Meet.j0])
  | succ kj4 =>
   have H := HA.out
   clear HA
   simp only [spec_l31Meet.j0] at H
   by_cases c81 : x30_4 = true
   ·subst c81
    have H1 : (some true) = some r := by rw [if_pos rfl] at H; exact H
    clear H
    have H := H1
    clear H1
    obtain rfl := Option.some.inj H
    go_wp2
    go_ret
    exact ⟨er, lb HB.out⟩
   ·replace c81 := Bool.eq_false_iff.mpr c81
    subst c81
    have H1 : ((spec_l31Side.f a0_0 a0_1 a1_0 a1_1 a2_0 a2_1).bind fun t358 => ((spec_l31Side.f a0_0 a0_1 a1_0 a1_1 a3_0 a3_1).bind fun t359 => (if (wrap64 (t358 * t359)) < 0 then ((spec_l31Side.f a2_0 a2_1 a3_0 a3_1 a0_0 a0_1).bind fun t360 => ((spec_l31Side.f a2_0 a2_1 a3_0 a3_1 a1_0 a1_1).bind fun t361 => (some (decide ((wrap64 (t360 * t361)) < 0))))) else (some false)))) = some r := by rw [if_neg (show ¬ (false = true) by decide)] at H; exact H
    clear H
    have H := H1
    clear H1
    replace H := Option.bind_eq_some_iff.mp H
    obtain ⟨t358, A820, H⟩ := H
    replace H : ((spec_l31Side.f a0_0 a0_1 a1_0 a1_1 a3_0 a3_1).bind fun t359 => (if (wrap64 (t358 * t359)) < 0 then ((spec_l31Side.f a2_0 a2_1 a3_0 a3_1 a0_0 a0_1).bind fun t360 => ((spec_l31Side.f a2_0 a2_1 a3_0 a3_1 a1_0 a1_1).bind fun t361 => (some (decide ((wrap64 (t360 * t361)) < 0))))) else (some false))) = some r := H
    have A82 := Aside0.mk A820
    clear A820
    replace H := Option.bind_eq_some_iff.mp H
    obtain ⟨t359, A830, H⟩ := H
    replace H : (if (wrap64 (t358 * t359)) < 0 then ((spec_l31Side.f a2_0 a2_1 a3_0 a3_1 a0_0 a0_1).bind fun t360 => ((spec_l31Side.f a2_0 a2_1 a3_0 a3_1 a1_0 a1_1).bind fun t361 => (some (decide ((wrap64 (t360 * t361)) < 0))))) else (some false)) = some r := H
    have A83 := Aside0.mk A830
    clear A830
    by_cases c84 : (wrap64 (t358 * t359)) < 0
    ·rw [if_pos c84] at H
     have c84b0 : decide ((wrap64 (t358 * t359)) < 0) = true := decide_eq_true c84
     clear c84
     replace H := Option.bind_eq_some_iff.mp H
     obtain ⟨t360, A850, H⟩ := H
     replace H : ((spec_l31Side.f a2_0 a2_1 a3_0 a3_1 a1_0 a1_1).bind fun t361 => (some (decide ((wrap64 (t360 * t361)) < 0)))) = some r := H
     have A85 := Aside0.mk A850
     clear A850
     replace H := Option.bind_eq_some_iff.mp H
     obtain ⟨t361, A860, H⟩ := H
     replace H : (some (decide ((wrap64 (t360 * t361)) < 0))) = some r := H
     have A86 := Aside0.mk A860
     clear A860
     obtain rfl := Option.some.inj H
     try go_wp2
     have n0_ := Aside0.mk (blk_drew BK350.out)
     have n1_ := Aside0.mk (blk_drew BK351.out)
     have n2_ := Aside0.mk (blk_drew BK352.out)
     have n3_ := Aside0.mk (blk_drew BK353.out)
     have n4_ := Aside0.mk (below_drew1 HB.out)
     clear BK350 BK351 BK352 BK353 HB
     have BK350 := n0_
     have BK351 := n1_
     have BK352 := n2_
     have BK353 := n3_
     have HB := n4_
     clear n0_ n1_ n2_ n3_ n4_
     refine start_ (n := 23) (S := fun w' => w'.cell? ⟨gb350, 0, none⟩ = some (.int .i64 a0_0) ∧ w'.cell? ⟨gb350, 1, none⟩ = some (.int .i64 a0_1) ∧ w'.cell? ⟨gb351, 0, none⟩ = some (.int .i64 a1_0) ∧ w'.cell? ⟨gb351, 1, none⟩ = some (.int .i64 a1_1) ∧ w'.cell? ⟨gb352, 0, none⟩ = some (.int .i64 a2_0) ∧ w'.cell? ⟨gb352, 1, none⟩ = some (.int .i64 a2_1) ∧ w'.cell? ⟨gb353, 0, none⟩ = some (.int .i64 a3_0) ∧ w'.cell? ⟨gb353, 1, none⟩ = some (.int .i64 a3_1)) (ds := []) #[false,false,false,false,false,false,false,false,false,false,false,false,false,false,false,false,false,false,false,false,false,false,false] (by kernel_rfl) rfl rfl ⟨(blk_cell BK350.out 0).trans rfl, (blk_cell BK350.out 1).trans rfl, (blk_cell BK351.out 0).trans rfl, (blk_cell BK351.out 1).trans rfl, (blk_cell BK352.out 0).trans rfl, (blk_cell BK352.out 1).trans rfl, (blk_cell BK353.out 0).trans rfl, (blk_cell BK353.out 1).trans rfl⟩ (fun hHeld => ?_); refine with_tabW spec_l31Meet.tab3 spec_l31Meet.bits3 (fun HT_ HW_ => ?_)
     generalize wc.drew = w87 at BK350 BK351 BK352 BK353 HB hHeld ⊢
     refine tq_ 0 (some 31) ?_
     refine tq_ 1 (some 32) ?_
     refine tq_ 2 (some 33) ?_
     refine tq_ 4 (some 35) ?_
     refine tq_ 5 (some 36) ?_
     refine tq_ 6 (some 37) ?_
     refine one_ (i := 3) (N := some 34) #[true,true,true,true,true,true,true,false,false,false,false,false,false,false,false,false,false,false,false,false,false,false,false] rfl rfl (one_of HT_.out (by kernel_rfl)) (by decide) (fun K hK => ?_)
     refine goes_ Try.func55 (by kernel_rfl) rfl #[.agg #[.int .i64 a0_0, .int .i64 a0_1], .agg #[.int .i64 a1_0, .int .i64 a1_1], .agg #[.int .i64 a2_0, .int .i64 a2_1]] (by rfl) rfl rfl al ?_
     with_reducible refine (spec_l31Side.calls a0_0 a0_1 a1_0 a1_1 a2_0 a2_1 t358 _ A82.out).mono ?_
     rintro e w88 ⟨rfl, hb⟩
     refine ⟨_, rfl, ?_⟩
     have n0_ := Aside0.mk (blk_below (bf BK350.out) hb)
     have n1_ := Aside0.mk (blk_below (bf BK351.out) hb)
     have n2_ := Aside0.mk (blk_below (bf BK352.out) hb)
     have n3_ := Aside0.mk (blk_below (bf BK353.out) hb)
     have n4_ := Aside0.mk (below_step (lb HB.out) hb)
     clear BK350 BK351 BK352 BK353 HB
     have BK350 := n0_
     have BK351 := n1_
     have BK352 := n2_
     have BK353 := n3_
     have HB := n4_
     clear n0_ n1_ n2_ n3_ n4_
     (try clear hb);(try clear hb2);(try clear hk);(try clear hi)
     refine hK.out _ _ ⟨(blk_cell BK350.out 0).trans rfl, (blk_cell BK350.out 1).trans rfl, (blk_cell BK351.out 0).trans rfl, (blk_cell BK351.out 1).trans rfl, (blk_cell BK352.out 0).trans rfl, (blk_cell BK352.out 1).trans rfl, (blk_cell BK353.out 0).trans rfl, (blk_cell BK353.out 1).trans rfl⟩ (fun hHeld => ?_)
     clear hK K
     refine norm_ (a' := ?_) ?_ ?_
     rotate_left
     ·show Act.put _ (some 34) _ = _
      simp only [Act.put, List.setIfInBounds_toArray, List.set_cons_zero, List.set_cons_succ, i64_w, i32_w]
      rfl
     refine one_ (i := 7) (N := some 38) #[true,true,true,true,true,true,true,true,false,false,false,false,false,false,false,false,false,false,false,false,false,false,false] rfl rfl (one_of HT_.out (by kernel_rfl)) (by decide) (fun K hK => ?_)
     refine goes_ Try.func55 (by kernel_rfl) rfl #[.agg #[.int .i64 a0_0, .int .i64 a0_1], .agg #[.int .i64 a1_0, .int .i64 a1_1], .agg #[.int .i64 a3_0, .int .i64 a3_1]] (by rfl) rfl rfl al ?_
     with_reducible refine (spec_l31Side.calls a0_0 a0_1 a1_0 a1_1 a3_0 a3_1 t359 _ A83.out).mono ?_
     rintro e w89 ⟨rfl, hb⟩
     refine ⟨_, rfl, ?_⟩
     have n0_ := Aside0.mk (blk_below (bf BK350.out) hb)
     have n1_ := Aside0.mk (blk_below (bf BK351.out) hb)
     have n2_ := Aside0.mk (blk_below (bf BK352.out) hb)
     have n3_ := Aside0.mk (blk_below (bf BK353.out) hb)
     have n4_ := Aside0.mk (below_step (lb HB.out) hb)
     clear BK350 BK351 BK352 BK353 HB
     have BK350 := n0_
     have BK351 := n1_
     have BK352 := n2_
     have BK353 := n3_
     have HB := n4_
     clear n0_ n1_ n2_ n3_ n4_
     (try clear hb);(try clear hb2);(try clear hk);(try clear hi)
     refine hK.out _ _ ⟨(blk_cell BK350.out 0).trans rfl, (blk_cell BK350.out 1).trans rfl, (blk_cell BK351.out 0).trans rfl, (blk_cell BK351.out 1).trans rfl, (blk_cell BK352.out 0).trans rfl, (blk_cell BK352.out 1).trans rfl, (blk_cell BK353.out 0).trans rfl, (blk_cell BK353.out 1).trans rfl⟩ (fun hHeld => ?_)
     clear hK K
     refine norm_ (a' := ?_) ?_ ?_
     rotate_left
     ·show Act.put _ (some 38) _ = _
      simp only [Act.put, List.setIfInBounds_toArray, List.set_cons_zero, List.set_cons_succ, i64_w, i32_w]
      rfl
     refine pq_ 8 (some 39) ?_
     refine pq_ 9 (some 40) ?_
     refine pq_ 10 (some 41) ?_
     refine tq_ 11 (some 42) ?_
     refine tq_ 12 (some 43) ?_
     refine tq_ 13 (some 44) ?_
     refine tq_ 15 (some 46) ?_
     refine tq_ 16 (some 47) ?_
     refine tq_ 17 (some 48) ?_
     refine one_ (i := 14) (N := some 45) #[true,true,true,true,true,true,true,true,true,true,true,true,true,true,true,true,true,true,false,false,false,false,false] rfl rfl (one_of HT_.out (by kernel_rfl)) (by decide) (fun K hK => ?_)
     refine goes_ Try.func55 (by kernel_rfl) rfl #[.agg #[.int .i64 a2_0, .int .i64 a2_1], .agg #[.int .i64 a3_0, .int .i64 a3_1], .agg #[.int .i64 a0_0, .int .i64 a0_1]] (by rfl) rfl rfl al ?_
     with_reducible refine (spec_l31Side.calls a2_0 a2_1 a3_0 a3_1 a0_0 a0_1 t360 _ A85.out).mono ?_
     rintro e w90 ⟨rfl, hb⟩
     refine ⟨_, rfl, ?_⟩
     have n0_ := Aside0.mk (blk_below (bf BK350.out) hb)
     have n1_ := Aside0.mk (blk_below (bf BK351.out) hb)
     have n2_ := Aside0.mk (blk_below (bf BK352.out) hb)
     have n3_ := Aside0.mk (blk_below (bf BK353.out) hb)
     have n4_ := Aside0.mk (below_step (lb HB.out) hb)
     clear BK350 BK351 BK352 BK353 HB
     have BK350 := n0_
     have BK351 := n1_
     have BK352 := n2_
     have BK353 := n3_
     have HB := n4_
     clear n0_ n1_ n2_ n3_ n4_
     (try clear hb);(try clear hb2);(try clear hk);(try clear hi)
     refine hK.out _ _ ⟨(blk_cell BK350.out 0).trans rfl, (blk_cell BK350.out 1).trans rfl, (blk_cell BK351.out 0).trans rfl, (blk_cell BK351.out 1).trans rfl, (blk_cell BK352.out 0).trans rfl, (blk_cell BK352.out 1).trans rfl, (blk_cell BK353.out 0).trans rfl, (blk_cell BK353.out 1).trans rfl⟩ (fun hHeld => ?_)
     clear hK K
     refine norm_ (a' := ?_) ?_ ?_
     rotate_left
     ·show Act.put _ (some 45) _ = _
      simp only [Act.put, List.setIfInBounds_toArray, List.set_cons_zero, List.set_cons_succ, i64_w, i32_w]
      rfl
     refine one_ (i := 18) (N := some 49) #[true,true,true,true,true,true,true,true,true,true,true,true,true,true,true,true,true,true,true,false,false,false,false] rfl rfl (one_of HT_.out (by kernel_rfl)) (by decide) (fun K hK => ?_)
     refine goes_ Try.func55 (by kernel_rfl) rfl #[.agg #[.int .i64 a2_0, .int .i64 a2_1], .agg #[.int .i64 a3_0, .int .i64 a3_1], .agg #[.int .i64 a1_0, .int .i64 a1_1]] (by rfl) rfl rfl al ?_
     with_reducible refine (spec_l31Side.calls a2_0 a2_1 a3_0 a3_1 a1_0 a1_1 t361 _ A86.out).mono ?_
     rintro e w91 ⟨rfl, hb⟩
     refine ⟨_, rfl, ?_⟩
     have n0_ := Aside0.mk (blk_below (bf BK350.out) hb)
     have n1_ := Aside0.mk (blk_below (bf BK351.out) hb)
     have n2_ := Aside0.mk (blk_below (bf BK352.out) hb)
     have n3_ := Aside0.mk (blk_below (bf BK353.out) hb)
     have n4_ := Aside0.mk (below_step (lb HB.out) hb)
     clear BK350 BK351 BK352 BK353 HB
     have BK350 := n0_
     have BK351 := n1_
     have BK352 := n2_
     have BK353 := n3_
     have HB := n4_
     clear n0_ n1_ n2_ n3_ n4_
     (try clear hb);(try clear hb2);(try clear hk);(try clear hi)
     refine hK.out _ _ ⟨(blk_cell BK350.out 0).trans rfl, (blk_cell BK350.out 1).trans rfl, (blk_cell BK351.out 0).trans rfl, (blk_cell BK351.out 1).trans rfl, (blk_cell BK352.out 0).trans rfl, (blk_cell BK352.out 1).trans rfl, (blk_cell BK353.out 0).trans rfl, (blk_cell BK353.out 1).trans rfl⟩ (fun hHeld => ?_)
     clear hK K
     refine norm_ (a' := ?_) ?_ ?_
     rotate_left
     ·show Act.put _ (some 49) _ = _
      simp only [Act.put, List.setIfInBounds_toArray, List.set_cons_zero, List.set_cons_succ, i64_w, i32_w]
      rfl
     refine pq_ 19 (some 50) ?_
     refine pq_ 20 (some 51) ?_
     refine pq_ 21 (some 52) ?_
     refine pq_ 22 (some 8) ?_
     refine done_ (done_of HT_.out (by kernel_rfl)) ?_
     try go_wp2
     go_ret
     exact ⟨er, lb HB.out⟩
    ·rw [if_neg c84] at H
     have c84b0 : decide ((wrap64 (t358 * t359)) < 0) = false := decide_eq_false c84
     clear c84
     obtain rfl := Option.some.inj H
     try go_wp2
     have n0_ := Aside0.mk (blk_drew BK350.out)
     have n1_ := Aside0.mk (blk_drew BK351.out)
     have n2_ := Aside0.mk (blk_drew BK352.out)
     have n3_ := Aside0.mk (blk_drew BK353.out)
     have n4_ := Aside0.mk (below_drew1 HB.out)
     clear BK350 BK351 BK352 BK353 HB
     have BK350 := n0_
     have BK351 := n1_
     have BK352 := n2_
     have BK353 := n3_
     have HB := n4_
     clear n0_ n1_ n2_ n3_ n4_
     refine start_ (n := 23) (S := fun w' => w'.cell? ⟨gb350, 0, none⟩ = some (.int .i64 a0_0) ∧ w'.cell? ⟨gb350, 1, none⟩ = some (.int .i64 a0_1) ∧ w'.cell? ⟨gb351, 0, none⟩ = some (.int .i64 a1_0) ∧ w'.cell? ⟨gb351, 1, none⟩ = some (.int .i64 a1_1) ∧ w'.cell? ⟨gb352, 0, none⟩ = some (.int .i64 a2_0) ∧ w'.cell? ⟨gb352, 1, none⟩ = some (.int .i64 a2_1) ∧ w'.cell? ⟨gb353, 0, none⟩ = some (.int .i64 a3_0) ∧ w'.cell? ⟨gb353, 1, none⟩ = some (.int .i64 a3_1)) (ds := []) #[false,false,false,false,false,false,false,false,false,false,false,false,false,false,false,false,false,false,false,false,false,false,false] (by kernel_rfl) rfl rfl ⟨(blk_cell BK350.out 0).trans rfl, (blk_cell BK350.out 1).trans rfl, (blk_cell BK351.out 0).trans rfl, (blk_cell BK351.out 1).trans rfl, (blk_cell BK352.out 0).trans rfl, (blk_cell BK352.out 1).trans rfl, (blk_cell BK353.out 0).trans rfl, (blk_cell BK353.out 1).trans rfl⟩ (fun hHeld => ?_); refine with_tabW spec_l31Meet.tab3 spec_l31Meet.bits3 (fun HT_ HW_ => ?_)
     generalize wc.drew = w92 at BK350 BK351 BK352 BK353 HB hHeld ⊢
     refine tq_ 0 (some 31) ?_
     refine tq_ 1 (some 32) ?_
     refine tq_ 2 (some 33) ?_
     refine tq_ 4 (some 35) ?_
     refine tq_ 5 (some 36) ?_
     refine tq_ 6 (some 37) ?_
     refine one_ (i := 3) (N := some 34) #[true,true,true,true,true,true,true,false,false,false,false,false,false,false,false,false,false,false,false,false,false,false,false] rfl rfl (one_of HT_.out (by kernel_rfl)) (by decide) (fun K hK => ?_)
     refine goes_ Try.func55 (by kernel_rfl) rfl #[.agg #[.int .i64 a0_0, .int .i64 a0_1], .agg #[.int .i64 a1_0, .int .i64 a1_1], .agg #[.int .i64 a2_0, .int .i64 a2_1]] (by rfl) rfl rfl al ?_
     with_reducible refine (spec_l31Side.calls a0_0 a0_1 a1_0 a1_1 a2_0 a2_1 t358 _ A82.out).mono ?_
     rintro e w93 ⟨rfl, hb⟩
     refine ⟨_, rfl, ?_⟩
     have n0_ := Aside0.mk (blk_below (bf BK350.out) hb)
     have n1_ := Aside0.mk (blk_below (bf BK351.out) hb)
     have n2_ := Aside0.mk (blk_below (bf BK352.out) hb)
     have n3_ := Aside0.mk (blk_below (bf BK353.out) hb)
     have n4_ := Aside0.mk (below_step (lb HB.out) hb)
     clear BK350 BK351 BK352 BK353 HB
     have BK350 := n0_
     have BK351 := n1_
     have BK352 := n2_
     have BK353 := n3_
     have HB := n4_
     clear n0_ n1_ n2_ n3_ n4_
     (try clear hb);(try clear hb2);(try clear hk);(try clear hi)
     refine hK.out _ _ ⟨(blk_cell BK350.out 0).trans rfl, (blk_cell BK350.out 1).trans rfl, (blk_cell BK351.out 0).trans rfl, (blk_cell BK351.out 1).trans rfl, (blk_cell BK352.out 0).trans rfl, (blk_cell BK352.out 1).trans rfl, (blk_cell BK353.out 0).trans rfl, (blk_cell BK353.out 1).trans rfl⟩ (fun hHeld => ?_)
     clear hK K
     refine norm_ (a' := ?_) ?_ ?_
     rotate_left
     ·show Act.put _ (some 34) _ = _
      simp only [Act.put, List.setIfInBounds_toArray, List.set_cons_zero, List.set_cons_succ, i64_w, i32_w]
      rfl
     refine one_ (i := 7) (N := some 38) #[true,true,true,true,true,true,true,true,false,false,false,false,false,false,false,false,false,false,false,false,false,false,false] rfl rfl (one_of HT_.out (by kernel_rfl)) (by decide) (fun K hK => ?_)
     refine goes_ Try.func55 (by kernel_rfl) rfl #[.agg #[.int .i64 a0_0, .int .i64 a0_1], .agg #[.int .i64 a1_0, .int .i64 a1_1], .agg #[.int .i64 a3_0, .int .i64 a3_1]] (by rfl) rfl rfl al ?_
     with_reducible refine (spec_l31Side.calls a0_0 a0_1 a1_0 a1_1 a3_0 a3_1 t359 _ A83.out).mono ?_
     rintro e w94 ⟨rfl, hb⟩
     refine ⟨_, rfl, ?_⟩
     have n0_ := Aside0.mk (blk_below (bf BK350.out) hb)
     have n1_ := Aside0.mk (blk_below (bf BK351.out) hb)
     have n2_ := Aside0.mk (blk_below (bf BK352.out) hb)
     have n3_ := Aside0.mk (blk_below (bf BK353.out) hb)
     have n4_ := Aside0.mk (below_step (lb HB.out) hb)
     clear BK350 BK351 BK352 BK353 HB
     have BK350 := n0_
     have BK351 := n1_
     have BK352 := n2_
     have BK353 := n3_
     have HB := n4_
     clear n0_ n1_ n2_ n3_ n4_
     (try clear hb);(try clear hb2);(try clear hk);(try clear hi)
     refine hK.out _ _ ⟨(blk_cell BK350.out 0).trans rfl, (blk_cell BK350.out 1).trans rfl, (blk_cell BK351.out 0).trans rfl, (blk_cell BK351.out 1).trans rfl, (blk_cell BK352.out 0).trans rfl, (blk_cell BK352.out 1).trans rfl, (blk_cell BK353.out 0).trans rfl, (blk_cell BK353.out 1).trans rfl⟩ (fun hHeld => ?_)
     clear hK K
     refine norm_ (a' := ?_) ?_ ?_
     rotate_left
     ·show Act.put _ (some 38) _ = _
      simp only [Act.put, List.setIfInBounds_toArray, List.set_cons_zero, List.set_cons_succ, i64_w, i32_w]
      rfl
     refine pq_ 8 (some 39) ?_
     refine pq_ 9 (some 40) ?_
     refine pq_ 10 (some 41) ?_
     refine pure_ (i := 11) (N := some 42) (v := undef) (a' := ?_) #[true,true,true,true,true,true,true,true,true,true,true,true,false,false,false,false,false,false,false,false,false,false,false] rfl rfl (any_of HT_.out (by kernel_rfl)) (fun _ _ _ h => h) (Or.inr ⟨by rfl, rfl⟩) ?_ ?_
     rotate_left
     ·simp only [Act.put, List.setIfInBounds_toArray, List.set_cons_zero, List.set_cons_succ, i64_w, i32_w]
      rfl
     refine pure_ (i := 12) (N := some 43) (v := undef) (a' := ?_) #[true,true,true,true,true,true,true,true,true,true,true,true,true,false,false,false,false,false,false,false,false,false,false] rfl rfl (any_of HT_.out (by kernel_rfl)) (fun _ _ _ h => h) (Or.inr ⟨by rfl, rfl⟩) ?_ ?_
     rotate_left
     ·simp only [Act.put, List.setIfInBounds_toArray, List.set_cons_zero, List.set_cons_succ, i64_w, i32_w]
      rfl
     refine pure_ (i := 13) (N := some 44) (v := undef) (a' := ?_) #[true,true,true,true,true,true,true,true,true,true,true,true,true,true,false,false,false,false,false,false,false,false,false] rfl rfl (any_of HT_.out (by kernel_rfl)) (fun _ _ _ h => h) (Or.inr ⟨by rfl, rfl⟩) ?_ ?_
     rotate_left
     ·simp only [Act.put, List.setIfInBounds_toArray, List.set_cons_zero, List.set_cons_succ, i64_w, i32_w]
      rfl
     refine pure_ (i := 14) (N := some 45) (v := undef) (a' := ?_) #[true,true,true,true,true,true,true,true,true,true,true,true,true,true,true,false,false,false,false,false,false,false,false] rfl rfl (any_of HT_.out (by kernel_rfl)) (fun _ _ _ h => h) (Or.inr ⟨by rfl, rfl⟩) ?_ ?_
     rotate_left
     ·simp only [Act.put, List.setIfInBounds_toArray, List.set_cons_zero, List.set_cons_succ, i64_w, i32_w]
      rfl
     refine pure_ (i := 15) (N := some 46) (v := undef) (a' := ?_) #[true,true,true,true,true,true,true,true,true,true,true,true,true,true,true,true,false,false,false,false,false,false,false] rfl rfl (any_of HT_.out (by kernel_rfl)) (fun _ _ _ h => h) (Or.inr ⟨by rfl, rfl⟩) ?_ ?_
     rotate_left
     ·simp only [Act.put, List.setIfInBounds_toArray, List.set_cons_zero, List.set_cons_succ, i64_w, i32_w]
      rfl
     refine pure_ (i := 16) (N := some 47) (v := undef) (a' := ?_) #[true,true,true,true,true,true,true,true,true,true,true,true,true,true,true,true,true,false,false,false,false,false,false] rfl rfl (any_of HT_.out (by kernel_rfl)) (fun _ _ _ h => h) (Or.inr ⟨by rfl, rfl⟩) ?_ ?_
     rotate_left
     ·simp only [Act.put, List.setIfInBounds_toArray, List.set_cons_zero, List.set_cons_succ, i64_w, i32_w]
      rfl
     refine pure_ (i := 17) (N := some 48) (v := undef) (a' := ?_) #[true,true,true,true,true,true,true,true,true,true,true,true,true,true,true,true,true,true,false,false,false,false,false] rfl rfl (any_of HT_.out (by kernel_rfl)) (fun _ _ _ h => h) (Or.inr ⟨by rfl, rfl⟩) ?_ ?_
     rotate_left
     ·simp only [Act.put, List.setIfInBounds_toArray, List.set_cons_zero, List.set_cons_succ, i64_w, i32_w]
      rfl
     refine pure_ (i := 18) (N := some 49) (v := undef) (a' := ?_) #[true,true,true,true,true,true,true,true,true,true,true,true,true,true,true,true,true,true,true,false,false,false,false] rfl rfl (any_of HT_.out (by kernel_rfl)) (fun _ _ _ h => h) (Or.inr ⟨by rfl, rfl⟩) ?_ ?_
     rotate_left
     ·simp only [Act.put, List.setIfInBounds_toArray, List.set_cons_zero, List.set_cons_succ, i64_w, i32_w]
      rfl
     refine pure_ (i := 19) (N := some 50) (v := undef) (a' := ?_) #[true,true,true,true,true,true,true,true,true,true,true,true,true,true,true,true,true,true,true,true,false,false,false] rfl rfl (any_of HT_.out (by kernel_rfl)) (fun _ _ _ h => h) (Or.inr ⟨by rfl, rfl⟩) ?_ ?_
     rotate_left
     ·simp only [Act.put, List.setIfInBounds_toArray, List.set_cons_zero, List.set_cons_succ, i64_w, i32_w]
      rfl
     refine pure_ (i := 20) (N := some 51) (v := undef) (a' := ?_) #[true,true,true,true,true,true,true,true,true,true,true,true,true,true,true,true,true,true,true,true,true,false,false] rfl rfl (any_of HT_.out (by kernel_rfl)) (fun _ _ _ h => h) (Or.inr ⟨by rfl, rfl⟩) ?_ ?_
     rotate_left
     ·simp only [Act.put, List.setIfInBounds_toArray, List.set_cons_zero, List.set_cons_succ, i64_w, i32_w]
      rfl
     refine pq_ 21 (some 52) ?_
     refine pq_ 22 (some 8) ?_
     refine done_ (done_of HT_.out (by kernel_rfl)) ?_
     try go_wp2
     go_ret
     exact ⟨er, lb HB.out⟩
mutual
def spec_PolyValid.l0 : Nat → List (S33) → Int → Int → Option (Bool)
 | 0, _, _, _ => none
 | k + 1, x0, x3, x4 => if x4 < x3 then (spec_PolyValid.l1 k x0 x3 x4 (wrap64 (x4 + 1))) else (some true)
def spec_PolyValid.l1 : Nat → List (S33) → Int → Int → Int → Option (Bool)
 | 0, _, _, _, _ => none
 | k + 1, x0, x3, x4, x5 => if x5 < x3 then (if 0 ≤ x4 then (if x4 < (x0.length : Int) then (if x3 = 0 then (none) else (if 0 ≤ (Int.tmod (wrap64 (x4 + 1)) x3) then (if (Int.tmod (wrap64 (x4 + 1)) x3) < (x0.length : Int) then (if 0 ≤ x5 then (if x5 < (x0.length : Int) then (if 0 ≤ (Int.tmod (wrap64 (x5 + 1)) x3) then (if (Int.tmod (wrap64 (x5 + 1)) x3) < (x0.length : Int) then (if x5 = (wrap64 (x4 + 1)) then (if (((rd_T33 x0 x5).f0) == ((rd_T33 x0 x4).f0) && (((rd_T33 x0 x5).f1) == ((rd_T33 x0 x4).f1))) = true then (some false) else (if (((rd_T33 x0 (Int.tmod (wrap64 (x5 + 1)) x3)).f0) == ((rd_T33 x0 x5).f0) && (((rd_T33 x0 (Int.tmod (wrap64 (x5 + 1)) x3)).f1) == ((rd_T33 x0 x5).f1))) = true then (some false) else ((spec_l2On.f ((rd_T33 x0 x4).f0) ((rd_T33 x0 x4).f1) ((rd_T33 x0 (Int.tmod (wrap64 (x4 + 1)) x3)).f0) ((rd_T33 x0 (Int.tmod (wrap64 (x4 + 1)) x3)).f1) ((rd_T33 x0 (Int.tmod (wrap64 (x5 + 1)) x3)).f0) ((rd_T33 x0 (Int.tmod (wrap64 (x5 + 1)) x3)).f1)).bind fun t371 => (if t371 = true then (some false) else ((spec_l2On.f ((rd_T33 x0 x5).f0) ((rd_T33 x0 x5).f1) ((rd_T33 x0 (Int.tmod (wrap64 (x5 + 1)) x3)).f0) ((rd_T33 x0 (Int.tmod (wrap64 (x5 + 1)) x3)).f1) ((rd_T33 x0 x4).f0) ((rd_T33 x0 x4).f1)).bind fun t372 => (if t372 = true then (some false) else (spec_PolyValid.l1 k x0 x3 x4 (wrap64 (x5 + 1))))))))) else (if (Int.tmod (wrap64 (x5 + 1)) x3) = x4 then ((spec_l2On.f ((rd_T33 x0 x5).f0) ((rd_T33 x0 x5).f1) ((rd_T33 x0 (Int.tmod (wrap64 (x5 + 1)) x3)).f0) ((rd_T33 x0 (Int.tmod (wrap64 (x5 + 1)) x3)).f1) ((rd_T33 x0 (Int.tmod (wrap64 (x4 + 1)) x3)).f0) ((rd_T33 x0 (Int.tmod (wrap64 (x4 + 1)) x3)).f1)).bind fun t373 => (if t373 = true then (some false) else ((spec_l2On.f ((rd_T33 x0 x4).f0) ((rd_T33 x0 x4).f1) ((rd_T33 x0 (Int.tmod (wrap64 (x4 + 1)) x3)).f0) ((rd_T33 x0 (Int.tmod (wrap64 (x4 + 1)) x3)).f1) ((rd_T33 x0 x5).f0) ((rd_T33 x0 x5).f1)).bind fun t374 => (if t374 = true then (some false) else (spec_PolyValid.l1 k x0 x3 x4 (wrap64 (x5 + 1))))))) else ((spec_l31Meet.f k ((rd_T33 x0 x4).f0) ((rd_T33 x0 x4).f1) ((rd_T33 x0 (Int.tmod (wrap64 (x4 + 1)) x3)).f0) ((rd_T33 x0 (Int.tmod (wrap64 (x4 + 1)) x3)).f1) ((rd_T33 x0 x5).f0) ((rd_T33 x0 x5).f1) ((rd_T33 x0 (Int.tmod (wrap64 (x5 + 1)) x3)).f0) ((rd_T33 x0 (Int.tmod (wrap64 (x5 + 1)) x3)).f1)).bind fun t375 => (if t375 = true then (some false) else (spec_PolyValid.l1 k x0 x3 x4 (wrap64 (x5 + 1))))))) else (none)) else (none)) else (none)) else (none)) else (none)) else (none))) else (none)) else (none)) else (spec_PolyValid.l0 k x0 x3 (wrap64 (x4 + 1)))
end
def spec_PolyValid.f (k : Nat) (l0 : List (S33)) : Option (Bool) := (spec_l31Points.f k l0).bind fun t362 => (if t362 = true then (spec_PolyValid.l0 k l0 (l0.length : Int) 0) else (some false))
theorem spec_PolyValid.mono_l : ∀ k, (∀ y0 y1 y2, LeO (spec_PolyValid.l0 k y0 y1 y2) (spec_PolyValid.l0 (k + 1) y0 y1 y2)) ∧ (∀ y0 y1 y2 y3, LeO (spec_PolyValid.l1 k y0 y1 y2 y3) (spec_PolyValid.l1 (k + 1) y0 y1 y2 y3))
 | 0 => ⟨fun _ _ _ r h => by simp [spec_PolyValid.l0] at h, fun _ _ _ _ r h => by simp [spec_PolyValid.l1] at h⟩
 | k + 1 => by
  obtain ⟨ih0, ih1⟩ := spec_PolyValid.mono_l k
  refine ⟨?_, ?_⟩
  ·intro y0 y1 y2
   unfold spec_PolyValid.l0
   repeat' first
   | (with_reducible exact ih0 _ _ _)
   | (with_reducible exact ih1 _ _ _ _)
   | (with_reducible exact spec_l31Meet.mono _ _ _ _ _ _ _ _ _)
   | (with_reducible exact spec_l31Points.mono _ _)
   | (with_reducible exact LeO.refl _)
   | (with_reducible exact LeO.none _)
   | (with_reducible refine LeO.ite ?_ ?_)
   | (with_reducible refine LeO.bind ?_ (fun _ => ?_))
   | exact ih0 _ _ _
   | exact ih1 _ _ _ _
   | exact spec_l31Meet.mono _ _ _ _ _ _ _ _ _
   | exact spec_l31Points.mono _ _
   | exact LeO.none _
   | refine LeO.ite ?_ ?_
   | refine LeO.bind ?_ (fun _ => ?_)
  ·intro y0 y1 y2 y3
   unfold spec_PolyValid.l1
   repeat' first
   | (with_reducible exact ih0 _ _ _)
   | (with_reducible exact ih1 _ _ _ _)
   | (with_reducible exact spec_l31Meet.mono _ _ _ _ _ _ _ _ _)
   | (with_reducible exact spec_l31Points.mono _ _)
   | (with_reducible exact LeO.refl _)
   | (with_reducible exact LeO.none _)
   | (with_reducible refine LeO.ite ?_ ?_)
   | (with_reducible refine LeO.bind ?_ (fun _ => ?_))
   | exact ih0 _ _ _
   | exact ih1 _ _ _ _
   | exact spec_l31Meet.mono _ _ _ _ _ _ _ _ _
   | exact spec_l31Points.mono _ _
   | exact LeO.none _
   | refine LeO.ite ?_ ?_
   | refine LeO.bind ?_ (fun _ => ?_)
theorem spec_PolyValid.mono : ∀ a0 k, LeO (spec_PolyValid.f k a0) (spec_PolyValid.f (k + 1) a0) := by
 intro a0 k
 obtain ⟨ih0, ih1⟩ := spec_PolyValid.mono_l k
 unfold spec_PolyValid.f
 repeat' first
   | (with_reducible exact ih0 _ _ _)
   | (with_reducible exact ih1 _ _ _ _)
   | (with_reducible exact spec_l31Meet.mono _ _ _ _ _ _ _ _ _)
   | (with_reducible exact spec_l31Points.mono _ _)
   | (with_reducible exact LeO.refl _)
   | (with_reducible exact LeO.none _)
   | (with_reducible refine LeO.ite ?_ ?_)
   | (with_reducible refine LeO.bind ?_ (fun _ => ?_))
   | exact ih0 _ _ _
   | exact ih1 _ _ _ _
   | exact spec_l31Meet.mono _ _ _ _ _ _ _ _ _
   | exact spec_l31Points.mono _ _
   | exact LeO.none _
   | refine LeO.ite ?_ ?_
   | refine LeO.bind ?_ (fun _ => ?_)
set_option maxHeartbeats 8000000 in
set_option maxRecDepth 100000 in
theorem spec_PolyValid.calls (k : Nat) (A0 : Option Addr) (c0 : Nat) (l0 : List (S33)) (r : Bool) (w : World) (hr0 : Kd.C k33 w A0 l0.length l0) (hc0 : l0.length ≤ c0) (h : spec_PolyValid.f k l0 = some r) :
  Calls Try.prog 66 #[.slice A0 l0.length c0] w fun e w' => e = .returned (.bool r) ∧ Below w.heap.size w w' := by
 have hu33 := Try.underlying33
 have HR0 := Aside0.mk hr0
 have HC0 := Aside0.mk hc0
 clear hr0 hc0
 have HB := Aside0.mk (Below.refl w.heap.size w)
 have H : ((spec_l31Points.f k l0).bind fun t362 => (if t362 = true then (spec_PolyValid.l0 k l0 (l0.length : Int) 0) else (some false))) = some r := h
 clear h
 replace H := Option.bind_eq_some_iff.mp H
 obtain ⟨t362, A20, H⟩ := H
 replace H : (if t362 = true then (spec_PolyValid.l0 k l0 (l0.length : Int) 0) else (some false)) = some r := H
 have A2 := Aside0.mk A20
 clear A20
 by_cases c3 : t362 = true
 ·subst c3
  have H1 : (spec_PolyValid.l0 k l0 (l0.length : Int) 0) = some r := by rw [if_pos rfl] at H; exact H
  clear H
  have H := H1
  clear H1
  have H' := Aside0.mk H
  clear H
  go_enter Try.func66, Try.ntmps66
  go_wp2_with (first | ((with_reducible refine gate_callee (f := 88) rfl ?_); refine goesL_ (some 11) rfl rfl Try.func88 (by kernel_rfl) rfl #[.slice A0 l0.length c0] rfl al ?_; (with_reducible refine (spec_l31Points.calls k _ _ l0 true _ ?side1 ?side2 A2.out).mono ?_); (case side1 => repeat (first | exact HR0.out | (with_reducible refine Kd.C_alloc ?_ _) | (with_reducible refine Kd.C_drewN ?_ _) | (with_reducible refine Kd.C_drew ?_))); (case side2 => exact HC0.out); rintro e w4 ⟨rfl, hb⟩; refine ⟨_, rfl, ?_⟩; have n0_ := Aside0.mk (below_step (lb HB.out) hb); clear HB; have HB := n0_; clear n0_; (try clear hb); (try clear hb2); (try clear hk); (try clear hi)))
  go_loopg [4] k (fun kq v4 w' => ∃ (x4_1 : Int), v4 = .int .i64 x4_1 ∧ Aside0 (spec_PolyValid.l0 kq l0 (l0.length : Int) x4_1 = some r) ∧ Aside0 (kq ≤ k) ∧ Aside0 (Below w.heap.size w w'))
  case atStart => exact ⟨(0), (by first | rfl | (simp; done) | (simp [*]; done)), H', ⟨Nat.le_refl _⟩, ⟨lb HB.out⟩⟩
  case round =>
   clear H'
   try clear p2
   try clear c3
   obtain ⟨x4_1, rfl, HA, HK1, HB⟩ := hrel
   cases gk with
   | zero => exact absurd HA.out (by simp [spec_PolyValid.l0])
   | succ k1 =>
    have H := HA.out
    clear HA
    simp only [spec_PolyValid.l0] at H
    by_cases c5 : x4_1 < (l0.length : Int)
    ·rw [if_pos c5] at H
     have c5b0 : decide (x4_1 < (l0.length : Int)) = true := decide_eq_true c5
     clear c5
     have H' := Aside0.mk H
     clear H
     go_wp2
     go_loopg [5] k1 (fun kq v5 w' => ∃ (x5_2 : Int), v5 = .int .i64 x5_2 ∧ Aside0 (spec_PolyValid.l1 kq l0 (l0.length : Int) x4_1 x5_2 = some r) ∧ Aside0 (kq ≤ k1) ∧ Aside0 (Below w.heap.size w w'))
     case atStart => exact ⟨(wrap64 (x4_1 + 1)), (by first | rfl | (simp; done) | (simp [*]; done)), H', ⟨Nat.le_refl _⟩, ⟨lb HB.out⟩⟩
     case round =>
      clear H'
      try clear p2
      try clear c3
      try clear c5
      try clear c5b0
      try clear p2
      obtain ⟨x5_2, rfl, HA, HK2, HB⟩ := hrel
      cases gk with
      | zero => exact absurd HA.out (by simp [spec_PolyValid.l1])
      | succ k2 =>
       have H := HA.out
       clear HA
       simp only [spec_PolyValid.l1] at H
       by_cases c6 : x5_2 < (l0.length : Int)
       ·rw [if_pos c6] at H
        have c6b0 : decide (x5_2 < (l0.length : Int)) = true := decide_eq_true c6
        clear c6
        by_cases c7 : 0 ≤ x4_1
        ·rw [if_pos c7] at H
         have c7b0 : decide (0 ≤ x4_1) = true := decide_eq_true c7
         clear c7
         by_cases c8 : x4_1 < (l0.length : Int)
         ·rw [if_pos c8] at H
          have c8b0 : decide (x4_1 < (l0.length : Int)) = true := decide_eq_true c8
          clear c8
          by_cases c9 : (l0.length : Int) = 0
          ·rw [if_pos c9] at H
           exact absurd H (by simp)
          ·rw [if_neg c9] at H
           have c9b0 : ((l0.length : Int) == 0) = false := beq_eq_false_iff_ne.mpr c9
           have c9b1 : ((l0.length : Int) != 0) = true := bne_iff_ne.mpr c9
           have c9b2 : ¬ (l0 = []) := fun h_ => c9 (by rw [h_]; rfl)
           obtain ⟨ji10, hji10⟩ : ∃ j_ : Int, (Int.tmod (wrap64 (x4_1 + 1)) (l0.length : Int)) = j_ := ⟨_, rfl⟩
           replace H : (if 0 ≤ (ji10) then (if (ji10) < (l0.length : Int) then (if 0 ≤ x5_2 then (if x5_2 < (l0.length : Int) then (if 0 ≤ (Int.tmod (wrap64 (x5_2 + 1)) (l0.length : Int)) then (if (Int.tmod (wrap64 (x5_2 + 1)) (l0.length : Int)) < (l0.length : Int) then (if x5_2 = (wrap64 (x4_1 + 1)) then (if (((rd_T33 l0 x5_2).f0) == ((rd_T33 l0 x4_1).f0) && (((rd_T33 l0 x5_2).f1) == ((rd_T33 l0 x4_1).f1))) = true then (some false) else (if (((rd_T33 l0 (Int.tmod (wrap64 (x5_2 + 1)) (l0.length : Int))).f0) == ((rd_T33 l0 x5_2).f0) && (((rd_T33 l0 (Int.tmod (wrap64 (x5_2 + 1)) (l0.length : Int))).f1) == ((rd_T33 l0 x5_2).f1))) = true then (some false) else ((spec_l2On.f ((rd_T33 l0 x4_1).f0) ((rd_T33 l0 x4_1).f1) ((rd_T33 l0 (ji10)).f0) ((rd_T33 l0 (ji10)).f1) ((rd_T33 l0 (Int.tmod (wrap64 (x5_2 + 1)) (l0.length : Int))).f0) ((rd_T33 l0 (Int.tmod (wrap64 (x5_2 + 1)) (l0.length : Int))).f1)).bind fun t371 => (if t371 = true then (some false) else ((spec_l2On.f ((rd_T33 l0 x5_2).f0) ((rd_T33 l0 x5_2).f1) ((rd_T33 l0 (Int.tmod (wrap64 (x5_2 + 1)) (l0.length : Int))).f0) ((rd_T33 l0 (Int.tmod (wrap64 (x5_2 + 1)) (l0.length : Int))).f1) ((rd_T33 l0 x4_1).f0) ((rd_T33 l0 x4_1).f1)).bind fun t372 => (if t372 = true then (some false) else (spec_PolyValid.l1 k2 l0 (l0.length : Int) x4_1 (wrap64 (x5_2 + 1))))))))) else (if (Int.tmod (wrap64 (x5_2 + 1)) (l0.length : Int)) = x4_1 then ((spec_l2On.f ((rd_T33 l0 x5_2).f0) ((rd_T33 l0 x5_2).f1) ((rd_T33 l0 (Int.tmod (wrap64 (x5_2 + 1)) (l0.length : Int))).f0) ((rd_T33 l0 (Int.tmod (wrap64 (x5_2 + 1)) (l0.length : Int))).f1) ((rd_T33 l0 (ji10)).f0) ((rd_T33 l0 (ji10)).f1)).bind fun t373 => (if t373 = true then (some false) else ((spec_l2On.f ((rd_T33 l0 x4_1).f0) ((rd_T33 l0 x4_1).f1) ((rd_T33 l0 (ji10)).f0) ((rd_T33 l0 (ji10)).f1) ((rd_T33 l0 x5_2).f0) ((rd_T33 l0 x5_2).f1)).bind fun t374 => (if t374 = true then (some false) else (spec_PolyValid.l1 k2 l0 (l0.length : Int) x4_1 (wrap64 (x5_2 + 1))))))) else ((spec_l31Meet.f k2 ((rd_T33 l0 x4_1).f0) ((rd_T33 l0 x4_1).f1) ((rd_T33 l0 (ji10)).f0) ((rd_T33 l0 (ji10)).f1) ((rd_T33 l0 x5_2).f0) ((rd_T33 l0 x5_2).f1) ((rd_T33 l0 (Int.tmod (wrap64 (x5_2 + 1)) (l0.length : Int))).f0) ((rd_T33 l0 (Int.tmod (wrap64 (x5_2 + 1)) (l0.length : Int))).f1)).bind fun t375 => (if t375 = true then (some false) else (spec_PolyValid.l1 k2 l0 (l0.length : Int) x4_1 (wrap64 (x5_2 + 1))))))) else (none)) else (none)) else (none)) else (none)) else (none)) else (none)) = some r := by first | (rw [hji10] at H; exact H) | (simp only [hji10] at H ⊢; exact H)
           by_cases c11 : 0 ≤ (ji10)
           ·rw [if_pos c11] at H
            have c11b0 : decide (0 ≤ (ji10)) = true := decide_eq_true c11
            clear c11
            by_cases c12 : (ji10) < (l0.length : Int)
            ·rw [if_pos c12] at H
             have c12b0 : decide ((ji10) < (l0.length : Int)) = true := decide_eq_true c12
             clear c12
             by_cases c13 : 0 ≤ x5_2
             ·rw [if_pos c13] at H
              have c13b0 : decide (0 ≤ x5_2) = true := decide_eq_true c13
              clear c13
              by_cases c14 : x5_2 < (l0.length : Int)
              ·rw [if_pos c14] at H
               have c14b0 : decide (x5_2 < (l0.length : Int)) = true := decide_eq_true c14
               clear c14
               obtain ⟨ji15, hji15⟩ : ∃ j_ : Int, (Int.tmod (wrap64 (x5_2 + 1)) (l0.length : Int)) = j_ := ⟨_, rfl⟩
               replace H : (if 0 ≤ (ji15) then (if (ji15) < (l0.length : Int) then (if x5_2 = (wrap64 (x4_1 + 1)) then (if (((rd_T33 l0 x5_2).f0) == ((rd_T33 l0 x4_1).f0) && (((rd_T33 l0 x5_2).f1) == ((rd_T33 l0 x4_1).f1))) = true then (some false) else (if (((rd_T33 l0 (ji15)).f0) == ((rd_T33 l0 x5_2).f0) && (((rd_T33 l0 (ji15)).f1) == ((rd_T33 l0 x5_2).f1))) = true then (some false) else ((spec_l2On.f ((rd_T33 l0 x4_1).f0) ((rd_T33 l0 x4_1).f1) ((rd_T33 l0 (ji10)).f0) ((rd_T33 l0 (ji10)).f1) ((rd_T33 l0 (ji15)).f0) ((rd_T33 l0 (ji15)).f1)).bind fun t371 => (if t371 = true then (some false) else ((spec_l2On.f ((rd_T33 l0 x5_2).f0) ((rd_T33 l0 x5_2).f1) ((rd_T33 l0 (ji15)).f0) ((rd_T33 l0 (ji15)).f1) ((rd_T33 l0 x4_1).f0) ((rd_T33 l0 x4_1).f1)).bind fun t372 => (if t372 = true then (some false) else (spec_PolyValid.l1 k2 l0 (l0.length : Int) x4_1 (wrap64 (x5_2 + 1))))))))) else (if (ji15) = x4_1 then ((spec_l2On.f ((rd_T33 l0 x5_2).f0) ((rd_T33 l0 x5_2).f1) ((rd_T33 l0 (ji15)).f0) ((rd_T33 l0 (ji15)).f1) ((rd_T33 l0 (ji10)).f0) ((rd_T33 l0 (ji10)).f1)).bind fun t373 => (if t373 = true then (some false) else ((spec_l2On.f ((rd_T33 l0 x4_1).f0) ((rd_T33 l0 x4_1).f1) ((rd_T33 l0 (ji10)).f0) ((rd_T33 l0 (ji10)).f1) ((rd_T33 l0 x5_2).f0) ((rd_T33 l0 x5_2).f1)).bind fun t374 => (if t374 = true then (some false) else (spec_PolyValid.l1 k2 l0 (l0.length : Int) x4_1 (wrap64 (x5_2 + 1))))))) else ((spec_l31Meet.f k2 ((rd_T33 l0 x4_1).f0) ((rd_T33 l0 x4_1).f1) ((rd_T33 l0 (ji10)).f0) ((rd_T33 l0 (ji10)).f1) ((rd_T33 l0 x5_2).f0) ((rd_T33 l0 x5_2).f1) ((rd_T33 l0 (ji15)).f0) ((rd_T33 l0 (ji15)).f1)).bind fun t375 => (if t375 = true then (some false) else (spec_PolyValid.l1 k2 l0 (l0.length : Int) x4_1 (wrap64 (x5_2 + 1))))))) else (none)) else (none)) = some r := by first | (rw [hji15] at H; exact H) | (simp only [hji15] at H ⊢; exact H)
               by_cases c16 : 0 ≤ (ji15)
               ·rw [if_pos c16] at H
                have c16b0 : decide (0 ≤ (ji15)) = true := decide_eq_true c16
                clear c16
                by_cases c17 : (ji15) < (l0.length : Int)
                ·rw [if_pos c17] at H
                 have c17b0 : decide ((ji15) < (l0.length : Int)) = true := decide_eq_true c17
                 clear c17
                 by_cases c18 : x5_2 = (wrap64 (x4_1 + 1))
                 ·rw [if_pos c18] at H
                  have c18b0 : (x5_2 == (wrap64 (x4_1 + 1))) = true := beq_iff_eq.mpr c18
                  have c18b1 : (x5_2 != (wrap64 (x4_1 + 1))) = false := bne_eq_false_iff_eq.mpr c18
                  clear c18
                  by_cases c19 : (((rd_T33 l0 x5_2).f0) == ((rd_T33 l0 x4_1).f0) && (((rd_T33 l0 x5_2).f1) == ((rd_T33 l0 x4_1).f1))) = true
                  ·rw [if_pos c19] at H
                   have c19b0 : (((rd_T33 l0 x5_2).f0) == ((rd_T33 l0 x4_1).f0) && (((rd_T33 l0 x5_2).f1) == ((rd_T33 l0 x4_1).f1))) = true := c19
                   (try (have c19b1 : decide (((rd_T33 l0 x5_2).f0) = ((rd_T33 l0 x4_1).f0) && (((rd_T33 l0 x5_2).f1) == ((rd_T33 l0 x4_1).f1))) = true := by simpa using c19))
                   (try (have c19b2 : (((rd_T33 l0 x5_2).f0) == ((rd_T33 l0 x4_1).f0) && (((rd_T33 l0 x5_2).f1) == ((rd_T33 l0 x4_1).f1))) = true := by simpa using c19))
                   clear c19
                   obtain rfl := Option.some.inj H
                   have p363 : 0 ≤ (x4_1 : Int) := oa
                   have q363 : x4_1 < (l0.length : Int) := oa
                   obtain ⟨ad363, e363, hx363_0, hx363_1⟩ := at_T33 HR0.out x4_1 p363 q363
                   cases e363
                   replace hx363_0 := (HB.out.cell (World.block_lt_of_cell? w _ hx363_0)).trans hx363_0
                   replace hx363_1 := (HB.out.cell (World.block_lt_of_cell? w _ hx363_1)).trans hx363_1
                   replace p363 := eq_true p363
                   replace q363 := eq_true q363
                   go_wp2_with (first | ((with_reducible refine gate_dst (N := 6) rfl ?_); refine bx_ 6 (cs := #[.int .i64 0, .int .i64 0]) (t := 33) ?_; intro gb364 hg w20 hbox hb; have n0_ := Aside0.mk (below_step (lb HB.out) hb); have n1_ := Aside0.mk (hbox); have n2_ := Aside0.mk ((by rw [hg]; exact (below_size (lb HB.out)) : w.heap.size ≤ gb364)); have n3_ := Aside0.mk ((by rw [hg]; exact (below_size (lb HB.out)) : w.heap.size ≤ gb364)); clear HB; have HB := n0_; have BK364 := n1_; have GW364 := n2_; have GE364 := n3_; clear n0_ n1_ n2_ n3_; clear hb hbox hg; have hcz21_0 : w20.cell? ⟨gb364, 0, none⟩ = some (.int .i64 0) := (blk_cell BK364.out 0).trans rfl; have hcz21_1 : w20.cell? ⟨gb364, 1, none⟩ = some (.int .i64 0) := (blk_cell BK364.out 1).trans rfl; have hfz21_0 := blk_frozen BK364.out 0; have hfz21_1 := blk_frozen BK364.out 1; have p365 : 0 ≤ ((ji10) : Int) := oa; have q365 : (ji10) < (l0.length : Int) := oa; obtain ⟨ad365, e365, hx365_0, hx365_1⟩ := at_T33 HR0.out (ji10) p365 q365; obtain rfl : ad363 = ad365 := (by injection e365); have hn365_0 : ad363.block ≠ gb364 := Nat.ne_of_lt (cl hx365_0 GW364.out); have hn365_1 : ad363.block ≠ gb364 := Nat.ne_of_lt (cl hx365_0 GW364.out); replace hx365_0 := (HB.out.cell (World.block_lt_of_cell? w _ hx365_0)).trans hx365_0; replace hx365_1 := (HB.out.cell (World.block_lt_of_cell? w _ hx365_1)).trans hx365_1; replace hx365_0 := (cell_far (p := ⟨gb364, 0, none⟩) (nb hn365_0) (.int .i64 ((rd_T33 l0 x4_1).f0))).trans hx365_0; replace hx365_1 := (cell_far (p := ⟨gb364, 0, none⟩) (nb hn365_0) (.int .i64 ((rd_T33 l0 x4_1).f0))).trans hx365_1; replace hx365_0 := (cell_far (p := ⟨gb364, 1, none⟩) (nb hn365_1) (.int .i64 ((rd_T33 l0 x4_1).f1))).trans hx365_0; replace hx365_1 := (cell_far (p := ⟨gb364, 1, none⟩) (nb hn365_1) (.int .i64 ((rd_T33 l0 x4_1).f1))).trans hx365_1; clear hn365_0; clear hn365_1; replace p365 := eq_true p365; replace q365 := eq_true q365) | ((with_reducible refine gate_dst (N := 7) rfl ?_); refine bx_ 7 (cs := #[.int .i64 0, .int .i64 0]) (t := 33) ?_; intro gb366 hg w22 hbox hb; have n0_ := Aside0.mk (blk_below (bp BK364.out) hb); have n1_ := Aside0.mk (below_step (lb HB.out) hb); have n2_ := Aside0.mk (hbox); have n3_ := Aside0.mk ((by rw [hg]; exact (below_size (lb HB.out)) : w.heap.size ≤ gb366)); have n4_ := Aside0.mk ((by rw [hg]; exact (below_size (lb HB.out)) : w.heap.size ≤ gb366)); have n5_ := Aside0.mk ((by rw [hg]; exact Nat.ne_of_lt (blk_lt (bp BK364.out)) : gb364 ≠ gb366)); have n6_ := Aside0.mk ((by rw [hg]; exact Nat.ne_of_gt (blk_lt (bp BK364.out)) : gb366 ≠ gb364)); clear BK364; clear HB; have BK364 := n0_; have HB := n1_; have BK366 := n2_; have GW366 := n3_; have GE366 := n4_; have NB364_366 := n5_; have NB366_364 := n6_; clear n0_ n1_ n2_ n3_ n4_ n5_ n6_; clear hb hbox hg; have hnb23 := NB366_364.out; have hnc23 := NB364_366.out; have hcz24_0 : w22.cell? ⟨gb366, 0, none⟩ = some (.int .i64 0) := (blk_cell BK366.out 0).trans rfl; have hcz24_1 : w22.cell? ⟨gb366, 1, none⟩ = some (.int .i64 0) := (blk_cell BK366.out 1).trans rfl; have hfz24_0 := blk_frozen BK366.out 0; have hfz24_1 := blk_frozen BK366.out 1; have p367 : 0 ≤ (x5_2 : Int) := oa; have q367 : x5_2 < (l0.length : Int) := oa; obtain ⟨ad367, e367, hx367_0, hx367_1⟩ := at_T33 HR0.out x5_2 p367 q367; obtain rfl : ad363 = ad367 := (by injection e367); have hn367_0 : ad363.block ≠ gb366 := Nat.ne_of_lt (cl hx367_0 GW366.out); have hn367_1 : ad363.block ≠ gb366 := Nat.ne_of_lt (cl hx367_0 GW366.out); replace hx367_0 := (HB.out.cell (World.block_lt_of_cell? w _ hx367_0)).trans hx367_0; replace hx367_1 := (HB.out.cell (World.block_lt_of_cell? w _ hx367_1)).trans hx367_1; replace hx367_0 := (cell_far (p := ⟨gb366, 0, none⟩) (nb hn367_0) (.int .i64 ((rd_T33 l0 (ji10)).f0))).trans hx367_0; replace hx367_1 := (cell_far (p := ⟨gb366, 0, none⟩) (nb hn367_0) (.int .i64 ((rd_T33 l0 (ji10)).f0))).trans hx367_1; replace hx367_0 := (cell_far (p := ⟨gb366, 1, none⟩) (nb hn367_1) (.int .i64 ((rd_T33 l0 (ji10)).f1))).trans hx367_0; replace hx367_1 := (cell_far (p := ⟨gb366, 1, none⟩) (nb hn367_1) (.int .i64 ((rd_T33 l0 (ji10)).f1))).trans hx367_1; clear hn367_0; clear hn367_1; replace p367 := eq_true p367; replace q367 := eq_true q367) | ((with_reducible refine gate_dst (N := 8) rfl ?_); refine bx_ 8 (cs := #[.int .i64 0, .int .i64 0]) (t := 33) ?_; intro gb368 hg w25 hbox hb; have n0_ := Aside0.mk (blk_below (bf BK364.out) hb); have n1_ := Aside0.mk (blk_below (bp BK366.out) hb); have n2_ := Aside0.mk (below_step (lb HB.out) hb); have n3_ := Aside0.mk (hbox); have n4_ := Aside0.mk ((by rw [hg]; exact (below_size (lb HB.out)) : w.heap.size ≤ gb368)); have n5_ := Aside0.mk ((by rw [hg]; exact (below_size (lb HB.out)) : w.heap.size ≤ gb368)); have n6_ := Aside0.mk ((by rw [hg]; exact Nat.ne_of_lt (blk_lt (bf BK364.out)) : gb364 ≠ gb368)); have n7_ := Aside0.mk ((by rw [hg]; exact Nat.ne_of_gt (blk_lt (bf BK364.out)) : gb368 ≠ gb364)); have n8_ := Aside0.mk ((by rw [hg]; exact Nat.ne_of_lt (blk_lt (bp BK366.out)) : gb366 ≠ gb368)); have n9_ := Aside0.mk ((by rw [hg]; exact Nat.ne_of_gt (blk_lt (bp BK366.out)) : gb368 ≠ gb366)); clear BK364; clear BK366; clear HB; have BK364 := n0_; have BK366 := n1_; have HB := n2_; have BK368 := n3_; have GW368 := n4_; have GE368 := n5_; have NB364_368 := n6_; have NB368_364 := n7_; have NB366_368 := n8_; have NB368_366 := n9_; clear n0_ n1_ n2_ n3_ n4_ n5_ n6_ n7_ n8_ n9_; clear hb hbox hg; have hnb26 := NB368_364.out; have hnc26 := NB364_368.out; have hnb27 := NB368_366.out; have hnc27 := NB366_368.out; have hcz28_0 : w25.cell? ⟨gb368, 0, none⟩ = some (.int .i64 0) := (blk_cell BK368.out 0).trans rfl; have hcz28_1 : w25.cell? ⟨gb368, 1, none⟩ = some (.int .i64 0) := (blk_cell BK368.out 1).trans rfl; have hfz28_0 := blk_frozen BK368.out 0; have hfz28_1 := blk_frozen BK368.out 1; have p369 : 0 ≤ ((ji15) : Int) := oa; have q369 : (ji15) < (l0.length : Int) := oa; obtain ⟨ad369, e369, hx369_0, hx369_1⟩ := at_T33 HR0.out (ji15) p369 q369; obtain rfl : ad363 = ad369 := (by injection e369); have hn369_0 : ad363.block ≠ gb368 := Nat.ne_of_lt (cl hx369_0 GW368.out); have hn369_1 : ad363.block ≠ gb368 := Nat.ne_of_lt (cl hx369_0 GW368.out); replace hx369_0 := (HB.out.cell (World.block_lt_of_cell? w _ hx369_0)).trans hx369_0; replace hx369_1 := (HB.out.cell (World.block_lt_of_cell? w _ hx369_1)).trans hx369_1; replace hx369_0 := (cell_far (p := ⟨gb368, 0, none⟩) (nb hn369_0) (.int .i64 ((rd_T33 l0 x5_2).f0))).trans hx369_0; replace hx369_1 := (cell_far (p := ⟨gb368, 0, none⟩) (nb hn369_0) (.int .i64 ((rd_T33 l0 x5_2).f0))).trans hx369_1; replace hx369_0 := (cell_far (p := ⟨gb368, 1, none⟩) (nb hn369_1) (.int .i64 ((rd_T33 l0 x5_2).f1))).trans hx369_0; replace hx369_1 := (cell_far (p := ⟨gb368, 1, none⟩) (nb hn369_1) (.int .i64 ((rd_T33 l0 x5_2).f1))).trans hx369_1; clear hn369_0; clear hn369_1; replace p369 := eq_true p369; replace q369 := eq_true q369) | ((with_reducible refine gate_dst (N := 9) rfl ?_); refine bx_ 9 (cs := #[.int .i64 0, .int .i64 0]) (t := 33) ?_; intro gb370 hg w29 hbox hb; have n0_ := Aside0.mk (blk_below (bf BK364.out) hb); have n1_ := Aside0.mk (blk_below (bf BK366.out) hb); have n2_ := Aside0.mk (blk_below (bp BK368.out) hb); have n3_ := Aside0.mk (below_step (lb HB.out) hb); have n4_ := Aside0.mk (hbox); have n5_ := Aside0.mk ((by rw [hg]; exact (below_size (lb HB.out)) : w.heap.size ≤ gb370)); have n6_ := Aside0.mk ((by rw [hg]; exact (below_size (lb HB.out)) : w.heap.size ≤ gb370)); have n7_ := Aside0.mk ((by rw [hg]; exact Nat.ne_of_lt (blk_lt (bf BK364.out)) : gb364 ≠ gb370)); have n8_ := Aside0.mk ((by rw [hg]; exact Nat.ne_of_gt (blk_lt (bf BK364.out)) : gb370 ≠ gb364)); have n9_ := Aside0.mk ((by rw [hg]; exact Nat.ne_of_lt (blk_lt (bf BK366.out)) : gb366 ≠ gb370)); have n10_ := Aside0.mk ((by rw [hg]; exact Nat.ne_of_gt (blk_lt (bf BK366.out)) : gb370 ≠ gb366)); have n11_ := Aside0.mk ((by rw [hg]; exact Nat.ne_of_lt (blk_lt (bp BK368.out)) : gb368 ≠ gb370)); have n12_ := Aside0.mk ((by rw [hg]; exact Nat.ne_of_gt (blk_lt (bp BK368.out)) : gb370 ≠ gb368)); clear BK364; clear BK366; clear BK368; clear HB; have BK364 := n0_; have BK366 := n1_; have BK368 := n2_; have HB := n3_; have BK370 := n4_; have GW370 := n5_; have GE370 := n6_; have NB364_370 := n7_; have NB370_364 := n8_; have NB366_370 := n9_; have NB370_366 := n10_; have NB368_370 := n11_; have NB370_368 := n12_; clear n0_ n1_ n2_ n3_ n4_ n5_ n6_ n7_ n8_ n9_ n10_ n11_ n12_; clear hb hbox hg; have hnb30 := NB370_364.out; have hnc30 := NB364_370.out; have hnb31 := NB370_366.out; have hnc31 := NB366_370.out; have hnb32 := NB370_368.out; have hnc32 := NB368_370.out; have hcz33_0 : w29.cell? ⟨gb370, 0, none⟩ = some (.int .i64 0) := (blk_cell BK370.out 0).trans rfl; have hcz33_1 : w29.cell? ⟨gb370, 1, none⟩ = some (.int .i64 0) := (blk_cell BK370.out 1).trans rfl; have hfz33_0 := blk_frozen BK370.out 0; have hfz33_1 := blk_frozen BK370.out 1; have hcz34_0 : w29.cell? ⟨gb368, 0, none⟩ = some (.int .i64 ((rd_T33 l0 x5_2).f0)) := (blk_cell BK368.out 0).trans rfl; have hcz34_1 : w29.cell? ⟨gb368, 1, none⟩ = some (.int .i64 ((rd_T33 l0 x5_2).f1)) := (blk_cell BK368.out 1).trans rfl; have hfz34_0 := blk_frozen BK368.out 0; have hfz34_1 := blk_frozen BK368.out 1; have hcz35_0 : w29.cell? ⟨gb364, 0, none⟩ = some (.int .i64 ((rd_T33 l0 x4_1).f0)) := (blk_cell BK364.out 0).trans rfl; have hcz35_1 : w29.cell? ⟨gb364, 1, none⟩ = some (.int .i64 ((rd_T33 l0 x4_1).f1)) := (blk_cell BK364.out 1).trans rfl; have hfz35_0 := blk_frozen BK364.out 0; have hfz35_1 := blk_frozen BK364.out 1))
                   go_ret
                   exact ⟨by first | rfl | (simp [errW_none, errW_some] <;> rfl) | (simp only [← hji10, ← hji15]; first | rfl | (simp [errW_none, errW_some] <;> rfl)) | (simp [*, errW_none, errW_some] <;> rfl), lb HB.out⟩
                  ·rw [if_neg c19] at H
                   have c19b0 : (((rd_T33 l0 x5_2).f0) == ((rd_T33 l0 x4_1).f0) && (((rd_T33 l0 x5_2).f1) == ((rd_T33 l0 x4_1).f1))) = false := by simpa using c19
                   (try (have c19b1 : decide (((rd_T33 l0 x5_2).f0) = ((rd_T33 l0 x4_1).f0) && (((rd_T33 l0 x5_2).f1) == ((rd_T33 l0 x4_1).f1))) = false := by simpa using c19))
                   (try (have c19b2 : (((rd_T33 l0 x5_2).f0) == ((rd_T33 l0 x4_1).f0) && (((rd_T33 l0 x5_2).f1) == ((rd_T33 l0 x4_1).f1))) = false := by simpa using c19))
                   (try (have c19b3 : ¬ (((rd_T33 l0 x5_2).f0) = ((rd_T33 l0 x4_1).f0) && (((rd_T33 l0 x5_2).f1) == ((rd_T33 l0 x4_1).f1))) := by simpa using c19))
                   clear c19
                   by_cases c36 : (((rd_T33 l0 (ji15)).f0) == ((rd_T33 l0 x5_2).f0) && (((rd_T33 l0 (ji15)).f1) == ((rd_T33 l0 x5_2).f1))) = true
                   ·rw [if_pos c36] at H
                    have c36b0 : (((rd_T33 l0 (ji15)).f0) == ((rd_T33 l0 x5_2).f0) && (((rd_T33 l0 (ji15)).f1) == ((rd_T33 l0 x5_2).f1))) = true := c36
                    (try (have c36b1 : decide (((rd_T33 l0 (ji15)).f0) = ((rd_T33 l0 x5_2).f0) && (((rd_T33 l0 (ji15)).f1) == ((rd_T33 l0 x5_2).f1))) = true := by simpa using c36))
                    (try (have c36b2 : (((rd_T33 l0 (ji15)).f0) == ((rd_T33 l0 x5_2).f0) && (((rd_T33 l0 (ji15)).f1) == ((rd_T33 l0 x5_2).f1))) = true := by simpa using c36))
                    clear c36
                    obtain rfl := Option.some.inj H
                    have p363 : 0 ≤ (x4_1 : Int) := oa
                    have q363 : x4_1 < (l0.length : Int) := oa
                    obtain ⟨ad363, e363, hx363_0, hx363_1⟩ := at_T33 HR0.out x4_1 p363 q363
                    cases e363
                    replace hx363_0 := (HB.out.cell (World.block_lt_of_cell? w _ hx363_0)).trans hx363_0
                    replace hx363_1 := (HB.out.cell (World.block_lt_of_cell? w _ hx363_1)).trans hx363_1
                    replace p363 := eq_true p363
                    replace q363 := eq_true q363
                    go_wp2_with (first | ((with_reducible refine gate_dst (N := 6) rfl ?_); refine bx_ 6 (cs := #[.int .i64 0, .int .i64 0]) (t := 33) ?_; intro gb364 hg w37 hbox hb; have n0_ := Aside0.mk (below_step (lb HB.out) hb); have n1_ := Aside0.mk (hbox); have n2_ := Aside0.mk ((by rw [hg]; exact (below_size (lb HB.out)) : w.heap.size ≤ gb364)); have n3_ := Aside0.mk ((by rw [hg]; exact (below_size (lb HB.out)) : w.heap.size ≤ gb364)); clear HB; have HB := n0_; have BK364 := n1_; have GW364 := n2_; have GE364 := n3_; clear n0_ n1_ n2_ n3_; clear hb hbox hg; have hcz38_0 : w37.cell? ⟨gb364, 0, none⟩ = some (.int .i64 0) := (blk_cell BK364.out 0).trans rfl; have hcz38_1 : w37.cell? ⟨gb364, 1, none⟩ = some (.int .i64 0) := (blk_cell BK364.out 1).trans rfl; have hfz38_0 := blk_frozen BK364.out 0; have hfz38_1 := blk_frozen BK364.out 1; have p365 : 0 ≤ ((ji10) : Int) := oa; have q365 : (ji10) < (l0.length : Int) := oa; obtain ⟨ad365, e365, hx365_0, hx365_1⟩ := at_T33 HR0.out (ji10) p365 q365; obtain rfl : ad363 = ad365 := (by injection e365); have hn365_0 : ad363.block ≠ gb364 := Nat.ne_of_lt (cl hx365_0 GW364.out); have hn365_1 : ad363.block ≠ gb364 := Nat.ne_of_lt (cl hx365_0 GW364.out); replace hx365_0 := (HB.out.cell (World.block_lt_of_cell? w _ hx365_0)).trans hx365_0; replace hx365_1 := (HB.out.cell (World.block_lt_of_cell? w _ hx365_1)).trans hx365_1; replace hx365_0 := (cell_far (p := ⟨gb364, 0, none⟩) (nb hn365_0) (.int .i64 ((rd_T33 l0 x4_1).f0))).trans hx365_0; replace hx365_1 := (cell_far (p := ⟨gb364, 0, none⟩) (nb hn365_0) (.int .i64 ((rd_T33 l0 x4_1).f0))).trans hx365_1; replace hx365_0 := (cell_far (p := ⟨gb364, 1, none⟩) (nb hn365_1) (.int .i64 ((rd_T33 l0 x4_1).f1))).trans hx365_0; replace hx365_1 := (cell_far (p := ⟨gb364, 1, none⟩) (nb hn365_1) (.int .i64 ((rd_T33 l0 x4_1).f1))).trans hx365_1; clear hn365_0; clear hn365_1; replace p365 := eq_true p365; replace q365 := eq_true q365) | ((with_reducible refine gate_dst (N := 7) rfl ?_); refine bx_ 7 (cs := #[.int .i64 0, .int .i64 0]) (t := 33) ?_; intro gb366 hg w39 hbox hb; have n0_ := Aside0.mk (blk_below (bp BK364.out) hb); have n1_ := Aside0.mk (below_step (lb HB.out) hb); have n2_ := Aside0.mk (hbox); have n3_ := Aside0.mk ((by rw [hg]; exact (below_size (lb HB.out)) : w.heap.size ≤ gb366)); have n4_ := Aside0.mk ((by rw [hg]; exact (below_size (lb HB.out)) : w.heap.size ≤ gb366)); have n5_ := Aside0.mk ((by rw [hg]; exact Nat.ne_of_lt (blk_lt (bp BK364.out)) : gb364 ≠ gb366)); have n6_ := Aside0.mk ((by rw [hg]; exact Nat.ne_of_gt (blk_lt (bp BK364.out)) : gb366 ≠ gb364)); clear BK364; clear HB; have BK364 := n0_; have HB := n1_; have BK366 := n2_; have GW366 := n3_; have GE366 := n4_; have NB364_366 := n5_; have NB366_364 := n6_; clear n0_ n1_ n2_ n3_ n4_ n5_ n6_; clear hb hbox hg; have hnb40 := NB366_364.out; have hnc40 := NB364_366.out; have hcz41_0 : w39.cell? ⟨gb366, 0, none⟩ = some (.int .i64 0) := (blk_cell BK366.out 0).trans rfl; have hcz41_1 : w39.cell? ⟨gb366, 1, none⟩ = some (.int .i64 0) := (blk_cell BK366.out 1).trans rfl; have hfz41_0 := blk_frozen BK366.out 0; have hfz41_1 := blk_frozen BK366.out 1; have p367 : 0 ≤ (x5_2 : Int) := oa; have q367 : x5_2 < (l0.length : Int) := oa; obtain ⟨ad367, e367, hx367_0, hx367_1⟩ := at_T33 HR0.out x5_2 p367 q367; obtain rfl : ad363 = ad367 := (by injection e367); have hn367_0 : ad363.block ≠ gb366 := Nat.ne_of_lt (cl hx367_0 GW366.out); have hn367_1 : ad363.block ≠ gb366 := Nat.ne_of_lt (cl hx367_0 GW366.out); replace hx367_0 := (HB.out.cell (World.block_lt_of_cell? w _ hx367_0)).trans hx367_0; replace hx367_1 := (HB.out.cell (World.block_lt_of_cell? w _ hx367_1)).trans hx367_1; replace hx367_0 := (cell_far (p := ⟨gb366, 0, none⟩) (nb hn367_0) (.int .i64 ((rd_T33 l0 (ji10)).f0))).trans hx367_0; replace hx367_1 := (cell_far (p := ⟨gb366, 0, none⟩) (nb hn367_0) (.int .i64 ((rd_T33 l0 (ji10)).f0))).trans hx367_1; replace hx367_0 := (cell_far (p := ⟨gb366, 1, none⟩) (nb hn367_1) (.int .i64 ((rd_T33 l0 (ji10)).f1))).trans hx367_0; replace hx367_1 := (cell_far (p := ⟨gb366, 1, none⟩) (nb hn367_1) (.int .i64 ((rd_T33 l0 (ji10)).f1))).trans hx367_1; clear hn367_0; clear hn367_1; replace p367 := eq_true p367; replace q367 := eq_true q367) | ((with_reducible refine gate_dst (N := 8) rfl ?_); refine bx_ 8 (cs := #[.int .i64 0, .int .i64 0]) (t := 33) ?_; intro gb368 hg w42 hbox hb; have n0_ := Aside0.mk (blk_below (bf BK364.out) hb); have n1_ := Aside0.mk (blk_below (bp BK366.out) hb); have n2_ := Aside0.mk (below_step (lb HB.out) hb); have n3_ := Aside0.mk (hbox); have n4_ := Aside0.mk ((by rw [hg]; exact (below_size (lb HB.out)) : w.heap.size ≤ gb368)); have n5_ := Aside0.mk ((by rw [hg]; exact (below_size (lb HB.out)) : w.heap.size ≤ gb368)); have n6_ := Aside0.mk ((by rw [hg]; exact Nat.ne_of_lt (blk_lt (bf BK364.out)) : gb364 ≠ gb368)); have n7_ := Aside0.mk ((by rw [hg]; exact Nat.ne_of_gt (blk_lt (bf BK364.out)) : gb368 ≠ gb364)); have n8_ := Aside0.mk ((by rw [hg]; exact Nat.ne_of_lt (blk_lt (bp BK366.out)) : gb366 ≠ gb368)); have n9_ := Aside0.mk ((by rw [hg]; exact Nat.ne_of_gt (blk_lt (bp BK366.out)) : gb368 ≠ gb366)); clear BK364; clear BK366; clear HB; have BK364 := n0_; have BK366 := n1_; have HB := n2_; have BK368 := n3_; have GW368 := n4_; have GE368 := n5_; have NB364_368 := n6_; have NB368_364 := n7_; have NB366_368 := n8_; have NB368_366 := n9_; clear n0_ n1_ n2_ n3_ n4_ n5_ n6_ n7_ n8_ n9_; clear hb hbox hg; have hnb43 := NB368_364.out; have hnc43 := NB364_368.out; have hnb44 := NB368_366.out; have hnc44 := NB366_368.out; have hcz45_0 : w42.cell? ⟨gb368, 0, none⟩ = some (.int .i64 0) := (blk_cell BK368.out 0).trans rfl; have hcz45_1 : w42.cell? ⟨gb368, 1, none⟩ = some (.int .i64 0) := (blk_cell BK368.out 1).trans rfl; have hfz45_0 := blk_frozen BK368.out 0; have hfz45_1 := blk_frozen BK368.out 1; have p369 : 0 ≤ ((ji15) : Int) := oa; have q369 : (ji15) < (l0.length : Int) := oa; obtain ⟨ad369, e369, hx369_0, hx369_1⟩ := at_T33 HR0.out (ji15) p369 q369; obtain rfl : ad363 = ad369 := (by injection e369); have hn369_0 : ad363.block ≠ gb368 := Nat.ne_of_lt (cl hx369_0 GW368.out); have hn369_1 : ad363.block ≠ gb368 := Nat.ne_of_lt (cl hx369_0 GW368.out); replace hx369_0 := (HB.out.cell (World.block_lt_of_cell? w _ hx369_0)).trans hx369_0; replace hx369_1 := (HB.out.cell (World.block_lt_of_cell? w _ hx369_1)).trans hx369_1; replace hx369_0 := (cell_far (p := ⟨gb368, 0, none⟩) (nb hn369_0) (.int .i64 ((rd_T33 l0 x5_2).f0))).trans hx369_0; replace hx369_1 := (cell_far (p := ⟨gb368, 0, none⟩) (nb hn369_0) (.int .i64 ((rd_T33 l0 x5_2).f0))).trans hx369_1; replace hx369_0 := (cell_far (p := ⟨gb368, 1, none⟩) (nb hn369_1) (.int .i64 ((rd_T33 l0 x5_2).f1))).trans hx369_0; replace hx369_1 := (cell_far (p := ⟨gb368, 1, none⟩) (nb hn369_1) (.int .i64 ((rd_T33 l0 x5_2).f1))).trans hx369_1; clear hn369_0; clear hn369_1; replace p369 := eq_true p369; replace q369 := eq_true q369) | ((with_reducible refine gate_dst (N := 9) rfl ?_); refine bx_ 9 (cs := #[.int .i64 0, .int .i64 0]) (t := 33) ?_; intro gb370 hg w46 hbox hb; have n0_ := Aside0.mk (blk_below (bf BK364.out) hb); have n1_ := Aside0.mk (blk_below (bf BK366.out) hb); have n2_ := Aside0.mk (blk_below (bp BK368.out) hb); have n3_ := Aside0.mk (below_step (lb HB.out) hb); have n4_ := Aside0.mk (hbox); have n5_ := Aside0.mk ((by rw [hg]; exact (below_size (lb HB.out)) : w.heap.size ≤ gb370)); have n6_ := Aside0.mk ((by rw [hg]; exact (below_size (lb HB.out)) : w.heap.size ≤ gb370)); have n7_ := Aside0.mk ((by rw [hg]; exact Nat.ne_of_lt (blk_lt (bf BK364.out)) : gb364 ≠ gb370)); have n8_ := Aside0.mk ((by rw [hg]; exact Nat.ne_of_gt (blk_lt (bf BK364.out)) : gb370 ≠ gb364)); have n9_ := Aside0.mk ((by rw [hg]; exact Nat.ne_of_lt (blk_lt (bf BK366.out)) : gb366 ≠ gb370)); have n10_ := Aside0.mk ((by rw [hg]; exact Nat.ne_of_gt (blk_lt (bf BK366.out)) : gb370 ≠ gb366)); have n11_ := Aside0.mk ((by rw [hg]; exact Nat.ne_of_lt (blk_lt (bp BK368.out)) : gb368 ≠ gb370)); have n12_ := Aside0.mk ((by rw [hg]; exact Nat.ne_of_gt (blk_lt (bp BK368.out)) : gb370 ≠ gb368)); clear BK364; clear BK366; clear BK368; clear HB; have BK364 := n0_; have BK366 := n1_; have BK368 := n2_; have HB := n3_; have BK370 := n4_; have GW370 := n5_; have GE370 := n6_; have NB364_370 := n7_; have NB370_364 := n8_; have NB366_370 := n9_; have NB370_366 := n10_; have NB368_370 := n11_; have NB370_368 := n12_; clear n0_ n1_ n2_ n3_ n4_ n5_ n6_ n7_ n8_ n9_ n10_ n11_ n12_; clear hb hbox hg; have hnb47 := NB370_364.out; have hnc47 := NB364_370.out; have hnb48 := NB370_366.out; have hnc48 := NB366_370.out; have hnb49 := NB370_368.out; have hnc49 := NB368_370.out; have hcz50_0 : w46.cell? ⟨gb370, 0, none⟩ = some (.int .i64 0) := (blk_cell BK370.out 0).trans rfl; have hcz50_1 : w46.cell? ⟨gb370, 1, none⟩ = some (.int .i64 0) := (blk_cell BK370.out 1).trans rfl; have hfz50_0 := blk_frozen BK370.out 0; have hfz50_1 := blk_frozen BK370.out 1; have hcz51_0 : w46.cell? ⟨gb368, 0, none⟩ = some (.int .i64 ((rd_T33 l0 x5_2).f0)) := (blk_cell BK368.out 0).trans rfl; have hcz51_1 : w46.cell? ⟨gb368, 1, none⟩ = some (.int .i64 ((rd_T33 l0 x5_2).f1)) := (blk_cell BK368.out 1).trans rfl; have hfz51_0 := blk_frozen BK368.out 0; have hfz51_1 := blk_frozen BK368.out 1; have hcz52_0 : w46.cell? ⟨gb364, 0, none⟩ = some (.int .i64 ((rd_T33 l0 x4_1).f0)) := (blk_cell BK364.out 0).trans rfl; have hcz52_1 : w46.cell? ⟨gb364, 1, none⟩ = some (.int .i64 ((rd_T33 l0 x4_1).f1)) := (blk_cell BK364.out 1).trans rfl; have hfz52_0 := blk_frozen BK364.out 0; have hfz52_1 := blk_frozen BK364.out 1))
                    go_ret
                    exact ⟨by first | rfl | (simp [errW_none, errW_some] <;> rfl) | (simp only [← hji10, ← hji15]; first | rfl | (simp [errW_none, errW_some] <;> rfl)) | (simp [*, errW_none, errW_some] <;> rfl), lb HB.out⟩
                   ·rw [if_neg c36] at H
                    have c36b0 : (((rd_T33 l0 (ji15)).f0) == ((rd_T33 l0 x5_2).f0) && (((rd_T33 l0 (ji15)).f1) == ((rd_T33 l0 x5_2).f1))) = false := by simpa using c36
                    (try (have c36b1 : decide (((rd_T33 l0 (ji15)).f0) = ((rd_T33 l0 x5_2).f0) && (((rd_T33 l0 (ji15)).f1) == ((rd_T33 l0 x5_2).f1))) = false := by simpa using c36))
                    (try (have c36b2 : (((rd_T33 l0 (ji15)).f0) == ((rd_T33 l0 x5_2).f0) && (((rd_T33 l0 (ji15)).f1) == ((rd_T33 l0 x5_2).f1))) = false := by simpa using c36))
                    (try (have c36b3 : ¬ (((rd_T33 l0 (ji15)).f0) = ((rd_T33 l0 x5_2).f0) && (((rd_T33 l0 (ji15)).f1) == ((rd_T33 l0 x5_2).f1))) := by simpa using c36))
                    clear c36
                    replace H := Option.bind_eq_some_iff.mp H
                    obtain ⟨t371, A530, H⟩ := H
                    replace H : (if t371 = true then (some false) else ((spec_l2On.f ((rd_T33 l0 x5_2).f0) ((rd_T33 l0 x5_2).f1) ((rd_T33 l0 (ji15)).f0) ((rd_T33 l0 (ji15)).f1) ((rd_T33 l0 x4_1).f0) ((rd_T33 l0 x4_1).f1)).bind fun t372 => (if t372 = true then (some false) else (spec_PolyValid.l1 k2 l0 (l0.length : Int) x4_1 (wrap64 (x5_2 + 1)))))) = some r := H
                    have A53 := Aside0.mk A530
                    clear A530
                    by_cases c54 : t371 = true
                    ·subst c54
                     have H1 : (some false) = some r := by rw [if_pos rfl] at H; exact H
                     clear H
                     have H := H1
                     clear H1
                     obtain rfl := Option.some.inj H
                     have p363 : 0 ≤ (x4_1 : Int) := oa
                     have q363 : x4_1 < (l0.length : Int) := oa
                     obtain ⟨ad363, e363, hx363_0, hx363_1⟩ := at_T33 HR0.out x4_1 p363 q363
                     cases e363
                     replace hx363_0 := (HB.out.cell (World.block_lt_of_cell? w _ hx363_0)).trans hx363_0
                     replace hx363_1 := (HB.out.cell (World.block_lt_of_cell? w _ hx363_1)).trans hx363_1
                     replace p363 := eq_true p363
                     replace q363 := eq_true q363
                     go_wp2_with (first | ((with_reducible refine gate_dst (N := 6) rfl ?_); refine bx_ 6 (cs := #[.int .i64 0, .int .i64 0]) (t := 33) ?_; intro gb364 hg w55 hbox hb; have n0_ := Aside0.mk (below_step (lb HB.out) hb); have n1_ := Aside0.mk (hbox); have n2_ := Aside0.mk ((by rw [hg]; exact (below_size (lb HB.out)) : w.heap.size ≤ gb364)); have n3_ := Aside0.mk ((by rw [hg]; exact (below_size (lb HB.out)) : w.heap.size ≤ gb364)); clear HB; have HB := n0_; have BK364 := n1_; have GW364 := n2_; have GE364 := n3_; clear n0_ n1_ n2_ n3_; clear hb hbox hg; have hcz56_0 : w55.cell? ⟨gb364, 0, none⟩ = some (.int .i64 0) := (blk_cell BK364.out 0).trans rfl; have hcz56_1 : w55.cell? ⟨gb364, 1, none⟩ = some (.int .i64 0) := (blk_cell BK364.out 1).trans rfl; have hfz56_0 := blk_frozen BK364.out 0; have hfz56_1 := blk_frozen BK364.out 1; have p365 : 0 ≤ ((ji10) : Int) := oa; have q365 : (ji10) < (l0.length : Int) := oa; obtain ⟨ad365, e365, hx365_0, hx365_1⟩ := at_T33 HR0.out (ji10) p365 q365; obtain rfl : ad363 = ad365 := (by injection e365); have hn365_0 : ad363.block ≠ gb364 := Nat.ne_of_lt (cl hx365_0 GW364.out); have hn365_1 : ad363.block ≠ gb364 := Nat.ne_of_lt (cl hx365_0 GW364.out); replace hx365_0 := (HB.out.cell (World.block_lt_of_cell? w _ hx365_0)).trans hx365_0; replace hx365_1 := (HB.out.cell (World.block_lt_of_cell? w _ hx365_1)).trans hx365_1; replace hx365_0 := (cell_far (p := ⟨gb364, 0, none⟩) (nb hn365_0) (.int .i64 ((rd_T33 l0 x4_1).f0))).trans hx365_0; replace hx365_1 := (cell_far (p := ⟨gb364, 0, none⟩) (nb hn365_0) (.int .i64 ((rd_T33 l0 x4_1).f0))).trans hx365_1; replace hx365_0 := (cell_far (p := ⟨gb364, 1, none⟩) (nb hn365_1) (.int .i64 ((rd_T33 l0 x4_1).f1))).trans hx365_0; replace hx365_1 := (cell_far (p := ⟨gb364, 1, none⟩) (nb hn365_1) (.int .i64 ((rd_T33 l0 x4_1).f1))).trans hx365_1; clear hn365_0; clear hn365_1; replace p365 := eq_true p365; replace q365 := eq_true q365) | ((with_reducible refine gate_dst (N := 7) rfl ?_); refine bx_ 7 (cs := #[.int .i64 0, .int .i64 0]) (t := 33) ?_; intro gb366 hg w57 hbox hb; have n0_ := Aside0.mk (blk_below (bp BK364.out) hb); have n1_ := Aside0.mk (below_step (lb HB.out) hb); have n2_ := Aside0.mk (hbox); have n3_ := Aside0.mk ((by rw [hg]; exact (below_size (lb HB.out)) : w.heap.size ≤ gb366)); have n4_ := Aside0.mk ((by rw [hg]; exact (below_size (lb HB.out)) : w.heap.size ≤ gb366)); have n5_ := Aside0.mk ((by rw [hg]; exact Nat.ne_of_lt (blk_lt (bp BK364.out)) : gb364 ≠ gb366)); have n6_ := Aside0.mk ((by rw [hg]; exact Nat.ne_of_gt (blk_lt (bp BK364.out)) : gb366 ≠ gb364)); clear BK364; clear HB; have BK364 := n0_; have HB := n1_; have BK366 := n2_; have GW366 := n3_; have GE366 := n4_; have NB364_366 := n5_; have NB366_364 := n6_; clear n0_ n1_ n2_ n3_ n4_ n5_ n6_; clear hb hbox hg; have hnb58 := NB366_364.out; have hnc58 := NB364_366.out; have hcz59_0 : w57.cell? ⟨gb366, 0, none⟩ = some (.int .i64 0) := (blk_cell BK366.out 0).trans rfl; have hcz59_1 : w57.cell? ⟨gb366, 1, none⟩ = some (.int .i64 0) := (blk_cell BK366.out 1).trans rfl; have hfz59_0 := blk_frozen BK366.out 0; have hfz59_1 := blk_frozen BK366.out 1; have p367 : 0 ≤ (x5_2 : Int) := oa; have q367 : x5_2 < (l0.length : Int) := oa; obtain ⟨ad367, e367, hx367_0, hx367_1⟩ := at_T33 HR0.out x5_2 p367 q367; obtain rfl : ad363 = ad367 := (by injection e367); have hn367_0 : ad363.block ≠ gb366 := Nat.ne_of_lt (cl hx367_0 GW366.out); have hn367_1 : ad363.block ≠ gb366 := Nat.ne_of_lt (cl hx367_0 GW366.out); replace hx367_0 := (HB.out.cell (World.block_lt_of_cell? w _ hx367_0)).trans hx367_0; replace hx367_1 := (HB.out.cell (World.block_lt_of_cell? w _ hx367_1)).trans hx367_1; replace hx367_0 := (cell_far (p := ⟨gb366, 0, none⟩) (nb hn367_0) (.int .i64 ((rd_T33 l0 (ji10)).f0))).trans hx367_0; replace hx367_1 := (cell_far (p := ⟨gb366, 0, none⟩) (nb hn367_0) (.int .i64 ((rd_T33 l0 (ji10)).f0))).trans hx367_1; replace hx367_0 := (cell_far (p := ⟨gb366, 1, none⟩) (nb hn367_1) (.int .i64 ((rd_T33 l0 (ji10)).f1))).trans hx367_0; replace hx367_1 := (cell_far (p := ⟨gb366, 1, none⟩) (nb hn367_1) (.int .i64 ((rd_T33 l0 (ji10)).f1))).trans hx367_1; clear hn367_0; clear hn367_1; replace p367 := eq_true p367; replace q367 := eq_true q367) | ((with_reducible refine gate_dst (N := 8) rfl ?_); refine bx_ 8 (cs := #[.int .i64 0, .int .i64 0]) (t := 33) ?_; intro gb368 hg w60 hbox hb; have n0_ := Aside0.mk (blk_below (bf BK364.out) hb); have n1_ := Aside0.mk (blk_below (bp BK366.out) hb); have n2_ := Aside0.mk (below_step (lb HB.out) hb); have n3_ := Aside0.mk (hbox); have n4_ := Aside0.mk ((by rw [hg]; exact (below_size (lb HB.out)) : w.heap.size ≤ gb368)); have n5_ := Aside0.mk ((by rw [hg]; exact (below_size (lb HB.out)) : w.heap.size ≤ gb368)); have n6_ := Aside0.mk ((by rw [hg]; exact Nat.ne_of_lt (blk_lt (bf BK364.out)) : gb364 ≠ gb368)); have n7_ := Aside0.mk ((by rw [hg]; exact Nat.ne_of_gt (blk_lt (bf BK364.out)) : gb368 ≠ gb364)); have n8_ := Aside0.mk ((by rw [hg]; exact Nat.ne_of_lt (blk_lt (bp BK366.out)) : gb366 ≠ gb368)); have n9_ := Aside0.mk ((by rw [hg]; exact Nat.ne_of_gt (blk_lt (bp BK366.out)) : gb368 ≠ gb366)); clear BK364; clear BK366; clear HB; have BK364 := n0_; have BK366 := n1_; have HB := n2_; have BK368 := n3_; have GW368 := n4_; have GE368 := n5_; have NB364_368 := n6_; have NB368_364 := n7_; have NB366_368 := n8_; have NB368_366 := n9_; clear n0_ n1_ n2_ n3_ n4_ n5_ n6_ n7_ n8_ n9_; clear hb hbox hg; have hnb61 := NB368_364.out; have hnc61 := NB364_368.out; have hnb62 := NB368_366.out; have hnc62 := NB366_368.out; have hcz63_0 : w60.cell? ⟨gb368, 0, none⟩ = some (.int .i64 0) := (blk_cell BK368.out 0).trans rfl; have hcz63_1 : w60.cell? ⟨gb368, 1, none⟩ = some (.int .i64 0) := (blk_cell BK368.out 1).trans rfl; have hfz63_0 := blk_frozen BK368.out 0; have hfz63_1 := blk_frozen BK368.out 1; have p369 : 0 ≤ ((ji15) : Int) := oa; have q369 : (ji15) < (l0.length : Int) := oa; obtain ⟨ad369, e369, hx369_0, hx369_1⟩ := at_T33 HR0.out (ji15) p369 q369; obtain rfl : ad363 = ad369 := (by injection e369); have hn369_0 : ad363.block ≠ gb368 := Nat.ne_of_lt (cl hx369_0 GW368.out); have hn369_1 : ad363.block ≠ gb368 := Nat.ne_of_lt (cl hx369_0 GW368.out); replace hx369_0 := (HB.out.cell (World.block_lt_of_cell? w _ hx369_0)).trans hx369_0; replace hx369_1 := (HB.out.cell (World.block_lt_of_cell? w _ hx369_1)).trans hx369_1; replace hx369_0 := (cell_far (p := ⟨gb368, 0, none⟩) (nb hn369_0) (.int .i64 ((rd_T33 l0 x5_2).f0))).trans hx369_0; replace hx369_1 := (cell_far (p := ⟨gb368, 0, none⟩) (nb hn369_0) (.int .i64 ((rd_T33 l0 x5_2).f0))).trans hx369_1; replace hx369_0 := (cell_far (p := ⟨gb368, 1, none⟩) (nb hn369_1) (.int .i64 ((rd_T33 l0 x5_2).f1))).trans hx369_0; replace hx369_1 := (cell_far (p := ⟨gb368, 1, none⟩) (nb hn369_1) (.int .i64 ((rd_T33 l0 x5_2).f1))).trans hx369_1; clear hn369_0; clear hn369_1; replace p369 := eq_true p369; replace q369 := eq_true q369) | ((with_reducible refine gate_dst (N := 9) rfl ?_); refine bx_ 9 (cs := #[.int .i64 0, .int .i64 0]) (t := 33) ?_; intro gb370 hg w64 hbox hb; have n0_ := Aside0.mk (blk_below (bf BK364.out) hb); have n1_ := Aside0.mk (blk_below (bf BK366.out) hb); have n2_ := Aside0.mk (blk_below (bp BK368.out) hb); have n3_ := Aside0.mk (below_step (lb HB.out) hb); have n4_ := Aside0.mk (hbox); have n5_ := Aside0.mk ((by rw [hg]; exact (below_size (lb HB.out)) : w.heap.size ≤ gb370)); have n6_ := Aside0.mk ((by rw [hg]; exact (below_size (lb HB.out)) : w.heap.size ≤ gb370)); have n7_ := Aside0.mk ((by rw [hg]; exact Nat.ne_of_lt (blk_lt (bf BK364.out)) : gb364 ≠ gb370)); have n8_ := Aside0.mk ((by rw [hg]; exact Nat.ne_of_gt (blk_lt (bf BK364.out)) : gb370 ≠ gb364)); have n9_ := Aside0.mk ((by rw [hg]; exact Nat.ne_of_lt (blk_lt (bf BK366.out)) : gb366 ≠ gb370)); have n10_ := Aside0.mk ((by rw [hg]; exact Nat.ne_of_gt (blk_lt (bf BK366.out)) : gb370 ≠ gb366)); have n11_ := Aside0.mk ((by rw [hg]; exact Nat.ne_of_lt (blk_lt (bp BK368.out)) : gb368 ≠ gb370)); have n12_ := Aside0.mk ((by rw [hg]; exact Nat.ne_of_gt (blk_lt (bp BK368.out)) : gb370 ≠ gb368)); clear BK364; clear BK366; clear BK368; clear HB; have BK364 := n0_; have BK366 := n1_; have BK368 := n2_; have HB := n3_; have BK370 := n4_; have GW370 := n5_; have GE370 := n6_; have NB364_370 := n7_; have NB370_364 := n8_; have NB366_370 := n9_; have NB370_366 := n10_; have NB368_370 := n11_; have NB370_368 := n12_; clear n0_ n1_ n2_ n3_ n4_ n5_ n6_ n7_ n8_ n9_ n10_ n11_ n12_; clear hb hbox hg; have hnb65 := NB370_364.out; have hnc65 := NB364_370.out; have hnb66 := NB370_366.out; have hnc66 := NB366_370.out; have hnb67 := NB370_368.out; have hnc67 := NB368_370.out; have hcz68_0 : w64.cell? ⟨gb370, 0, none⟩ = some (.int .i64 0) := (blk_cell BK370.out 0).trans rfl; have hcz68_1 : w64.cell? ⟨gb370, 1, none⟩ = some (.int .i64 0) := (blk_cell BK370.out 1).trans rfl; have hfz68_0 := blk_frozen BK370.out 0; have hfz68_1 := blk_frozen BK370.out 1; have hcz69_0 : w64.cell? ⟨gb368, 0, none⟩ = some (.int .i64 ((rd_T33 l0 x5_2).f0)) := (blk_cell BK368.out 0).trans rfl; have hcz69_1 : w64.cell? ⟨gb368, 1, none⟩ = some (.int .i64 ((rd_T33 l0 x5_2).f1)) := (blk_cell BK368.out 1).trans rfl; have hfz69_0 := blk_frozen BK368.out 0; have hfz69_1 := blk_frozen BK368.out 1; have hcz70_0 : w64.cell? ⟨gb364, 0, none⟩ = some (.int .i64 ((rd_T33 l0 x4_1).f0)) := (blk_cell BK364.out 0).trans rfl; have hcz70_1 : w64.cell? ⟨gb364, 1, none⟩ = some (.int .i64 ((rd_T33 l0 x4_1).f1)) := (blk_cell BK364.out 1).trans rfl; have hfz70_0 := blk_frozen BK364.out 0; have hfz70_1 := blk_frozen BK364.out 1; have hcz71_0 : w64.cell? ⟨gb366, 0, none⟩ = some (.int .i64 ((rd_T33 l0 (ji10)).f0)) := (blk_cell BK366.out 0).trans rfl; have hcz71_1 : w64.cell? ⟨gb366, 1, none⟩ = some (.int .i64 ((rd_T33 l0 (ji10)).f1)) := (blk_cell BK366.out 1).trans rfl; have hfz71_0 := blk_frozen BK366.out 0; have hfz71_1 := blk_frozen BK366.out 1) | (go_at_call 87; (with_reducible refine (spec_l2On.calls ((rd_T33 l0 x4_1).f0) ((rd_T33 l0 x4_1).f1) ((rd_T33 l0 (ji10)).f0) ((rd_T33 l0 (ji10)).f1) ((rd_T33 l0 (ji15)).f0) ((rd_T33 l0 (ji15)).f1) true _ A53.out).mono ?_); rintro e w72 ⟨rfl, hb⟩; have n0_ := Aside0.mk (blk_below (bf BK364.out) hb); have n1_ := Aside0.mk (blk_below (bf BK366.out) hb); have n2_ := Aside0.mk (blk_below (bf BK368.out) hb); have n3_ := Aside0.mk (blk_below (bp BK370.out) hb); have n4_ := Aside0.mk (below_step (lb HB.out) hb); clear BK364; clear BK366; clear BK368; clear BK370; clear HB; have BK364 := n0_; have BK366 := n1_; have BK368 := n2_; have BK370 := n3_; have HB := n4_; clear n0_ n1_ n2_ n3_ n4_; (try clear hb); (try clear hb2); (try clear hk); (try clear hi)))
                     go_ret
                     exact ⟨by first | rfl | (simp [errW_none, errW_some] <;> rfl) | (simp only [← hji10, ← hji15]; first | rfl | (simp [errW_none, errW_some] <;> rfl)) | (simp [*, errW_none, errW_some] <;> rfl), lb HB.out⟩
                    ·replace c54 := Bool.eq_false_iff.mpr c54
                     subst c54
                     have H1 : ((spec_l2On.f ((rd_T33 l0 x5_2).f0) ((rd_T33 l0 x5_2).f1) ((rd_T33 l0 (ji15)).f0) ((rd_T33 l0 (ji15)).f1) ((rd_T33 l0 x4_1).f0) ((rd_T33 l0 x4_1).f1)).bind fun t372 => (if t372 = true then (some false) else (spec_PolyValid.l1 k2 l0 (l0.length : Int) x4_1 (wrap64 (x5_2 + 1))))) = some r := by rw [if_neg (show ¬ (false = true) by decide)] at H; exact H
                     clear H
                     have H := H1
                     clear H1
                     replace H := Option.bind_eq_some_iff.mp H
                     obtain ⟨t372, A730, H⟩ := H
                     replace H : (if t372 = true then (some false) else (spec_PolyValid.l1 k2 l0 (l0.length : Int) x4_1 (wrap64 (x5_2 + 1)))) = some r := H
                     have A73 := Aside0.mk A730
                     clear A730
                     by_cases c74 : t372 = true
                     ·subst c74
                      have H1 : (some false) = some r := by rw [if_pos rfl] at H; exact H
                      clear H
                      have H := H1
                      clear H1
                      obtain rfl := Option.some.inj H
                      have p363 : 0 ≤ (x4_1 : Int) := oa
                      have q363 : x4_1 < (l0.length : Int) := oa
                      obtain ⟨ad363, e363, hx363_0, hx363_1⟩ := at_T33 HR0.out x4_1 p363 q363
                      cases e363
                      replace hx363_0 := (HB.out.cell (World.block_lt_of_cell? w _ hx363_0)).trans hx363_0
                      replace hx363_1 := (HB.out.cell (World.block_lt_of_cell? w _ hx363_1)).trans hx363_1
                      replace p363 := eq_true p363
                      replace q363 := eq_true q363
                      go_wp2_with (first | ((with_reducible refine gate_dst (N := 6) rfl ?_); refine bx_ 6 (cs := #[.int .i64 0, .int .i64 0]) (t := 33) ?_; intro gb364 hg w75 hbox hb; have n0_ := Aside0.mk (below_step (lb HB.out) hb); have n1_ := Aside0.mk (hbox); have n2_ := Aside0.mk ((by rw [hg]; exact (below_size (lb HB.out)) : w.heap.size ≤ gb364)); have n3_ := Aside0.mk ((by rw [hg]; exact (below_size (lb HB.out)) : w.heap.size ≤ gb364)); clear HB; have HB := n0_; have BK364 := n1_; have GW364 := n2_; have GE364 := n3_; clear n0_ n1_ n2_ n3_; clear hb hbox hg; have hcz76_0 : w75.cell? ⟨gb364, 0, none⟩ = some (.int .i64 0) := (blk_cell BK364.out 0).trans rfl; have hcz76_1 : w75.cell? ⟨gb364, 1, none⟩ = some (.int .i64 0) := (blk_cell BK364.out 1).trans rfl; have hfz76_0 := blk_frozen BK364.out 0; have hfz76_1 := blk_frozen BK364.out 1; have p365 : 0 ≤ ((ji10) : Int) := oa; have q365 : (ji10) < (l0.length : Int) := oa; obtain ⟨ad365, e365, hx365_0, hx365_1⟩ := at_T33 HR0.out (ji10) p365 q365; obtain rfl : ad363 = ad365 := (by injection e365); have hn365_0 : ad363.block ≠ gb364 := Nat.ne_of_lt (cl hx365_0 GW364.out); have hn365_1 : ad363.block ≠ gb364 := Nat.ne_of_lt (cl hx365_0 GW364.out); replace hx365_0 := (HB.out.cell (World.block_lt_of_cell? w _ hx365_0)).trans hx365_0; replace hx365_1 := (HB.out.cell (World.block_lt_of_cell? w _ hx365_1)).trans hx365_1; replace hx365_0 := (cell_far (p := ⟨gb364, 0, none⟩) (nb hn365_0) (.int .i64 ((rd_T33 l0 x4_1).f0))).trans hx365_0; replace hx365_1 := (cell_far (p := ⟨gb364, 0, none⟩) (nb hn365_0) (.int .i64 ((rd_T33 l0 x4_1).f0))).trans hx365_1; replace hx365_0 := (cell_far (p := ⟨gb364, 1, none⟩) (nb hn365_1) (.int .i64 ((rd_T33 l0 x4_1).f1))).trans hx365_0; replace hx365_1 := (cell_far (p := ⟨gb364, 1, none⟩) (nb hn365_1) (.int .i64 ((rd_T33 l0 x4_1).f1))).trans hx365_1; clear hn365_0; clear hn365_1; replace p365 := eq_true p365; replace q365 := eq_true q365) | ((with_reducible refine gate_dst (N := 7) rfl ?_); refine bx_ 7 (cs := #[.int .i64 0, .int .i64 0]) (t := 33) ?_; intro gb366 hg w77 hbox hb; have n0_ := Aside0.mk (blk_below (bp BK364.out) hb); have n1_ := Aside0.mk (below_step (lb HB.out) hb); have n2_ := Aside0.mk (hbox); have n3_ := Aside0.mk ((by rw [hg]; exact (below_size (lb HB.out)) : w.heap.size ≤ gb366)); have n4_ := Aside0.mk ((by rw [hg]; exact (below_size (lb HB.out)) : w.heap.size ≤ gb366)); have n5_ := Aside0.mk ((by rw [hg]; exact Nat.ne_of_lt (blk_lt (bp BK364.out)) : gb364 ≠ gb366)); have n6_ := Aside0.mk ((by rw [hg]; exact Nat.ne_of_gt (blk_lt (bp BK364.out)) : gb366 ≠ gb364)); clear BK364; clear HB; have BK364 := n0_; have HB := n1_; have BK366 := n2_; have GW366 := n3_; have GE366 := n4_; have NB364_366 := n5_; have NB366_364 := n6_; clear n0_ n1_ n2_ n3_ n4_ n5_ n6_; clear hb hbox hg; have hnb78 := NB366_364.out; have hnc78 := NB364_366.out; have hcz79_0 : w77.cell? ⟨gb366, 0, none⟩ = some (.int .i64 0) := (blk_cell BK366.out 0).trans rfl; have hcz79_1 : w77.cell? ⟨gb366, 1, none⟩ = some (.int .i64 0) := (blk_cell BK366.out 1).trans rfl; have hfz79_0 := blk_frozen BK366.out 0; have hfz79_1 := blk_frozen BK366.out 1; have p367 : 0 ≤ (x5_2 : Int) := oa; have q367 : x5_2 < (l0.length : Int) := oa; obtain ⟨ad367, e367, hx367_0, hx367_1⟩ := at_T33 HR0.out x5_2 p367 q367; obtain rfl : ad363 = ad367 := (by injection e367); have hn367_0 : ad363.block ≠ gb366 := Nat.ne_of_lt (cl hx367_0 GW366.out); have hn367_1 : ad363.block ≠ gb366 := Nat.ne_of_lt (cl hx367_0 GW366.out); replace hx367_0 := (HB.out.cell (World.block_lt_of_cell? w _ hx367_0)).trans hx367_0; replace hx367_1 := (HB.out.cell (World.block_lt_of_cell? w _ hx367_1)).trans hx367_1; replace hx367_0 := (cell_far (p := ⟨gb366, 0, none⟩) (nb hn367_0) (.int .i64 ((rd_T33 l0 (ji10)).f0))).trans hx367_0; replace hx367_1 := (cell_far (p := ⟨gb366, 0, none⟩) (nb hn367_0) (.int .i64 ((rd_T33 l0 (ji10)).f0))).trans hx367_1; replace hx367_0 := (cell_far (p := ⟨gb366, 1, none⟩) (nb hn367_1) (.int .i64 ((rd_T33 l0 (ji10)).f1))).trans hx367_0; replace hx367_1 := (cell_far (p := ⟨gb366, 1, none⟩) (nb hn367_1) (.int .i64 ((rd_T33 l0 (ji10)).f1))).trans hx367_1; clear hn367_0; clear hn367_1; replace p367 := eq_true p367; replace q367 := eq_true q367) | ((with_reducible refine gate_dst (N := 8) rfl ?_); refine bx_ 8 (cs := #[.int .i64 0, .int .i64 0]) (t := 33) ?_; intro gb368 hg w80 hbox hb; have n0_ := Aside0.mk (blk_below (bf BK364.out) hb); have n1_ := Aside0.mk (blk_below (bp BK366.out) hb); have n2_ := Aside0.mk (below_step (lb HB.out) hb); have n3_ := Aside0.mk (hbox); have n4_ := Aside0.mk ((by rw [hg]; exact (below_size (lb HB.out)) : w.heap.size ≤ gb368)); have n5_ := Aside0.mk ((by rw [hg]; exact (below_size (lb HB.out)) : w.heap.size ≤ gb368)); have n6_ := Aside0.mk ((by rw [hg]; exact Nat.ne_of_lt (blk_lt (bf BK364.out)) : gb364 ≠ gb368)); have n7_ := Aside0.mk ((by rw [hg]; exact Nat.ne_of_gt (blk_lt (bf BK364.out)) : gb368 ≠ gb364)); have n8_ := Aside0.mk ((by rw [hg]; exact Nat.ne_of_lt (blk_lt (bp BK366.out)) : gb366 ≠ gb368)); have n9_ := Aside0.mk ((by rw [hg]; exact Nat.ne_of_gt (blk_lt (bp BK366.out)) : gb368 ≠ gb366)); clear BK364; clear BK366; clear HB; have BK364 := n0_; have BK366 := n1_; have HB := n2_; have BK368 := n3_; have GW368 := n4_; have GE368 := n5_; have NB364_368 := n6_; have NB368_364 := n7_; have NB366_368 := n8_; have NB368_366 := n9_; clear n0_ n1_ n2_ n3_ n4_ n5_ n6_ n7_ n8_ n9_; clear hb hbox hg; have hnb81 := NB368_364.out; have hnc81 := NB364_368.out; have hnb82 := NB368_366.out; have hnc82 := NB366_368.out; have hcz83_0 : w80.cell? ⟨gb368, 0, none⟩ = some (.int .i64 0) := (blk_cell BK368.out 0).trans rfl; have hcz83_1 : w80.cell? ⟨gb368, 1, none⟩ = some (.int .i64 0) := (blk_cell BK368.out 1).trans rfl; have hfz83_0 := blk_frozen BK368.out 0; have hfz83_1 := blk_frozen BK368.out 1; have p369 : 0 ≤ ((ji15) : Int) := oa; have q369 : (ji15) < (l0.length : Int) := oa; obtain ⟨ad369, e369, hx369_0, hx369_1⟩ := at_T33 HR0.out (ji15) p369 q369; obtain rfl : ad363 = ad369 := (by injection e369); have hn369_0 : ad363.block ≠ gb368 := Nat.ne_of_lt (cl hx369_0 GW368.out); have hn369_1 : ad363.block ≠ gb368 := Nat.ne_of_lt (cl hx369_0 GW368.out); replace hx369_0 := (HB.out.cell (World.block_lt_of_cell? w _ hx369_0)).trans hx369_0; replace hx369_1 := (HB.out.cell (World.block_lt_of_cell? w _ hx369_1)).trans hx369_1; replace hx369_0 := (cell_far (p := ⟨gb368, 0, none⟩) (nb hn369_0) (.int .i64 ((rd_T33 l0 x5_2).f0))).trans hx369_0; replace hx369_1 := (cell_far (p := ⟨gb368, 0, none⟩) (nb hn369_0) (.int .i64 ((rd_T33 l0 x5_2).f0))).trans hx369_1; replace hx369_0 := (cell_far (p := ⟨gb368, 1, none⟩) (nb hn369_1) (.int .i64 ((rd_T33 l0 x5_2).f1))).trans hx369_0; replace hx369_1 := (cell_far (p := ⟨gb368, 1, none⟩) (nb hn369_1) (.int .i64 ((rd_T33 l0 x5_2).f1))).trans hx369_1; clear hn369_0; clear hn369_1; replace p369 := eq_true p369; replace q369 := eq_true q369) | ((with_reducible refine gate_dst (N := 9) rfl ?_); refine bx_ 9 (cs := #[.int .i64 0, .int .i64 0]) (t := 33) ?_; intro gb370 hg w84 hbox hb; have n0_ := Aside0.mk (blk_below (bf BK364.out) hb); have n1_ := Aside0.mk (blk_below (bf BK366.out) hb); have n2_ := Aside0.mk (blk_below (bp BK368.out) hb); have n3_ := Aside0.mk (below_step (lb HB.out) hb); have n4_ := Aside0.mk (hbox); have n5_ := Aside0.mk ((by rw [hg]; exact (below_size (lb HB.out)) : w.heap.size ≤ gb370)); have n6_ := Aside0.mk ((by rw [hg]; exact (below_size (lb HB.out)) : w.heap.size ≤ gb370)); have n7_ := Aside0.mk ((by rw [hg]; exact Nat.ne_of_lt (blk_lt (bf BK364.out)) : gb364 ≠ gb370)); have n8_ := Aside0.mk ((by rw [hg]; exact Nat.ne_of_gt (blk_lt (bf BK364.out)) : gb370 ≠ gb364)); have n9_ := Aside0.mk ((by rw [hg]; exact Nat.ne_of_lt (blk_lt (bf BK366.out)) : gb366 ≠ gb370)); have n10_ := Aside0.mk ((by rw [hg]; exact Nat.ne_of_gt (blk_lt (bf BK366.out)) : gb370 ≠ gb366)); have n11_ := Aside0.mk ((by rw [hg]; exact Nat.ne_of_lt (blk_lt (bp BK368.out)) : gb368 ≠ gb370)); have n12_ := Aside0.mk ((by rw [hg]; exact Nat.ne_of_gt (blk_lt (bp BK368.out)) : gb370 ≠ gb368)); clear BK364; clear BK366; clear BK368; clear HB; have BK364 := n0_; have BK366 := n1_; have BK368 := n2_; have HB := n3_; have BK370 := n4_; have GW370 := n5_; have GE370 := n6_; have NB364_370 := n7_; have NB370_364 := n8_; have NB366_370 := n9_; have NB370_366 := n10_; have NB368_370 := n11_; have NB370_368 := n12_; clear n0_ n1_ n2_ n3_ n4_ n5_ n6_ n7_ n8_ n9_ n10_ n11_ n12_; clear hb hbox hg; have hnb85 := NB370_364.out; have hnc85 := NB364_370.out; have hnb86 := NB370_366.out; have hnc86 := NB366_370.out; have hnb87 := NB370_368.out; have hnc87 := NB368_370.out; have hcz88_0 : w84.cell? ⟨gb370, 0, none⟩ = some (.int .i64 0) := (blk_cell BK370.out 0).trans rfl; have hcz88_1 : w84.cell? ⟨gb370, 1, none⟩ = some (.int .i64 0) := (blk_cell BK370.out 1).trans rfl; have hfz88_0 := blk_frozen BK370.out 0; have hfz88_1 := blk_frozen BK370.out 1; have hcz89_0 : w84.cell? ⟨gb368, 0, none⟩ = some (.int .i64 ((rd_T33 l0 x5_2).f0)) := (blk_cell BK368.out 0).trans rfl; have hcz89_1 : w84.cell? ⟨gb368, 1, none⟩ = some (.int .i64 ((rd_T33 l0 x5_2).f1)) := (blk_cell BK368.out 1).trans rfl; have hfz89_0 := blk_frozen BK368.out 0; have hfz89_1 := blk_frozen BK368.out 1; have hcz90_0 : w84.cell? ⟨gb364, 0, none⟩ = some (.int .i64 ((rd_T33 l0 x4_1).f0)) := (blk_cell BK364.out 0).trans rfl; have hcz90_1 : w84.cell? ⟨gb364, 1, none⟩ = some (.int .i64 ((rd_T33 l0 x4_1).f1)) := (blk_cell BK364.out 1).trans rfl; have hfz90_0 := blk_frozen BK364.out 0; have hfz90_1 := blk_frozen BK364.out 1; have hcz91_0 : w84.cell? ⟨gb366, 0, none⟩ = some (.int .i64 ((rd_T33 l0 (ji10)).f0)) := (blk_cell BK366.out 0).trans rfl; have hcz91_1 : w84.cell? ⟨gb366, 1, none⟩ = some (.int .i64 ((rd_T33 l0 (ji10)).f1)) := (blk_cell BK366.out 1).trans rfl; have hfz91_0 := blk_frozen BK366.out 0; have hfz91_1 := blk_frozen BK366.out 1) | (go_at_call 87; (with_reducible refine (spec_l2On.calls ((rd_T33 l0 x4_1).f0) ((rd_T33 l0 x4_1).f1) ((rd_T33 l0 (ji10)).f0) ((rd_T33 l0 (ji10)).f1) ((rd_T33 l0 (ji15)).f0) ((rd_T33 l0 (ji15)).f1) false _ A53.out).mono ?_); rintro e w92 ⟨rfl, hb⟩; have n0_ := Aside0.mk (blk_below (bf BK364.out) hb); have n1_ := Aside0.mk (blk_below (bf BK366.out) hb); have n2_ := Aside0.mk (blk_below (bf BK368.out) hb); have n3_ := Aside0.mk (blk_below (bp BK370.out) hb); have n4_ := Aside0.mk (below_step (lb HB.out) hb); clear BK364; clear BK366; clear BK368; clear BK370; clear HB; have BK364 := n0_; have BK366 := n1_; have BK368 := n2_; have BK370 := n3_; have HB := n4_; clear n0_ n1_ n2_ n3_ n4_; (try clear hb); (try clear hb2); (try clear hk); (try clear hi); have hcz93_0 : w92.cell? ⟨gb368, 0, none⟩ = some (.int .i64 ((rd_T33 l0 x5_2).f0)) := (blk_cell BK368.out 0).trans rfl; have hcz93_1 : w92.cell? ⟨gb368, 1, none⟩ = some (.int .i64 ((rd_T33 l0 x5_2).f1)) := (blk_cell BK368.out 1).trans rfl; have hfz93_0 := blk_frozen BK368.out 0; have hfz93_1 := blk_frozen BK368.out 1; have hcz94_0 : w92.cell? ⟨gb370, 0, none⟩ = some (.int .i64 ((rd_T33 l0 (ji15)).f0)) := (blk_cell BK370.out 0).trans rfl; have hcz94_1 : w92.cell? ⟨gb370, 1, none⟩ = some (.int .i64 ((rd_T33 l0 (ji15)).f1)) := (blk_cell BK370.out 1).trans rfl; have hfz94_0 := blk_frozen BK370.out 0; have hfz94_1 := blk_frozen BK370.out 1; have hcz95_0 : w92.cell? ⟨gb364, 0, none⟩ = some (.int .i64 ((rd_T33 l0 x4_1).f0)) := (blk_cell BK364.out 0).trans rfl; have hcz95_1 : w92.cell? ⟨gb364, 1, none⟩ = some (.int .i64 ((rd_T33 l0 x4_1).f1)) := (blk_cell BK364.out 1).trans rfl; have hfz95_0 := blk_frozen BK364.out 0; have hfz95_1 := blk_frozen BK364.out 1) | (go_at_call 87; (with_reducible refine (spec_l2On.calls ((rd_T33 l0 x5_2).f0) ((rd_T33 l0 x5_2).f1) ((rd_T33 l0 (ji15)).f0) ((rd_T33 l0 (ji15)).f1) ((rd_T33 l0 x4_1).f0) ((rd_T33 l0 x4_1).f1) true _ A73.out).mono ?_); rintro e w96 ⟨rfl, hb⟩; have n0_ := Aside0.mk (blk_below (bf BK364.out) hb); have n1_ := Aside0.mk (blk_below (bf BK366.out) hb); have n2_ := Aside0.mk (blk_below (bf BK368.out) hb); have n3_ := Aside0.mk (blk_below (bf BK370.out) hb); have n4_ := Aside0.mk (below_step (lb HB.out) hb); clear BK364; clear BK366; clear BK368; clear BK370; clear HB; have BK364 := n0_; have BK366 := n1_; have BK368 := n2_; have BK370 := n3_; have HB := n4_; clear n0_ n1_ n2_ n3_ n4_; (try clear hb); (try clear hb2); (try clear hk); (try clear hi)))
                      go_ret
                      exact ⟨by first | rfl | (simp [errW_none, errW_some] <;> rfl) | (simp only [← hji10, ← hji15]; first | rfl | (simp [errW_none, errW_some] <;> rfl)) | (simp [*, errW_none, errW_some] <;> rfl), lb HB.out⟩
                     ·replace c74 := Bool.eq_false_iff.mpr c74
                      subst c74
                      have H1 : (spec_PolyValid.l1 k2 l0 (l0.length : Int) x4_1 (wrap64 (x5_2 + 1))) = some r := by rw [if_neg (show ¬ (false = true) by decide)] at H; exact H
                      clear H
                      have H := H1
                      clear H1
                      have H' := Aside0.mk H
                      clear H
                      have p363 : 0 ≤ (x4_1 : Int) := oa
                      have q363 : x4_1 < (l0.length : Int) := oa
                      obtain ⟨ad363, e363, hx363_0, hx363_1⟩ := at_T33 HR0.out x4_1 p363 q363
                      cases e363
                      replace hx363_0 := (HB.out.cell (World.block_lt_of_cell? w _ hx363_0)).trans hx363_0
                      replace hx363_1 := (HB.out.cell (World.block_lt_of_cell? w _ hx363_1)).trans hx363_1
                      replace p363 := eq_true p363
                      replace q363 := eq_true q363
                      go_wp2_with (first | ((with_reducible refine gate_dst (N := 6) rfl ?_); refine bx_ 6 (cs := #[.int .i64 0, .int .i64 0]) (t := 33) ?_; intro gb364 hg w97 hbox hb; have n0_ := Aside0.mk (below_step (lb HB.out) hb); have n1_ := Aside0.mk (hbox); have n2_ := Aside0.mk ((by rw [hg]; exact (below_size (lb HB.out)) : w.heap.size ≤ gb364)); have n3_ := Aside0.mk ((by rw [hg]; exact (below_size (lb HB.out)) : w.heap.size ≤ gb364)); clear HB; have HB := n0_; have BK364 := n1_; have GW364 := n2_; have GE364 := n3_; clear n0_ n1_ n2_ n3_; clear hb hbox hg; have hcz98_0 : w97.cell? ⟨gb364, 0, none⟩ = some (.int .i64 0) := (blk_cell BK364.out 0).trans rfl; have hcz98_1 : w97.cell? ⟨gb364, 1, none⟩ = some (.int .i64 0) := (blk_cell BK364.out 1).trans rfl; have hfz98_0 := blk_frozen BK364.out 0; have hfz98_1 := blk_frozen BK364.out 1; have p365 : 0 ≤ ((ji10) : Int) := oa; have q365 : (ji10) < (l0.length : Int) := oa; obtain ⟨ad365, e365, hx365_0, hx365_1⟩ := at_T33 HR0.out (ji10) p365 q365; obtain rfl : ad363 = ad365 := (by injection e365); have hn365_0 : ad363.block ≠ gb364 := Nat.ne_of_lt (cl hx365_0 GW364.out); have hn365_1 : ad363.block ≠ gb364 := Nat.ne_of_lt (cl hx365_0 GW364.out); replace hx365_0 := (HB.out.cell (World.block_lt_of_cell? w _ hx365_0)).trans hx365_0; replace hx365_1 := (HB.out.cell (World.block_lt_of_cell? w _ hx365_1)).trans hx365_1; replace hx365_0 := (cell_far (p := ⟨gb364, 0, none⟩) (nb hn365_0) (.int .i64 ((rd_T33 l0 x4_1).f0))).trans hx365_0; replace hx365_1 := (cell_far (p := ⟨gb364, 0, none⟩) (nb hn365_0) (.int .i64 ((rd_T33 l0 x4_1).f0))).trans hx365_1; replace hx365_0 := (cell_far (p := ⟨gb364, 1, none⟩) (nb hn365_1) (.int .i64 ((rd_T33 l0 x4_1).f1))).trans hx365_0; replace hx365_1 := (cell_far (p := ⟨gb364, 1, none⟩) (nb hn365_1) (.int .i64 ((rd_T33 l0 x4_1).f1))).trans hx365_1; clear hn365_0; clear hn365_1; replace p365 := eq_true p365; replace q365 := eq_true q365) | ((with_reducible refine gate_dst (N := 7) rfl ?_); refine bx_ 7 (cs := #[.int .i64 0, .int .i64 0]) (t := 33) ?_; intro gb366 hg w99 hbox hb; have n0_ := Aside0.mk (blk_below (bp BK364.out) hb); have n1_ := Aside0.mk (below_step (lb HB.out) hb); have n2_ := Aside0.mk (hbox); have n3_ := Aside0.mk ((by rw [hg]; exact (below_size (lb HB.out)) : w.heap.size ≤ gb366)); have n4_ := Aside0.mk ((by rw [hg]; exact (below_size (lb HB.out)) : w.heap.size ≤ gb366)); have n5_ := Aside0.mk ((by rw [hg]; exact Nat.ne_of_lt (blk_lt (bp BK364.out)) : gb364 ≠ gb366)); have n6_ := Aside0.mk ((by rw [hg]; exact Nat.ne_of_gt (blk_lt (bp BK364.out)) : gb366 ≠ gb364)); clear BK364; clear HB; have BK364 := n0_; have HB := n1_; have BK366 := n2_; have GW366 := n3_; have GE366 := n4_; have NB364_366 := n5_; have NB366_364 := n6_; clear n0_ n1_ n2_ n3_ n4_ n5_ n6_; clear hb hbox hg; have hnb100 := NB366_364.out; have hnc100 := NB364_366.out; have hcz101_0 : w99.cell? ⟨gb366, 0, none⟩ = some (.int .i64 0) := (blk_cell BK366.out 0).trans rfl; have hcz101_1 : w99.cell? ⟨gb366, 1, none⟩ = some (.int .i64 0) := (blk_cell BK366.out 1).trans rfl; have hfz101_0 := blk_frozen BK366.out 0; have hfz101_1 := blk_frozen BK366.out 1; have p367 : 0 ≤ (x5_2 : Int) := oa; have q367 : x5_2 < (l0.length : Int) := oa; obtain ⟨ad367, e367, hx367_0, hx367_1⟩ := at_T33 HR0.out x5_2 p367 q367; obtain rfl : ad363 = ad367 := (by injection e367); have hn367_0 : ad363.block ≠ gb366 := Nat.ne_of_lt (cl hx367_0 GW366.out); have hn367_1 : ad363.block ≠ gb366 := Nat.ne_of_lt (cl hx367_0 GW366.out); replace hx367_0 := (HB.out.cell (World.block_lt_of_cell? w _ hx367_0)).trans hx367_0; replace hx367_1 := (HB.out.cell (World.block_lt_of_cell? w _ hx367_1)).trans hx367_1; replace hx367_0 := (cell_far (p := ⟨gb366, 0, none⟩) (nb hn367_0) (.int .i64 ((rd_T33 l0 (ji10)).f0))).trans hx367_0; replace hx367_1 := (cell_far (p := ⟨gb366, 0, none⟩) (nb hn367_0) (.int .i64 ((rd_T33 l0 (ji10)).f0))).trans hx367_1; replace hx367_0 := (cell_far (p := ⟨gb366, 1, none⟩) (nb hn367_1) (.int .i64 ((rd_T33 l0 (ji10)).f1))).trans hx367_0; replace hx367_1 := (cell_far (p := ⟨gb366, 1, none⟩) (nb hn367_1) (.int .i64 ((rd_T33 l0 (ji10)).f1))).trans hx367_1; clear hn367_0; clear hn367_1; replace p367 := eq_true p367; replace q367 := eq_true q367) | ((with_reducible refine gate_dst (N := 8) rfl ?_); refine bx_ 8 (cs := #[.int .i64 0, .int .i64 0]) (t := 33) ?_; intro gb368 hg w102 hbox hb; have n0_ := Aside0.mk (blk_below (bf BK364.out) hb); have n1_ := Aside0.mk (blk_below (bp BK366.out) hb); have n2_ := Aside0.mk (below_step (lb HB.out) hb); have n3_ := Aside0.mk (hbox); have n4_ := Aside0.mk ((by rw [hg]; exact (below_size (lb HB.out)) : w.heap.size ≤ gb368)); have n5_ := Aside0.mk ((by rw [hg]; exact (below_size (lb HB.out)) : w.heap.size ≤ gb368)); have n6_ := Aside0.mk ((by rw [hg]; exact Nat.ne_of_lt (blk_lt (bf BK364.out)) : gb364 ≠ gb368)); have n7_ := Aside0.mk ((by rw [hg]; exact Nat.ne_of_gt (blk_lt (bf BK364.out)) : gb368 ≠ gb364)); have n8_ := Aside0.mk ((by rw [hg]; exact Nat.ne_of_lt (blk_lt (bp BK366.out)) : gb366 ≠ gb368)); have n9_ := Aside0.mk ((by rw [hg]; exact Nat.ne_of_gt (blk_lt (bp BK366.out)) : gb368 ≠ gb366)); clear BK364; clear BK366; clear HB; have BK364 := n0_; have BK366 := n1_; have HB := n2_; have BK368 := n3_; have GW368 := n4_; have GE368 := n5_; have NB364_368 := n6_; have NB368_364 := n7_; have NB366_368 := n8_; have NB368_366 := n9_; clear n0_ n1_ n2_ n3_ n4_ n5_ n6_ n7_ n8_ n9_; clear hb hbox hg; have hnb103 := NB368_364.out; have hnc103 := NB364_368.out; have hnb104 := NB368_366.out; have hnc104 := NB366_368.out; have hcz105_0 : w102.cell? ⟨gb368, 0, none⟩ = some (.int .i64 0) := (blk_cell BK368.out 0).trans rfl; have hcz105_1 : w102.cell? ⟨gb368, 1, none⟩ = some (.int .i64 0) := (blk_cell BK368.out 1).trans rfl; have hfz105_0 := blk_frozen BK368.out 0; have hfz105_1 := blk_frozen BK368.out 1; have p369 : 0 ≤ ((ji15) : Int) := oa; have q369 : (ji15) < (l0.length : Int) := oa; obtain ⟨ad369, e369, hx369_0, hx369_1⟩ := at_T33 HR0.out (ji15) p369 q369; obtain rfl : ad363 = ad369 := (by injection e369); have hn369_0 : ad363.block ≠ gb368 := Nat.ne_of_lt (cl hx369_0 GW368.out); have hn369_1 : ad363.block ≠ gb368 := Nat.ne_of_lt (cl hx369_0 GW368.out); replace hx369_0 := (HB.out.cell (World.block_lt_of_cell? w _ hx369_0)).trans hx369_0; replace hx369_1 := (HB.out.cell (World.block_lt_of_cell? w _ hx369_1)).trans hx369_1; replace hx369_0 := (cell_far (p := ⟨gb368, 0, none⟩) (nb hn369_0) (.int .i64 ((rd_T33 l0 x5_2).f0))).trans hx369_0; replace hx369_1 := (cell_far (p := ⟨gb368, 0, none⟩) (nb hn369_0) (.int .i64 ((rd_T33 l0 x5_2).f0))).trans hx369_1; replace hx369_0 := (cell_far (p := ⟨gb368, 1, none⟩) (nb hn369_1) (.int .i64 ((rd_T33 l0 x5_2).f1))).trans hx369_0; replace hx369_1 := (cell_far (p := ⟨gb368, 1, none⟩) (nb hn369_1) (.int .i64 ((rd_T33 l0 x5_2).f1))).trans hx369_1; clear hn369_0; clear hn369_1; replace p369 := eq_true p369; replace q369 := eq_true q369) | ((with_reducible refine gate_dst (N := 9) rfl ?_); refine bx_ 9 (cs := #[.int .i64 0, .int .i64 0]) (t := 33) ?_; intro gb370 hg w106 hbox hb; have n0_ := Aside0.mk (blk_below (bf BK364.out) hb); have n1_ := Aside0.mk (blk_below (bf BK366.out) hb); have n2_ := Aside0.mk (blk_below (bp BK368.out) hb); have n3_ := Aside0.mk (below_step (lb HB.out) hb); have n4_ := Aside0.mk (hbox); have n5_ := Aside0.mk ((by rw [hg]; exact (below_size (lb HB.out)) : w.heap.size ≤ gb370)); have n6_ := Aside0.mk ((by rw [hg]; exact (below_size (lb HB.out)) : w.heap.size ≤ gb370)); have n7_ := Aside0.mk ((by rw [hg]; exact Nat.ne_of_lt (blk_lt (bf BK364.out)) : gb364 ≠ gb370)); have n8_ := Aside0.mk ((by rw [hg]; exact Nat.ne_of_gt (blk_lt (bf BK364.out)) : gb370 ≠ gb364)); have n9_ := Aside0.mk ((by rw [hg]; exact Nat.ne_of_lt (blk_lt (bf BK366.out)) : gb366 ≠ gb370)); have n10_ := Aside0.mk ((by rw [hg]; exact Nat.ne_of_gt (blk_lt (bf BK366.out)) : gb370 ≠ gb366)); have n11_ := Aside0.mk ((by rw [hg]; exact Nat.ne_of_lt (blk_lt (bp BK368.out)) : gb368 ≠ gb370)); have n12_ := Aside0.mk ((by rw [hg]; exact Nat.ne_of_gt (blk_lt (bp BK368.out)) : gb370 ≠ gb368)); clear BK364; clear BK366; clear BK368; clear HB; have BK364 := n0_; have BK366 := n1_; have BK368 := n2_; have HB := n3_; have BK370 := n4_; have GW370 := n5_; have GE370 := n6_; have NB364_370 := n7_; have NB370_364 := n8_; have NB366_370 := n9_; have NB370_366 := n10_; have NB368_370 := n11_; have NB370_368 := n12_; clear n0_ n1_ n2_ n3_ n4_ n5_ n6_ n7_ n8_ n9_ n10_ n11_ n12_; clear hb hbox hg; have hnb107 := NB370_364.out; have hnc107 := NB364_370.out; have hnb108 := NB370_366.out; have hnc108 := NB366_370.out; have hnb109 := NB370_368.out; have hnc109 := NB368_370.out; have hcz110_0 : w106.cell? ⟨gb370, 0, none⟩ = some (.int .i64 0) := (blk_cell BK370.out 0).trans rfl; have hcz110_1 : w106.cell? ⟨gb370, 1, none⟩ = some (.int .i64 0) := (blk_cell BK370.out 1).trans rfl; have hfz110_0 := blk_frozen BK370.out 0; have hfz110_1 := blk_frozen BK370.out 1; have hcz111_0 : w106.cell? ⟨gb368, 0, none⟩ = some (.int .i64 ((rd_T33 l0 x5_2).f0)) := (blk_cell BK368.out 0).trans rfl; have hcz111_1 : w106.cell? ⟨gb368, 1, none⟩ = some (.int .i64 ((rd_T33 l0 x5_2).f1)) := (blk_cell BK368.out 1).trans rfl; have hfz111_0 := blk_frozen BK368.out 0; have hfz111_1 := blk_frozen BK368.out 1; have hcz112_0 : w106.cell? ⟨gb364, 0, none⟩ = some (.int .i64 ((rd_T33 l0 x4_1).f0)) := (blk_cell BK364.out 0).trans rfl; have hcz112_1 : w106.cell? ⟨gb364, 1, none⟩ = some (.int .i64 ((rd_T33 l0 x4_1).f1)) := (blk_cell BK364.out 1).trans rfl; have hfz112_0 := blk_frozen BK364.out 0; have hfz112_1 := blk_frozen BK364.out 1; have hcz113_0 : w106.cell? ⟨gb366, 0, none⟩ = some (.int .i64 ((rd_T33 l0 (ji10)).f0)) := (blk_cell BK366.out 0).trans rfl; have hcz113_1 : w106.cell? ⟨gb366, 1, none⟩ = some (.int .i64 ((rd_T33 l0 (ji10)).f1)) := (blk_cell BK366.out 1).trans rfl; have hfz113_0 := blk_frozen BK366.out 0; have hfz113_1 := blk_frozen BK366.out 1) | (go_at_call 87; (with_reducible refine (spec_l2On.calls ((rd_T33 l0 x4_1).f0) ((rd_T33 l0 x4_1).f1) ((rd_T33 l0 (ji10)).f0) ((rd_T33 l0 (ji10)).f1) ((rd_T33 l0 (ji15)).f0) ((rd_T33 l0 (ji15)).f1) false _ A53.out).mono ?_); rintro e w114 ⟨rfl, hb⟩; have n0_ := Aside0.mk (blk_below (bf BK364.out) hb); have n1_ := Aside0.mk (blk_below (bf BK366.out) hb); have n2_ := Aside0.mk (blk_below (bf BK368.out) hb); have n3_ := Aside0.mk (blk_below (bp BK370.out) hb); have n4_ := Aside0.mk (below_step (lb HB.out) hb); clear BK364; clear BK366; clear BK368; clear BK370; clear HB; have BK364 := n0_; have BK366 := n1_; have BK368 := n2_; have BK370 := n3_; have HB := n4_; clear n0_ n1_ n2_ n3_ n4_; (try clear hb); (try clear hb2); (try clear hk); (try clear hi); have hcz115_0 : w114.cell? ⟨gb368, 0, none⟩ = some (.int .i64 ((rd_T33 l0 x5_2).f0)) := (blk_cell BK368.out 0).trans rfl; have hcz115_1 : w114.cell? ⟨gb368, 1, none⟩ = some (.int .i64 ((rd_T33 l0 x5_2).f1)) := (blk_cell BK368.out 1).trans rfl; have hfz115_0 := blk_frozen BK368.out 0; have hfz115_1 := blk_frozen BK368.out 1; have hcz116_0 : w114.cell? ⟨gb370, 0, none⟩ = some (.int .i64 ((rd_T33 l0 (ji15)).f0)) := (blk_cell BK370.out 0).trans rfl; have hcz116_1 : w114.cell? ⟨gb370, 1, none⟩ = some (.int .i64 ((rd_T33 l0 (ji15)).f1)) := (blk_cell BK370.out 1).trans rfl; have hfz116_0 := blk_frozen BK370.out 0; have hfz116_1 := blk_frozen BK370.out 1; have hcz117_0 : w114.cell? ⟨gb364, 0, none⟩ = some (.int .i64 ((rd_T33 l0 x4_1).f0)) := (blk_cell BK364.out 0).trans rfl; have hcz117_1 : w114.cell? ⟨gb364, 1, none⟩ = some (.int .i64 ((rd_T33 l0 x4_1).f1)) := (blk_cell BK364.out 1).trans rfl; have hfz117_0 := blk_frozen BK364.out 0; have hfz117_1 := blk_frozen BK364.out 1) | (go_at_call 87; (with_reducible refine (spec_l2On.calls ((rd_T33 l0 x5_2).f0) ((rd_T33 l0 x5_2).f1) ((rd_T33 l0 (ji15)).f0) ((rd_T33 l0 (ji15)).f1) ((rd_T33 l0 x4_1).f0) ((rd_T33 l0 x4_1).f1) false _ A73.out).mono ?_); rintro e w118 ⟨rfl, hb⟩; have n0_ := Aside0.mk (blk_below (bf BK364.out) hb); have n1_ := Aside0.mk (blk_below (bf BK366.out) hb); have n2_ := Aside0.mk (blk_below (bf BK368.out) hb); have n3_ := Aside0.mk (blk_below (bf BK370.out) hb); have n4_ := Aside0.mk (below_step (lb HB.out) hb); clear BK364; clear BK366; clear BK368; clear BK370; clear HB; have BK364 := n0_; have BK366 := n1_; have BK368 := n2_; have BK370 := n3_; have HB := n4_; clear n0_ n1_ n2_ n3_ n4_; (try clear hb); (try clear hb2); (try clear hk); (try clear hi)))
                      go_roundg k2
                      case measure => have := HK1.out; have := HK2.out; omega
                      case rel => exact ⟨(wrap64 (x5_2 + 1)), (by first | rfl | (simp; done) | (simp [*]; done)), H', ⟨by have := HK1.out; have := HK2.out; omega⟩, ⟨lb HB.out⟩⟩
                 ·rw [if_neg c18] at H
                  have c18b0 : (x5_2 == (wrap64 (x4_1 + 1))) = false := beq_eq_false_iff_ne.mpr c18
                  have c18b1 : (x5_2 != (wrap64 (x4_1 + 1))) = true := bne_iff_ne.mpr c18
                  by_cases c119 : (ji15) = x4_1
                  ·rw [if_pos c119] at H
                   have c119b0 : ((ji15) == x4_1) = true := beq_iff_eq.mpr c119
                   have c119b1 : ((ji15) != x4_1) = false := bne_eq_false_iff_eq.mpr c119
                   clear c119
                   replace H := Option.bind_eq_some_iff.mp H
                   obtain ⟨t373, A1200, H⟩ := H
                   replace H : (if t373 = true then (some false) else ((spec_l2On.f ((rd_T33 l0 x4_1).f0) ((rd_T33 l0 x4_1).f1) ((rd_T33 l0 (ji10)).f0) ((rd_T33 l0 (ji10)).f1) ((rd_T33 l0 x5_2).f0) ((rd_T33 l0 x5_2).f1)).bind fun t374 => (if t374 = true then (some false) else (spec_PolyValid.l1 k2 l0 (l0.length : Int) x4_1 (wrap64 (x5_2 + 1)))))) = some r := H
                   have A120 := Aside0.mk A1200
                   clear A1200
                   by_cases c121 : t373 = true
                   ·subst c121
                    have H1 : (some false) = some r := by rw [if_pos rfl] at H; exact H
                    clear H
                    have H := H1
                    clear H1
                    obtain rfl := Option.some.inj H
                    have p363 : 0 ≤ (x4_1 : Int) := oa
                    have q363 : x4_1 < (l0.length : Int) := oa
                    obtain ⟨ad363, e363, hx363_0, hx363_1⟩ := at_T33 HR0.out x4_1 p363 q363
                    cases e363
                    replace hx363_0 := (HB.out.cell (World.block_lt_of_cell? w _ hx363_0)).trans hx363_0
                    replace hx363_1 := (HB.out.cell (World.block_lt_of_cell? w _ hx363_1)).trans hx363_1
                    replace p363 := eq_true p363
                    replace q363 := eq_true q363
                    go_wp2_with (first | ((with_reducible refine gate_dst (N := 6) rfl ?_); refine bx_ 6 (cs := #[.int .i64 0, .int .i64 0]) (t := 33) ?_; intro gb364 hg w122 hbox hb; have n0_ := Aside0.mk (below_step (lb HB.out) hb); have n1_ := Aside0.mk (hbox); have n2_ := Aside0.mk ((by rw [hg]; exact (below_size (lb HB.out)) : w.heap.size ≤ gb364)); have n3_ := Aside0.mk ((by rw [hg]; exact (below_size (lb HB.out)) : w.heap.size ≤ gb364)); clear HB; have HB := n0_; have BK364 := n1_; have GW364 := n2_; have GE364 := n3_; clear n0_ n1_ n2_ n3_; clear hb hbox hg; have hcz123_0 : w122.cell? ⟨gb364, 0, none⟩ = some (.int .i64 0) := (blk_cell BK364.out 0).trans rfl; have hcz123_1 : w122.cell? ⟨gb364, 1, none⟩ = some (.int .i64 0) := (blk_cell BK364.out 1).trans rfl; have hfz123_0 := blk_frozen BK364.out 0; have hfz123_1 := blk_frozen BK364.out 1; have p365 : 0 ≤ ((ji10) : Int) := oa; have q365 : (ji10) < (l0.length : Int) := oa; obtain ⟨ad365, e365, hx365_0, hx365_1⟩ := at_T33 HR0.out (ji10) p365 q365; obtain rfl : ad363 = ad365 := (by injection e365); have hn365_0 : ad363.block ≠ gb364 := Nat.ne_of_lt (cl hx365_0 GW364.out); have hn365_1 : ad363.block ≠ gb364 := Nat.ne_of_lt (cl hx365_0 GW364.out); replace hx365_0 := (HB.out.cell (World.block_lt_of_cell? w _ hx365_0)).trans hx365_0; replace hx365_1 := (HB.out.cell (World.block_lt_of_cell? w _ hx365_1)).trans hx365_1; replace hx365_0 := (cell_far (p := ⟨gb364, 0, none⟩) (nb hn365_0) (.int .i64 ((rd_T33 l0 x4_1).f0))).trans hx365_0; replace hx365_1 := (cell_far (p := ⟨gb364, 0, none⟩) (nb hn365_0) (.int .i64 ((rd_T33 l0 x4_1).f0))).trans hx365_1; replace hx365_0 := (cell_far (p := ⟨gb364, 1, none⟩) (nb hn365_1) (.int .i64 ((rd_T33 l0 x4_1).f1))).trans hx365_0; replace hx365_1 := (cell_far (p := ⟨gb364, 1, none⟩) (nb hn365_1) (.int .i64 ((rd_T33 l0 x4_1).f1))).trans hx365_1; clear hn365_0; clear hn365_1; replace p365 := eq_true p365; replace q365 := eq_true q365) | ((with_reducible refine gate_dst (N := 7) rfl ?_); refine bx_ 7 (cs := #[.int .i64 0, .int .i64 0]) (t := 33) ?_; intro gb366 hg w124 hbox hb; have n0_ := Aside0.mk (blk_below (bp BK364.out) hb); have n1_ := Aside0.mk (below_step (lb HB.out) hb); have n2_ := Aside0.mk (hbox); have n3_ := Aside0.mk ((by rw [hg]; exact (below_size (lb HB.out)) : w.heap.size ≤ gb366)); have n4_ := Aside0.mk ((by rw [hg]; exact (below_size (lb HB.out)) : w.heap.size ≤ gb366)); have n5_ := Aside0.mk ((by rw [hg]; exact Nat.ne_of_lt (blk_lt (bp BK364.out)) : gb364 ≠ gb366)); have n6_ := Aside0.mk ((by rw [hg]; exact Nat.ne_of_gt (blk_lt (bp BK364.out)) : gb366 ≠ gb364)); clear BK364; clear HB; have BK364 := n0_; have HB := n1_; have BK366 := n2_; have GW366 := n3_; have GE366 := n4_; have NB364_366 := n5_; have NB366_364 := n6_; clear n0_ n1_ n2_ n3_ n4_ n5_ n6_; clear hb hbox hg; have hnb125 := NB366_364.out; have hnc125 := NB364_366.out; have hcz126_0 : w124.cell? ⟨gb366, 0, none⟩ = some (.int .i64 0) := (blk_cell BK366.out 0).trans rfl; have hcz126_1 : w124.cell? ⟨gb366, 1, none⟩ = some (.int .i64 0) := (blk_cell BK366.out 1).trans rfl; have hfz126_0 := blk_frozen BK366.out 0; have hfz126_1 := blk_frozen BK366.out 1; have p367 : 0 ≤ (x5_2 : Int) := oa; have q367 : x5_2 < (l0.length : Int) := oa; obtain ⟨ad367, e367, hx367_0, hx367_1⟩ := at_T33 HR0.out x5_2 p367 q367; obtain rfl : ad363 = ad367 := (by injection e367); have hn367_0 : ad363.block ≠ gb366 := Nat.ne_of_lt (cl hx367_0 GW366.out); have hn367_1 : ad363.block ≠ gb366 := Nat.ne_of_lt (cl hx367_0 GW366.out); replace hx367_0 := (HB.out.cell (World.block_lt_of_cell? w _ hx367_0)).trans hx367_0; replace hx367_1 := (HB.out.cell (World.block_lt_of_cell? w _ hx367_1)).trans hx367_1; replace hx367_0 := (cell_far (p := ⟨gb366, 0, none⟩) (nb hn367_0) (.int .i64 ((rd_T33 l0 (ji10)).f0))).trans hx367_0; replace hx367_1 := (cell_far (p := ⟨gb366, 0, none⟩) (nb hn367_0) (.int .i64 ((rd_T33 l0 (ji10)).f0))).trans hx367_1; replace hx367_0 := (cell_far (p := ⟨gb366, 1, none⟩) (nb hn367_1) (.int .i64 ((rd_T33 l0 (ji10)).f1))).trans hx367_0; replace hx367_1 := (cell_far (p := ⟨gb366, 1, none⟩) (nb hn367_1) (.int .i64 ((rd_T33 l0 (ji10)).f1))).trans hx367_1; clear hn367_0; clear hn367_1; replace p367 := eq_true p367; replace q367 := eq_true q367) | ((with_reducible refine gate_dst (N := 8) rfl ?_); refine bx_ 8 (cs := #[.int .i64 0, .int .i64 0]) (t := 33) ?_; intro gb368 hg w127 hbox hb; have n0_ := Aside0.mk (blk_below (bf BK364.out) hb); have n1_ := Aside0.mk (blk_below (bp BK366.out) hb); have n2_ := Aside0.mk (below_step (lb HB.out) hb); have n3_ := Aside0.mk (hbox); have n4_ := Aside0.mk ((by rw [hg]; exact (below_size (lb HB.out)) : w.heap.size ≤ gb368)); have n5_ := Aside0.mk ((by rw [hg]; exact (below_size (lb HB.out)) : w.heap.size ≤ gb368)); have n6_ := Aside0.mk ((by rw [hg]; exact Nat.ne_of_lt (blk_lt (bf BK364.out)) : gb364 ≠ gb368)); have n7_ := Aside0.mk ((by rw [hg]; exact Nat.ne_of_gt (blk_lt (bf BK364.out)) : gb368 ≠ gb364)); have n8_ := Aside0.mk ((by rw [hg]; exact Nat.ne_of_lt (blk_lt (bp BK366.out)) : gb366 ≠ gb368)); have n9_ := Aside0.mk ((by rw [hg]; exact Nat.ne_of_gt (blk_lt (bp BK366.out)) : gb368 ≠ gb366)); clear BK364; clear BK366; clear HB; have BK364 := n0_; have BK366 := n1_; have HB := n2_; have BK368 := n3_; have GW368 := n4_; have GE368 := n5_; have NB364_368 := n6_; have NB368_364 := n7_; have NB366_368 := n8_; have NB368_366 := n9_; clear n0_ n1_ n2_ n3_ n4_ n5_ n6_ n7_ n8_ n9_; clear hb hbox hg; have hnb128 := NB368_364.out; have hnc128 := NB364_368.out; have hnb129 := NB368_366.out; have hnc129 := NB366_368.out; have hcz130_0 : w127.cell? ⟨gb368, 0, none⟩ = some (.int .i64 0) := (blk_cell BK368.out 0).trans rfl; have hcz130_1 : w127.cell? ⟨gb368, 1, none⟩ = some (.int .i64 0) := (blk_cell BK368.out 1).trans rfl; have hfz130_0 := blk_frozen BK368.out 0; have hfz130_1 := blk_frozen BK368.out 1; have p369 : 0 ≤ ((ji15) : Int) := oa; have q369 : (ji15) < (l0.length : Int) := oa; obtain ⟨ad369, e369, hx369_0, hx369_1⟩ := at_T33 HR0.out (ji15) p369 q369; obtain rfl : ad363 = ad369 := (by injection e369); have hn369_0 : ad363.block ≠ gb368 := Nat.ne_of_lt (cl hx369_0 GW368.out); have hn369_1 : ad363.block ≠ gb368 := Nat.ne_of_lt (cl hx369_0 GW368.out); replace hx369_0 := (HB.out.cell (World.block_lt_of_cell? w _ hx369_0)).trans hx369_0; replace hx369_1 := (HB.out.cell (World.block_lt_of_cell? w _ hx369_1)).trans hx369_1; replace hx369_0 := (cell_far (p := ⟨gb368, 0, none⟩) (nb hn369_0) (.int .i64 ((rd_T33 l0 x5_2).f0))).trans hx369_0; replace hx369_1 := (cell_far (p := ⟨gb368, 0, none⟩) (nb hn369_0) (.int .i64 ((rd_T33 l0 x5_2).f0))).trans hx369_1; replace hx369_0 := (cell_far (p := ⟨gb368, 1, none⟩) (nb hn369_1) (.int .i64 ((rd_T33 l0 x5_2).f1))).trans hx369_0; replace hx369_1 := (cell_far (p := ⟨gb368, 1, none⟩) (nb hn369_1) (.int .i64 ((rd_T33 l0 x5_2).f1))).trans hx369_1; clear hn369_0; clear hn369_1; replace p369 := eq_true p369; replace q369 := eq_true q369) | ((with_reducible refine gate_dst (N := 9) rfl ?_); refine bx_ 9 (cs := #[.int .i64 0, .int .i64 0]) (t := 33) ?_; intro gb370 hg w131 hbox hb; have n0_ := Aside0.mk (blk_below (bf BK364.out) hb); have n1_ := Aside0.mk (blk_below (bf BK366.out) hb); have n2_ := Aside0.mk (blk_below (bp BK368.out) hb); have n3_ := Aside0.mk (below_step (lb HB.out) hb); have n4_ := Aside0.mk (hbox); have n5_ := Aside0.mk ((by rw [hg]; exact (below_size (lb HB.out)) : w.heap.size ≤ gb370)); have n6_ := Aside0.mk ((by rw [hg]; exact (below_size (lb HB.out)) : w.heap.size ≤ gb370)); have n7_ := Aside0.mk ((by rw [hg]; exact Nat.ne_of_lt (blk_lt (bf BK364.out)) : gb364 ≠ gb370)); have n8_ := Aside0.mk ((by rw [hg]; exact Nat.ne_of_gt (blk_lt (bf BK364.out)) : gb370 ≠ gb364)); have n9_ := Aside0.mk ((by rw [hg]; exact Nat.ne_of_lt (blk_lt (bf BK366.out)) : gb366 ≠ gb370)); have n10_ := Aside0.mk ((by rw [hg]; exact Nat.ne_of_gt (blk_lt (bf BK366.out)) : gb370 ≠ gb366)); have n11_ := Aside0.mk ((by rw [hg]; exact Nat.ne_of_lt (blk_lt (bp BK368.out)) : gb368 ≠ gb370)); have n12_ := Aside0.mk ((by rw [hg]; exact Nat.ne_of_gt (blk_lt (bp BK368.out)) : gb370 ≠ gb368)); clear BK364; clear BK366; clear BK368; clear HB; have BK364 := n0_; have BK366 := n1_; have BK368 := n2_; have HB := n3_; have BK370 := n4_; have GW370 := n5_; have GE370 := n6_; have NB364_370 := n7_; have NB370_364 := n8_; have NB366_370 := n9_; have NB370_366 := n10_; have NB368_370 := n11_; have NB370_368 := n12_; clear n0_ n1_ n2_ n3_ n4_ n5_ n6_ n7_ n8_ n9_ n10_ n11_ n12_; clear hb hbox hg; have hnb132 := NB370_364.out; have hnc132 := NB364_370.out; have hnb133 := NB370_366.out; have hnc133 := NB366_370.out; have hnb134 := NB370_368.out; have hnc134 := NB368_370.out; have hcz135_0 : w131.cell? ⟨gb370, 0, none⟩ = some (.int .i64 0) := (blk_cell BK370.out 0).trans rfl; have hcz135_1 : w131.cell? ⟨gb370, 1, none⟩ = some (.int .i64 0) := (blk_cell BK370.out 1).trans rfl; have hfz135_0 := blk_frozen BK370.out 0; have hfz135_1 := blk_frozen BK370.out 1; have hcz136_0 : w131.cell? ⟨gb368, 0, none⟩ = some (.int .i64 ((rd_T33 l0 x5_2).f0)) := (blk_cell BK368.out 0).trans rfl; have hcz136_1 : w131.cell? ⟨gb368, 1, none⟩ = some (.int .i64 ((rd_T33 l0 x5_2).f1)) := (blk_cell BK368.out 1).trans rfl; have hfz136_0 := blk_frozen BK368.out 0; have hfz136_1 := blk_frozen BK368.out 1; have hcz137_0 : w131.cell? ⟨gb366, 0, none⟩ = some (.int .i64 ((rd_T33 l0 (ji10)).f0)) := (blk_cell BK366.out 0).trans rfl; have hcz137_1 : w131.cell? ⟨gb366, 1, none⟩ = some (.int .i64 ((rd_T33 l0 (ji10)).f1)) := (blk_cell BK366.out 1).trans rfl; have hfz137_0 := blk_frozen BK366.out 0; have hfz137_1 := blk_frozen BK366.out 1) | ((with_reducible refine gate_callee (f := 87) rfl ?_); refine goesL_ (some 89) rfl rfl Try.func87 (by kernel_rfl) rfl #[.agg #[.int .i64 ((rd_T33 l0 x5_2).f0), .int .i64 ((rd_T33 l0 x5_2).f1)], .agg #[.int .i64 ((rd_T33 l0 (ji15)).f0), .int .i64 ((rd_T33 l0 (ji15)).f1)], .agg #[.int .i64 ((rd_T33 l0 (ji10)).f0), .int .i64 ((rd_T33 l0 (ji10)).f1)]] rfl (by (try simp only [List.map_toArray, List.map_cons, List.map_nil]); first | done | (simp only [hji10, hji15]; rfl) | rfl | (simp only [List.length_drop, List.length_take]; rfl)) ?_; (with_reducible refine (spec_l2On.calls ((rd_T33 l0 x5_2).f0) ((rd_T33 l0 x5_2).f1) ((rd_T33 l0 (ji15)).f0) ((rd_T33 l0 (ji15)).f1) ((rd_T33 l0 (ji10)).f0) ((rd_T33 l0 (ji10)).f1) true _ A120.out).mono ?_); rintro e w138 ⟨rfl, hb⟩; refine ⟨_, rfl, ?_⟩; have n0_ := Aside0.mk (blk_below (bf BK364.out) hb); have n1_ := Aside0.mk (blk_below (bf BK366.out) hb); have n2_ := Aside0.mk (blk_below (bf BK368.out) hb); have n3_ := Aside0.mk (blk_below (bp BK370.out) hb); have n4_ := Aside0.mk (below_step (lb HB.out) hb); clear BK364; clear BK366; clear BK368; clear BK370; clear HB; have BK364 := n0_; have BK366 := n1_; have BK368 := n2_; have BK370 := n3_; have HB := n4_; clear n0_ n1_ n2_ n3_ n4_; (try clear hb); (try clear hb2); (try clear hk); (try clear hi)))
                    go_ret
                    exact ⟨by first | rfl | (simp [errW_none, errW_some] <;> rfl) | (simp only [← hji10, ← hji15]; first | rfl | (simp [errW_none, errW_some] <;> rfl)) | (simp [*, errW_none, errW_some] <;> rfl), lb HB.out⟩
                   ·replace c121 := Bool.eq_false_iff.mpr c121
                    subst c121
                    have H1 : ((spec_l2On.f ((rd_T33 l0 x4_1).f0) ((rd_T33 l0 x4_1).f1) ((rd_T33 l0 (ji10)).f0) ((rd_T33 l0 (ji10)).f1) ((rd_T33 l0 x5_2).f0) ((rd_T33 l0 x5_2).f1)).bind fun t374 => (if t374 = true then (some false) else (spec_PolyValid.l1 k2 l0 (l0.length : Int) x4_1 (wrap64 (x5_2 + 1))))) = some r := by rw [if_neg (show ¬ (false = true) by decide)] at H; exact H
                    clear H
                    have H := H1
                    clear H1
                    replace H := Option.bind_eq_some_iff.mp H
                    obtain ⟨t374, A1390, H⟩ := H
                    replace H : (if t374 = true then (some false) else (spec_PolyValid.l1 k2 l0 (l0.length : Int) x4_1 (wrap64 (x5_2 + 1)))) = some r := H
                    have A139 := Aside0.mk A1390
                    clear A1390
                    by_cases c140 : t374 = true
                    ·subst c140
                     have H1 : (some false) = some r := by rw [if_pos rfl] at H; exact H
                     clear H
                     have H := H1
                     clear H1
                     obtain rfl := Option.some.inj H
                     have p363 : 0 ≤ (x4_1 : Int) := oa
                     have q363 : x4_1 < (l0.length : Int) := oa
                     obtain ⟨ad363, e363, hx363_0, hx363_1⟩ := at_T33 HR0.out x4_1 p363 q363
                     cases e363
                     replace hx363_0 := (HB.out.cell (World.block_lt_of_cell? w _ hx363_0)).trans hx363_0
                     replace hx363_1 := (HB.out.cell (World.block_lt_of_cell? w _ hx363_1)).trans hx363_1
                     replace p363 := eq_true p363
                     replace q363 := eq_true q363
                     go_wp2_with (first | ((with_reducible refine gate_dst (N := 6) rfl ?_); refine bx_ 6 (cs := #[.int .i64 0, .int .i64 0]) (t := 33) ?_; intro gb364 hg w141 hbox hb; have n0_ := Aside0.mk (below_step (lb HB.out) hb); have n1_ := Aside0.mk (hbox); have n2_ := Aside0.mk ((by rw [hg]; exact (below_size (lb HB.out)) : w.heap.size ≤ gb364)); have n3_ := Aside0.mk ((by rw [hg]; exact (below_size (lb HB.out)) : w.heap.size ≤ gb364)); clear HB; have HB := n0_; have BK364 := n1_; have GW364 := n2_; have GE364 := n3_; clear n0_ n1_ n2_ n3_; clear hb hbox hg; have hcz142_0 : w141.cell? ⟨gb364, 0, none⟩ = some (.int .i64 0) := (blk_cell BK364.out 0).trans rfl; have hcz142_1 : w141.cell? ⟨gb364, 1, none⟩ = some (.int .i64 0) := (blk_cell BK364.out 1).trans rfl; have hfz142_0 := blk_frozen BK364.out 0; have hfz142_1 := blk_frozen BK364.out 1; have p365 : 0 ≤ ((ji10) : Int) := oa; have q365 : (ji10) < (l0.length : Int) := oa; obtain ⟨ad365, e365, hx365_0, hx365_1⟩ := at_T33 HR0.out (ji10) p365 q365; obtain rfl : ad363 = ad365 := (by injection e365); have hn365_0 : ad363.block ≠ gb364 := Nat.ne_of_lt (cl hx365_0 GW364.out); have hn365_1 : ad363.block ≠ gb364 := Nat.ne_of_lt (cl hx365_0 GW364.out); replace hx365_0 := (HB.out.cell (World.block_lt_of_cell? w _ hx365_0)).trans hx365_0; replace hx365_1 := (HB.out.cell (World.block_lt_of_cell? w _ hx365_1)).trans hx365_1; replace hx365_0 := (cell_far (p := ⟨gb364, 0, none⟩) (nb hn365_0) (.int .i64 ((rd_T33 l0 x4_1).f0))).trans hx365_0; replace hx365_1 := (cell_far (p := ⟨gb364, 0, none⟩) (nb hn365_0) (.int .i64 ((rd_T33 l0 x4_1).f0))).trans hx365_1; replace hx365_0 := (cell_far (p := ⟨gb364, 1, none⟩) (nb hn365_1) (.int .i64 ((rd_T33 l0 x4_1).f1))).trans hx365_0; replace hx365_1 := (cell_far (p := ⟨gb364, 1, none⟩) (nb hn365_1) (.int .i64 ((rd_T33 l0 x4_1).f1))).trans hx365_1; clear hn365_0; clear hn365_1; replace p365 := eq_true p365; replace q365 := eq_true q365) | ((with_reducible refine gate_dst (N := 7) rfl ?_); refine bx_ 7 (cs := #[.int .i64 0, .int .i64 0]) (t := 33) ?_; intro gb366 hg w143 hbox hb; have n0_ := Aside0.mk (blk_below (bp BK364.out) hb); have n1_ := Aside0.mk (below_step (lb HB.out) hb); have n2_ := Aside0.mk (hbox); have n3_ := Aside0.mk ((by rw [hg]; exact (below_size (lb HB.out)) : w.heap.size ≤ gb366)); have n4_ := Aside0.mk ((by rw [hg]; exact (below_size (lb HB.out)) : w.heap.size ≤ gb366)); have n5_ := Aside0.mk ((by rw [hg]; exact Nat.ne_of_lt (blk_lt (bp BK364.out)) : gb364 ≠ gb366)); have n6_ := Aside0.mk ((by rw [hg]; exact Nat.ne_of_gt (blk_lt (bp BK364.out)) : gb366 ≠ gb364)); clear BK364; clear HB; have BK364 := n0_; have HB := n1_; have BK366 := n2_; have GW366 := n3_; have GE366 := n4_; have NB364_366 := n5_; have NB366_364 := n6_; clear n0_ n1_ n2_ n3_ n4_ n5_ n6_; clear hb hbox hg; have hnb144 := NB366_364.out; have hnc144 := NB364_366.out; have hcz145_0 : w143.cell? ⟨gb366, 0, none⟩ = some (.int .i64 0) := (blk_cell BK366.out 0).trans rfl; have hcz145_1 : w143.cell? ⟨gb366, 1, none⟩ = some (.int .i64 0) := (blk_cell BK366.out 1).trans rfl; have hfz145_0 := blk_frozen BK366.out 0; have hfz145_1 := blk_frozen BK366.out 1; have p367 : 0 ≤ (x5_2 : Int) := oa; have q367 : x5_2 < (l0.length : Int) := oa; obtain ⟨ad367, e367, hx367_0, hx367_1⟩ := at_T33 HR0.out x5_2 p367 q367; obtain rfl : ad363 = ad367 := (by injection e367); have hn367_0 : ad363.block ≠ gb366 := Nat.ne_of_lt (cl hx367_0 GW366.out); have hn367_1 : ad363.block ≠ gb366 := Nat.ne_of_lt (cl hx367_0 GW366.out); replace hx367_0 := (HB.out.cell (World.block_lt_of_cell? w _ hx367_0)).trans hx367_0; replace hx367_1 := (HB.out.cell (World.block_lt_of_cell? w _ hx367_1)).trans hx367_1; replace hx367_0 := (cell_far (p := ⟨gb366, 0, none⟩) (nb hn367_0) (.int .i64 ((rd_T33 l0 (ji10)).f0))).trans hx367_0; replace hx367_1 := (cell_far (p := ⟨gb366, 0, none⟩) (nb hn367_0) (.int .i64 ((rd_T33 l0 (ji10)).f0))).trans hx367_1; replace hx367_0 := (cell_far (p := ⟨gb366, 1, none⟩) (nb hn367_1) (.int .i64 ((rd_T33 l0 (ji10)).f1))).trans hx367_0; replace hx367_1 := (cell_far (p := ⟨gb366, 1, none⟩) (nb hn367_1) (.int .i64 ((rd_T33 l0 (ji10)).f1))).trans hx367_1; clear hn367_0; clear hn367_1; replace p367 := eq_true p367; replace q367 := eq_true q367) | ((with_reducible refine gate_dst (N := 8) rfl ?_); refine bx_ 8 (cs := #[.int .i64 0, .int .i64 0]) (t := 33) ?_; intro gb368 hg w146 hbox hb; have n0_ := Aside0.mk (blk_below (bf BK364.out) hb); have n1_ := Aside0.mk (blk_below (bp BK366.out) hb); have n2_ := Aside0.mk (below_step (lb HB.out) hb); have n3_ := Aside0.mk (hbox); have n4_ := Aside0.mk ((by rw [hg]; exact (below_size (lb HB.out)) : w.heap.size ≤ gb368)); have n5_ := Aside0.mk ((by rw [hg]; exact (below_size (lb HB.out)) : w.heap.size ≤ gb368)); have n6_ := Aside0.mk ((by rw [hg]; exact Nat.ne_of_lt (blk_lt (bf BK364.out)) : gb364 ≠ gb368)); have n7_ := Aside0.mk ((by rw [hg]; exact Nat.ne_of_gt (blk_lt (bf BK364.out)) : gb368 ≠ gb364)); have n8_ := Aside0.mk ((by rw [hg]; exact Nat.ne_of_lt (blk_lt (bp BK366.out)) : gb366 ≠ gb368)); have n9_ := Aside0.mk ((by rw [hg]; exact Nat.ne_of_gt (blk_lt (bp BK366.out)) : gb368 ≠ gb366)); clear BK364; clear BK366; clear HB; have BK364 := n0_; have BK366 := n1_; have HB := n2_; have BK368 := n3_; have GW368 := n4_; have GE368 := n5_; have NB364_368 := n6_; have NB368_364 := n7_; have NB366_368 := n8_; have NB368_366 := n9_; clear n0_ n1_ n2_ n3_ n4_ n5_ n6_ n7_ n8_ n9_; clear hb hbox hg; have hnb147 := NB368_364.out; have hnc147 := NB364_368.out; have hnb148 := NB368_366.out; have hnc148 := NB366_368.out; have hcz149_0 : w146.cell? ⟨gb368, 0, none⟩ = some (.int .i64 0) := (blk_cell BK368.out 0).trans rfl; have hcz149_1 : w146.cell? ⟨gb368, 1, none⟩ = some (.int .i64 0) := (blk_cell BK368.out 1).trans rfl; have hfz149_0 := blk_frozen BK368.out 0; have hfz149_1 := blk_frozen BK368.out 1; have p369 : 0 ≤ ((ji15) : Int) := oa; have q369 : (ji15) < (l0.length : Int) := oa; obtain ⟨ad369, e369, hx369_0, hx369_1⟩ := at_T33 HR0.out (ji15) p369 q369; obtain rfl : ad363 = ad369 := (by injection e369); have hn369_0 : ad363.block ≠ gb368 := Nat.ne_of_lt (cl hx369_0 GW368.out); have hn369_1 : ad363.block ≠ gb368 := Nat.ne_of_lt (cl hx369_0 GW368.out); replace hx369_0 := (HB.out.cell (World.block_lt_of_cell? w _ hx369_0)).trans hx369_0; replace hx369_1 := (HB.out.cell (World.block_lt_of_cell? w _ hx369_1)).trans hx369_1; replace hx369_0 := (cell_far (p := ⟨gb368, 0, none⟩) (nb hn369_0) (.int .i64 ((rd_T33 l0 x5_2).f0))).trans hx369_0; replace hx369_1 := (cell_far (p := ⟨gb368, 0, none⟩) (nb hn369_0) (.int .i64 ((rd_T33 l0 x5_2).f0))).trans hx369_1; replace hx369_0 := (cell_far (p := ⟨gb368, 1, none⟩) (nb hn369_1) (.int .i64 ((rd_T33 l0 x5_2).f1))).trans hx369_0; replace hx369_1 := (cell_far (p := ⟨gb368, 1, none⟩) (nb hn369_1) (.int .i64 ((rd_T33 l0 x5_2).f1))).trans hx369_1; clear hn369_0; clear hn369_1; replace p369 := eq_true p369; replace q369 := eq_true q369) | ((with_reducible refine gate_dst (N := 9) rfl ?_); refine bx_ 9 (cs := #[.int .i64 0, .int .i64 0]) (t := 33) ?_; intro gb370 hg w150 hbox hb; have n0_ := Aside0.mk (blk_below (bf BK364.out) hb); have n1_ := Aside0.mk (blk_below (bf BK366.out) hb); have n2_ := Aside0.mk (blk_below (bp BK368.out) hb); have n3_ := Aside0.mk (below_step (lb HB.out) hb); have n4_ := Aside0.mk (hbox); have n5_ := Aside0.mk ((by rw [hg]; exact (below_size (lb HB.out)) : w.heap.size ≤ gb370)); have n6_ := Aside0.mk ((by rw [hg]; exact (below_size (lb HB.out)) : w.heap.size ≤ gb370)); have n7_ := Aside0.mk ((by rw [hg]; exact Nat.ne_of_lt (blk_lt (bf BK364.out)) : gb364 ≠ gb370)); have n8_ := Aside0.mk ((by rw [hg]; exact Nat.ne_of_gt (blk_lt (bf BK364.out)) : gb370 ≠ gb364)); have n9_ := Aside0.mk ((by rw [hg]; exact Nat.ne_of_lt (blk_lt (bf BK366.out)) : gb366 ≠ gb370)); have n10_ := Aside0.mk ((by rw [hg]; exact Nat.ne_of_gt (blk_lt (bf BK366.out)) : gb370 ≠ gb366)); have n11_ := Aside0.mk ((by rw [hg]; exact Nat.ne_of_lt (blk_lt (bp BK368.out)) : gb368 ≠ gb370)); have n12_ := Aside0.mk ((by rw [hg]; exact Nat.ne_of_gt (blk_lt (bp BK368.out)) : gb370 ≠ gb368)); clear BK364; clear BK366; clear BK368; clear HB; have BK364 := n0_; have BK366 := n1_; have BK368 := n2_; have HB := n3_; have BK370 := n4_; have GW370 := n5_; have GE370 := n6_; have NB364_370 := n7_; have NB370_364 := n8_; have NB366_370 := n9_; have NB370_366 := n10_; have NB368_370 := n11_; have NB370_368 := n12_; clear n0_ n1_ n2_ n3_ n4_ n5_ n6_ n7_ n8_ n9_ n10_ n11_ n12_; clear hb hbox hg; have hnb151 := NB370_364.out; have hnc151 := NB364_370.out; have hnb152 := NB370_366.out; have hnc152 := NB366_370.out; have hnb153 := NB370_368.out; have hnc153 := NB368_370.out; have hcz154_0 : w150.cell? ⟨gb370, 0, none⟩ = some (.int .i64 0) := (blk_cell BK370.out 0).trans rfl; have hcz154_1 : w150.cell? ⟨gb370, 1, none⟩ = some (.int .i64 0) := (blk_cell BK370.out 1).trans rfl; have hfz154_0 := blk_frozen BK370.out 0; have hfz154_1 := blk_frozen BK370.out 1; have hcz155_0 : w150.cell? ⟨gb368, 0, none⟩ = some (.int .i64 ((rd_T33 l0 x5_2).f0)) := (blk_cell BK368.out 0).trans rfl; have hcz155_1 : w150.cell? ⟨gb368, 1, none⟩ = some (.int .i64 ((rd_T33 l0 x5_2).f1)) := (blk_cell BK368.out 1).trans rfl; have hfz155_0 := blk_frozen BK368.out 0; have hfz155_1 := blk_frozen BK368.out 1; have hcz156_0 : w150.cell? ⟨gb366, 0, none⟩ = some (.int .i64 ((rd_T33 l0 (ji10)).f0)) := (blk_cell BK366.out 0).trans rfl; have hcz156_1 : w150.cell? ⟨gb366, 1, none⟩ = some (.int .i64 ((rd_T33 l0 (ji10)).f1)) := (blk_cell BK366.out 1).trans rfl; have hfz156_0 := blk_frozen BK366.out 0; have hfz156_1 := blk_frozen BK366.out 1) | ((with_reducible refine gate_callee (f := 87) rfl ?_); refine goesL_ (some 89) rfl rfl Try.func87 (by kernel_rfl) rfl #[.agg #[.int .i64 ((rd_T33 l0 x5_2).f0), .int .i64 ((rd_T33 l0 x5_2).f1)], .agg #[.int .i64 ((rd_T33 l0 (ji15)).f0), .int .i64 ((rd_T33 l0 (ji15)).f1)], .agg #[.int .i64 ((rd_T33 l0 (ji10)).f0), .int .i64 ((rd_T33 l0 (ji10)).f1)]] rfl (by (try simp only [List.map_toArray, List.map_cons, List.map_nil]); first | done | (simp only [hji10, hji15]; rfl) | rfl | (simp only [List.length_drop, List.length_take]; rfl)) ?_; (with_reducible refine (spec_l2On.calls ((rd_T33 l0 x5_2).f0) ((rd_T33 l0 x5_2).f1) ((rd_T33 l0 (ji15)).f0) ((rd_T33 l0 (ji15)).f1) ((rd_T33 l0 (ji10)).f0) ((rd_T33 l0 (ji10)).f1) false _ A120.out).mono ?_); rintro e w157 ⟨rfl, hb⟩; refine ⟨_, rfl, ?_⟩; have n0_ := Aside0.mk (blk_below (bf BK364.out) hb); have n1_ := Aside0.mk (blk_below (bf BK366.out) hb); have n2_ := Aside0.mk (blk_below (bf BK368.out) hb); have n3_ := Aside0.mk (blk_below (bp BK370.out) hb); have n4_ := Aside0.mk (below_step (lb HB.out) hb); clear BK364; clear BK366; clear BK368; clear BK370; clear HB; have BK364 := n0_; have BK366 := n1_; have BK368 := n2_; have BK370 := n3_; have HB := n4_; clear n0_ n1_ n2_ n3_ n4_; (try clear hb); (try clear hb2); (try clear hk); (try clear hi); have hcz158_0 : w157.cell? ⟨gb364, 0, none⟩ = some (.int .i64 ((rd_T33 l0 x4_1).f0)) := (blk_cell BK364.out 0).trans rfl; have hcz158_1 : w157.cell? ⟨gb364, 1, none⟩ = some (.int .i64 ((rd_T33 l0 x4_1).f1)) := (blk_cell BK364.out 1).trans rfl; have hfz158_0 := blk_frozen BK364.out 0; have hfz158_1 := blk_frozen BK364.out 1; have hcz159_0 : w157.cell? ⟨gb366, 0, none⟩ = some (.int .i64 ((rd_T33 l0 (ji10)).f0)) := (blk_cell BK366.out 0).trans rfl; have hcz159_1 : w157.cell? ⟨gb366, 1, none⟩ = some (.int .i64 ((rd_T33 l0 (ji10)).f1)) := (blk_cell BK366.out 1).trans rfl; have hfz159_0 := blk_frozen BK366.out 0; have hfz159_1 := blk_frozen BK366.out 1; have hcz160_0 : w157.cell? ⟨gb368, 0, none⟩ = some (.int .i64 ((rd_T33 l0 x5_2).f0)) := (blk_cell BK368.out 0).trans rfl; have hcz160_1 : w157.cell? ⟨gb368, 1, none⟩ = some (.int .i64 ((rd_T33 l0 x5_2).f1)) := (blk_cell BK368.out 1).trans rfl; have hfz160_0 := blk_frozen BK368.out 0; have hfz160_1 := blk_frozen BK368.out 1) | (go_at_call 87; (with_reducible refine (spec_l2On.calls ((rd_T33 l0 x4_1).f0) ((rd_T33 l0 x4_1).f1) ((rd_T33 l0 (ji10)).f0) ((rd_T33 l0 (ji10)).f1) ((rd_T33 l0 x5_2).f0) ((rd_T33 l0 x5_2).f1) true _ A139.out).mono ?_); rintro e w161 ⟨rfl, hb⟩; have n0_ := Aside0.mk (blk_below (bf BK364.out) hb); have n1_ := Aside0.mk (blk_below (bf BK366.out) hb); have n2_ := Aside0.mk (blk_below (bf BK368.out) hb); have n3_ := Aside0.mk (blk_below (bf BK370.out) hb); have n4_ := Aside0.mk (below_step (lb HB.out) hb); clear BK364; clear BK366; clear BK368; clear BK370; clear HB; have BK364 := n0_; have BK366 := n1_; have BK368 := n2_; have BK370 := n3_; have HB := n4_; clear n0_ n1_ n2_ n3_ n4_; (try clear hb); (try clear hb2); (try clear hk); (try clear hi)))
                     go_ret
                     exact ⟨by first | rfl | (simp [errW_none, errW_some] <;> rfl) | (simp only [← hji10, ← hji15]; first | rfl | (simp [errW_none, errW_some] <;> rfl)) | (simp [*, errW_none, errW_some] <;> rfl), lb HB.out⟩
                    ·replace c140 := Bool.eq_false_iff.mpr c140
                     subst c140
                     have H1 : (spec_PolyValid.l1 k2 l0 (l0.length : Int) x4_1 (wrap64 (x5_2 + 1))) = some r := by rw [if_neg (show ¬ (false = true) by decide)] at H; exact H
                     clear H
                     have H := H1
                     clear H1
                     have H' := Aside0.mk H
                     clear H
                     have p363 : 0 ≤ (x4_1 : Int) := oa
                     have q363 : x4_1 < (l0.length : Int) := oa
                     obtain ⟨ad363, e363, hx363_0, hx363_1⟩ := at_T33 HR0.out x4_1 p363 q363
                     cases e363
                     replace hx363_0 := (HB.out.cell (World.block_lt_of_cell? w _ hx363_0)).trans hx363_0
                     replace hx363_1 := (HB.out.cell (World.block_lt_of_cell? w _ hx363_1)).trans hx363_1
                     replace p363 := eq_true p363
                     replace q363 := eq_true q363
                     go_wp2_with (first | ((with_reducible refine gate_dst (N := 6) rfl ?_); refine bx_ 6 (cs := #[.int .i64 0, .int .i64 0]) (t := 33) ?_; intro gb364 hg w162 hbox hb; have n0_ := Aside0.mk (below_step (lb HB.out) hb); have n1_ := Aside0.mk (hbox); have n2_ := Aside0.mk ((by rw [hg]; exact (below_size (lb HB.out)) : w.heap.size ≤ gb364)); have n3_ := Aside0.mk ((by rw [hg]; exact (below_size (lb HB.out)) : w.heap.size ≤ gb364)); clear HB; have HB := n0_; have BK364 := n1_; have GW364 := n2_; have GE364 := n3_; clear n0_ n1_ n2_ n3_; clear hb hbox hg; have hcz163_0 : w162.cell? ⟨gb364, 0, none⟩ = some (.int .i64 0) := (blk_cell BK364.out 0).trans rfl; have hcz163_1 : w162.cell? ⟨gb364, 1, none⟩ = some (.int .i64 0) := (blk_cell BK364.out 1).trans rfl; have hfz163_0 := blk_frozen BK364.out 0; have hfz163_1 := blk_frozen BK364.out 1; have p365 : 0 ≤ ((ji10) : Int) := oa; have q365 : (ji10) < (l0.length : Int) := oa; obtain ⟨ad365, e365, hx365_0, hx365_1⟩ := at_T33 HR0.out (ji10) p365 q365; obtain rfl : ad363 = ad365 := (by injection e365); have hn365_0 : ad363.block ≠ gb364 := Nat.ne_of_lt (cl hx365_0 GW364.out); have hn365_1 : ad363.block ≠ gb364 := Nat.ne_of_lt (cl hx365_0 GW364.out); replace hx365_0 := (HB.out.cell (World.block_lt_of_cell? w _ hx365_0)).trans hx365_0; replace hx365_1 := (HB.out.cell (World.block_lt_of_cell? w _ hx365_1)).trans hx365_1; replace hx365_0 := (cell_far (p := ⟨gb364, 0, none⟩) (nb hn365_0) (.int .i64 ((rd_T33 l0 x4_1).f0))).trans hx365_0; replace hx365_1 := (cell_far (p := ⟨gb364, 0, none⟩) (nb hn365_0) (.int .i64 ((rd_T33 l0 x4_1).f0))).trans hx365_1; replace hx365_0 := (cell_far (p := ⟨gb364, 1, none⟩) (nb hn365_1) (.int .i64 ((rd_T33 l0 x4_1).f1))).trans hx365_0; replace hx365_1 := (cell_far (p := ⟨gb364, 1, none⟩) (nb hn365_1) (.int .i64 ((rd_T33 l0 x4_1).f1))).trans hx365_1; clear hn365_0; clear hn365_1; replace p365 := eq_true p365; replace q365 := eq_true q365) | ((with_reducible refine gate_dst (N := 7) rfl ?_); refine bx_ 7 (cs := #[.int .i64 0, .int .i64 0]) (t := 33) ?_; intro gb366 hg w164 hbox hb; have n0_ := Aside0.mk (blk_below (bp BK364.out) hb); have n1_ := Aside0.mk (below_step (lb HB.out) hb); have n2_ := Aside0.mk (hbox); have n3_ := Aside0.mk ((by rw [hg]; exact (below_size (lb HB.out)) : w.heap.size ≤ gb366)); have n4_ := Aside0.mk ((by rw [hg]; exact (below_size (lb HB.out)) : w.heap.size ≤ gb366)); have n5_ := Aside0.mk ((by rw [hg]; exact Nat.ne_of_lt (blk_lt (bp BK364.out)) : gb364 ≠ gb366)); have n6_ := Aside0.mk ((by rw [hg]; exact Nat.ne_of_gt (blk_lt (bp BK364.out)) : gb366 ≠ gb364)); clear BK364; clear HB; have BK364 := n0_; have HB := n1_; have BK366 := n2_; have GW366 := n3_; have GE366 := n4_; have NB364_366 := n5_; have NB366_364 := n6_; clear n0_ n1_ n2_ n3_ n4_ n5_ n6_; clear hb hbox hg; have hnb165 := NB366_364.out; have hnc165 := NB364_366.out; have hcz166_0 : w164.cell? ⟨gb366, 0, none⟩ = some (.int .i64 0) := (blk_cell BK366.out 0).trans rfl; have hcz166_1 : w164.cell? ⟨gb366, 1, none⟩ = some (.int .i64 0) := (blk_cell BK366.out 1).trans rfl; have hfz166_0 := blk_frozen BK366.out 0; have hfz166_1 := blk_frozen BK366.out 1; have p367 : 0 ≤ (x5_2 : Int) := oa; have q367 : x5_2 < (l0.length : Int) := oa; obtain ⟨ad367, e367, hx367_0, hx367_1⟩ := at_T33 HR0.out x5_2 p367 q367; obtain rfl : ad363 = ad367 := (by injection e367); have hn367_0 : ad363.block ≠ gb366 := Nat.ne_of_lt (cl hx367_0 GW366.out); have hn367_1 : ad363.block ≠ gb366 := Nat.ne_of_lt (cl hx367_0 GW366.out); replace hx367_0 := (HB.out.cell (World.block_lt_of_cell? w _ hx367_0)).trans hx367_0; replace hx367_1 := (HB.out.cell (World.block_lt_of_cell? w _ hx367_1)).trans hx367_1; replace hx367_0 := (cell_far (p := ⟨gb366, 0, none⟩) (nb hn367_0) (.int .i64 ((rd_T33 l0 (ji10)).f0))).trans hx367_0; replace hx367_1 := (cell_far (p := ⟨gb366, 0, none⟩) (nb hn367_0) (.int .i64 ((rd_T33 l0 (ji10)).f0))).trans hx367_1; replace hx367_0 := (cell_far (p := ⟨gb366, 1, none⟩) (nb hn367_1) (.int .i64 ((rd_T33 l0 (ji10)).f1))).trans hx367_0; replace hx367_1 := (cell_far (p := ⟨gb366, 1, none⟩) (nb hn367_1) (.int .i64 ((rd_T33 l0 (ji10)).f1))).trans hx367_1; clear hn367_0; clear hn367_1; replace p367 := eq_true p367; replace q367 := eq_true q367) | ((with_reducible refine gate_dst (N := 8) rfl ?_); refine bx_ 8 (cs := #[.int .i64 0, .int .i64 0]) (t := 33) ?_; intro gb368 hg w167 hbox hb; have n0_ := Aside0.mk (blk_below (bf BK364.out) hb); have n1_ := Aside0.mk (blk_below (bp BK366.out) hb); have n2_ := Aside0.mk (below_step (lb HB.out) hb); have n3_ := Aside0.mk (hbox); have n4_ := Aside0.mk ((by rw [hg]; exact (below_size (lb HB.out)) : w.heap.size ≤ gb368)); have n5_ := Aside0.mk ((by rw [hg]; exact (below_size (lb HB.out)) : w.heap.size ≤ gb368)); have n6_ := Aside0.mk ((by rw [hg]; exact Nat.ne_of_lt (blk_lt (bf BK364.out)) : gb364 ≠ gb368)); have n7_ := Aside0.mk ((by rw [hg]; exact Nat.ne_of_gt (blk_lt (bf BK364.out)) : gb368 ≠ gb364)); have n8_ := Aside0.mk ((by rw [hg]; exact Nat.ne_of_lt (blk_lt (bp BK366.out)) : gb366 ≠ gb368)); have n9_ := Aside0.mk ((by rw [hg]; exact Nat.ne_of_gt (blk_lt (bp BK366.out)) : gb368 ≠ gb366)); clear BK364; clear BK366; clear HB; have BK364 := n0_; have BK366 := n1_; have HB := n2_; have BK368 := n3_; have GW368 := n4_; have GE368 := n5_; have NB364_368 := n6_; have NB368_364 := n7_; have NB366_368 := n8_; have NB368_366 := n9_; clear n0_ n1_ n2_ n3_ n4_ n5_ n6_ n7_ n8_ n9_; clear hb hbox hg; have hnb168 := NB368_364.out; have hnc168 := NB364_368.out; have hnb169 := NB368_366.out; have hnc169 := NB366_368.out; have hcz170_0 : w167.cell? ⟨gb368, 0, none⟩ = some (.int .i64 0) := (blk_cell BK368.out 0).trans rfl; have hcz170_1 : w167.cell? ⟨gb368, 1, none⟩ = some (.int .i64 0) := (blk_cell BK368.out 1).trans rfl; have hfz170_0 := blk_frozen BK368.out 0; have hfz170_1 := blk_frozen BK368.out 1; have p369 : 0 ≤ ((ji15) : Int) := oa; have q369 : (ji15) < (l0.length : Int) := oa; obtain ⟨ad369, e369, hx369_0, hx369_1⟩ := at_T33 HR0.out (ji15) p369 q369; obtain rfl : ad363 = ad369 := (by injection e369); have hn369_0 : ad363.block ≠ gb368 := Nat.ne_of_lt (cl hx369_0 GW368.out); have hn369_1 : ad363.block ≠ gb368 := Nat.ne_of_lt (cl hx369_0 GW368.out); replace hx369_0 := (HB.out.cell (World.block_lt_of_cell? w _ hx369_0)).trans hx369_0; replace hx369_1 := (HB.out.cell (World.block_lt_of_cell? w _ hx369_1)).trans hx369_1; replace hx369_0 := (cell_far (p := ⟨gb368, 0, none⟩) (nb hn369_0) (.int .i64 ((rd_T33 l0 x5_2).f0))).trans hx369_0; replace hx369_1 := (cell_far (p := ⟨gb368, 0, none⟩) (nb hn369_0) (.int .i64 ((rd_T33 l0 x5_2).f0))).trans hx369_1; replace hx369_0 := (cell_far (p := ⟨gb368, 1, none⟩) (nb hn369_1) (.int .i64 ((rd_T33 l0 x5_2).f1))).trans hx369_0; replace hx369_1 := (cell_far (p := ⟨gb368, 1, none⟩) (nb hn369_1) (.int .i64 ((rd_T33 l0 x5_2).f1))).trans hx369_1; clear hn369_0; clear hn369_1; replace p369 := eq_true p369; replace q369 := eq_true q369) | ((with_reducible refine gate_dst (N := 9) rfl ?_); refine bx_ 9 (cs := #[.int .i64 0, .int .i64 0]) (t := 33) ?_; intro gb370 hg w171 hbox hb; have n0_ := Aside0.mk (blk_below (bf BK364.out) hb); have n1_ := Aside0.mk (blk_below (bf BK366.out) hb); have n2_ := Aside0.mk (blk_below (bp BK368.out) hb); have n3_ := Aside0.mk (below_step (lb HB.out) hb); have n4_ := Aside0.mk (hbox); have n5_ := Aside0.mk ((by rw [hg]; exact (below_size (lb HB.out)) : w.heap.size ≤ gb370)); have n6_ := Aside0.mk ((by rw [hg]; exact (below_size (lb HB.out)) : w.heap.size ≤ gb370)); have n7_ := Aside0.mk ((by rw [hg]; exact Nat.ne_of_lt (blk_lt (bf BK364.out)) : gb364 ≠ gb370)); have n8_ := Aside0.mk ((by rw [hg]; exact Nat.ne_of_gt (blk_lt (bf BK364.out)) : gb370 ≠ gb364)); have n9_ := Aside0.mk ((by rw [hg]; exact Nat.ne_of_lt (blk_lt (bf BK366.out)) : gb366 ≠ gb370)); have n10_ := Aside0.mk ((by rw [hg]; exact Nat.ne_of_gt (blk_lt (bf BK366.out)) : gb370 ≠ gb366)); have n11_ := Aside0.mk ((by rw [hg]; exact Nat.ne_of_lt (blk_lt (bp BK368.out)) : gb368 ≠ gb370)); have n12_ := Aside0.mk ((by rw [hg]; exact Nat.ne_of_gt (blk_lt (bp BK368.out)) : gb370 ≠ gb368)); clear BK364; clear BK366; clear BK368; clear HB; have BK364 := n0_; have BK366 := n1_; have BK368 := n2_; have HB := n3_; have BK370 := n4_; have GW370 := n5_; have GE370 := n6_; have NB364_370 := n7_; have NB370_364 := n8_; have NB366_370 := n9_; have NB370_366 := n10_; have NB368_370 := n11_; have NB370_368 := n12_; clear n0_ n1_ n2_ n3_ n4_ n5_ n6_ n7_ n8_ n9_ n10_ n11_ n12_; clear hb hbox hg; have hnb172 := NB370_364.out; have hnc172 := NB364_370.out; have hnb173 := NB370_366.out; have hnc173 := NB366_370.out; have hnb174 := NB370_368.out; have hnc174 := NB368_370.out; have hcz175_0 : w171.cell? ⟨gb370, 0, none⟩ = some (.int .i64 0) := (blk_cell BK370.out 0).trans rfl; have hcz175_1 : w171.cell? ⟨gb370, 1, none⟩ = some (.int .i64 0) := (blk_cell BK370.out 1).trans rfl; have hfz175_0 := blk_frozen BK370.out 0; have hfz175_1 := blk_frozen BK370.out 1; have hcz176_0 : w171.cell? ⟨gb368, 0, none⟩ = some (.int .i64 ((rd_T33 l0 x5_2).f0)) := (blk_cell BK368.out 0).trans rfl; have hcz176_1 : w171.cell? ⟨gb368, 1, none⟩ = some (.int .i64 ((rd_T33 l0 x5_2).f1)) := (blk_cell BK368.out 1).trans rfl; have hfz176_0 := blk_frozen BK368.out 0; have hfz176_1 := blk_frozen BK368.out 1; have hcz177_0 : w171.cell? ⟨gb366, 0, none⟩ = some (.int .i64 ((rd_T33 l0 (ji10)).f0)) := (blk_cell BK366.out 0).trans rfl; have hcz177_1 : w171.cell? ⟨gb366, 1, none⟩ = some (.int .i64 ((rd_T33 l0 (ji10)).f1)) := (blk_cell BK366.out 1).trans rfl; have hfz177_0 := blk_frozen BK366.out 0; have hfz177_1 := blk_frozen BK366.out 1) | ((with_reducible refine gate_callee (f := 87) rfl ?_); refine goesL_ (some 89) rfl rfl Try.func87 (by kernel_rfl) rfl #[.agg #[.int .i64 ((rd_T33 l0 x5_2).f0), .int .i64 ((rd_T33 l0 x5_2).f1)], .agg #[.int .i64 ((rd_T33 l0 (ji15)).f0), .int .i64 ((rd_T33 l0 (ji15)).f1)], .agg #[.int .i64 ((rd_T33 l0 (ji10)).f0), .int .i64 ((rd_T33 l0 (ji10)).f1)]] rfl (by (try simp only [List.map_toArray, List.map_cons, List.map_nil]); first | done | (simp only [hji10, hji15]; rfl) | rfl | (simp only [List.length_drop, List.length_take]; rfl)) ?_; (with_reducible refine (spec_l2On.calls ((rd_T33 l0 x5_2).f0) ((rd_T33 l0 x5_2).f1) ((rd_T33 l0 (ji15)).f0) ((rd_T33 l0 (ji15)).f1) ((rd_T33 l0 (ji10)).f0) ((rd_T33 l0 (ji10)).f1) false _ A120.out).mono ?_); rintro e w178 ⟨rfl, hb⟩; refine ⟨_, rfl, ?_⟩; have n0_ := Aside0.mk (blk_below (bf BK364.out) hb); have n1_ := Aside0.mk (blk_below (bf BK366.out) hb); have n2_ := Aside0.mk (blk_below (bf BK368.out) hb); have n3_ := Aside0.mk (blk_below (bp BK370.out) hb); have n4_ := Aside0.mk (below_step (lb HB.out) hb); clear BK364; clear BK366; clear BK368; clear BK370; clear HB; have BK364 := n0_; have BK366 := n1_; have BK368 := n2_; have BK370 := n3_; have HB := n4_; clear n0_ n1_ n2_ n3_ n4_; (try clear hb); (try clear hb2); (try clear hk); (try clear hi); have hcz179_0 : w178.cell? ⟨gb364, 0, none⟩ = some (.int .i64 ((rd_T33 l0 x4_1).f0)) := (blk_cell BK364.out 0).trans rfl; have hcz179_1 : w178.cell? ⟨gb364, 1, none⟩ = some (.int .i64 ((rd_T33 l0 x4_1).f1)) := (blk_cell BK364.out 1).trans rfl; have hfz179_0 := blk_frozen BK364.out 0; have hfz179_1 := blk_frozen BK364.out 1; have hcz180_0 : w178.cell? ⟨gb366, 0, none⟩ = some (.int .i64 ((rd_T33 l0 (ji10)).f0)) := (blk_cell BK366.out 0).trans rfl; have hcz180_1 : w178.cell? ⟨gb366, 1, none⟩ = some (.int .i64 ((rd_T33 l0 (ji10)).f1)) := (blk_cell BK366.out 1).trans rfl; have hfz180_0 := blk_frozen BK366.out 0; have hfz180_1 := blk_frozen BK366.out 1; have hcz181_0 : w178.cell? ⟨gb368, 0, none⟩ = some (.int .i64 ((rd_T33 l0 x5_2).f0)) := (blk_cell BK368.out 0).trans rfl; have hcz181_1 : w178.cell? ⟨gb368, 1, none⟩ = some (.int .i64 ((rd_T33 l0 x5_2).f1)) := (blk_cell BK368.out 1).trans rfl; have hfz181_0 := blk_frozen BK368.out 0; have hfz181_1 := blk_frozen BK368.out 1) | (go_at_call 87; (with_reducible refine (spec_l2On.calls ((rd_T33 l0 x4_1).f0) ((rd_T33 l0 x4_1).f1) ((rd_T33 l0 (ji10)).f0) ((rd_T33 l0 (ji10)).f1) ((rd_T33 l0 x5_2).f0) ((rd_T33 l0 x5_2).f1) false _ A139.out).mono ?_); rintro e w182 ⟨rfl, hb⟩; have n0_ := Aside0.mk (blk_below (bf BK364.out) hb); have n1_ := Aside0.mk (blk_below (bf BK366.out) hb); have n2_ := Aside0.mk (blk_below (bf BK368.out) hb); have n3_ := Aside0.mk (blk_below (bf BK370.out) hb); have n4_ := Aside0.mk (below_step (lb HB.out) hb); clear BK364; clear BK366; clear BK368; clear BK370; clear HB; have BK364 := n0_; have BK366 := n1_; have BK368 := n2_; have BK370 := n3_; have HB := n4_; clear n0_ n1_ n2_ n3_ n4_; (try clear hb); (try clear hb2); (try clear hk); (try clear hi)))
                     go_roundg k2
                     case measure => have := HK1.out; have := HK2.out; omega
                     case rel => exact ⟨(wrap64 (x5_2 + 1)), (by first | rfl | (simp; done) | (simp [*]; done)), H', ⟨by have := HK1.out; have := HK2.out; omega⟩, ⟨lb HB.out⟩⟩
                  ·rw [if_neg c119] at H
                   have c119b0 : ((ji15) == x4_1) = false := beq_eq_false_iff_ne.mpr c119
                   have c119b1 : ((ji15) != x4_1) = true := bne_iff_ne.mpr c119
                   replace H := Option.bind_eq_some_iff.mp H
                   obtain ⟨t375, A1830, H⟩ := H
                   replace H : (if t375 = true then (some false) else (spec_PolyValid.l1 k2 l0 (l0.length : Int) x4_1 (wrap64 (x5_2 + 1)))) = some r := H
                   have A183 := Aside0.mk A1830
                   clear A1830
                   by_cases c184 : t375 = true
                   ·subst c184
                    have H1 : (some false) = some r := by rw [if_pos rfl] at H; exact H
                    clear H
                    have H := H1
                    clear H1
                    obtain rfl := Option.some.inj H
                    have p363 : 0 ≤ (x4_1 : Int) := oa
                    have q363 : x4_1 < (l0.length : Int) := oa
                    obtain ⟨ad363, e363, hx363_0, hx363_1⟩ := at_T33 HR0.out x4_1 p363 q363
                    cases e363
                    replace hx363_0 := (HB.out.cell (World.block_lt_of_cell? w _ hx363_0)).trans hx363_0
                    replace hx363_1 := (HB.out.cell (World.block_lt_of_cell? w _ hx363_1)).trans hx363_1
                    replace p363 := eq_true p363
                    replace q363 := eq_true q363
                    go_wp2_with (first | ((with_reducible refine gate_dst (N := 6) rfl ?_); refine bx_ 6 (cs := #[.int .i64 0, .int .i64 0]) (t := 33) ?_; intro gb364 hg w185 hbox hb; have n0_ := Aside0.mk (below_step (lb HB.out) hb); have n1_ := Aside0.mk (hbox); have n2_ := Aside0.mk ((by rw [hg]; exact (below_size (lb HB.out)) : w.heap.size ≤ gb364)); have n3_ := Aside0.mk ((by rw [hg]; exact (below_size (lb HB.out)) : w.heap.size ≤ gb364)); clear HB; have HB := n0_; have BK364 := n1_; have GW364 := n2_; have GE364 := n3_; clear n0_ n1_ n2_ n3_; clear hb hbox hg; have hcz186_0 : w185.cell? ⟨gb364, 0, none⟩ = some (.int .i64 0) := (blk_cell BK364.out 0).trans rfl; have hcz186_1 : w185.cell? ⟨gb364, 1, none⟩ = some (.int .i64 0) := (blk_cell BK364.out 1).trans rfl; have hfz186_0 := blk_frozen BK364.out 0; have hfz186_1 := blk_frozen BK364.out 1; have p365 : 0 ≤ ((ji10) : Int) := oa; have q365 : (ji10) < (l0.length : Int) := oa; obtain ⟨ad365, e365, hx365_0, hx365_1⟩ := at_T33 HR0.out (ji10) p365 q365; obtain rfl : ad363 = ad365 := (by injection e365); have hn365_0 : ad363.block ≠ gb364 := Nat.ne_of_lt (cl hx365_0 GW364.out); have hn365_1 : ad363.block ≠ gb364 := Nat.ne_of_lt (cl hx365_0 GW364.out); replace hx365_0 := (HB.out.cell (World.block_lt_of_cell? w _ hx365_0)).trans hx365_0; replace hx365_1 := (HB.out.cell (World.block_lt_of_cell? w _ hx365_1)).trans hx365_1; replace hx365_0 := (cell_far (p := ⟨gb364, 0, none⟩) (nb hn365_0) (.int .i64 ((rd_T33 l0 x4_1).f0))).trans hx365_0; replace hx365_1 := (cell_far (p := ⟨gb364, 0, none⟩) (nb hn365_0) (.int .i64 ((rd_T33 l0 x4_1).f0))).trans hx365_1; replace hx365_0 := (cell_far (p := ⟨gb364, 1, none⟩) (nb hn365_1) (.int .i64 ((rd_T33 l0 x4_1).f1))).trans hx365_0; replace hx365_1 := (cell_far (p := ⟨gb364, 1, none⟩) (nb hn365_1) (.int .i64 ((rd_T33 l0 x4_1).f1))).trans hx365_1; clear hn365_0; clear hn365_1; replace p365 := eq_true p365; replace q365 := eq_true q365) | ((with_reducible refine gate_dst (N := 7) rfl ?_); refine bx_ 7 (cs := #[.int .i64 0, .int .i64 0]) (t := 33) ?_; intro gb366 hg w187 hbox hb; have n0_ := Aside0.mk (blk_below (bp BK364.out) hb); have n1_ := Aside0.mk (below_step (lb HB.out) hb); have n2_ := Aside0.mk (hbox); have n3_ := Aside0.mk ((by rw [hg]; exact (below_size (lb HB.out)) : w.heap.size ≤ gb366)); have n4_ := Aside0.mk ((by rw [hg]; exact (below_size (lb HB.out)) : w.heap.size ≤ gb366)); have n5_ := Aside0.mk ((by rw [hg]; exact Nat.ne_of_lt (blk_lt (bp BK364.out)) : gb364 ≠ gb366)); have n6_ := Aside0.mk ((by rw [hg]; exact Nat.ne_of_gt (blk_lt (bp BK364.out)) : gb366 ≠ gb364)); clear BK364; clear HB; have BK364 := n0_; have HB := n1_; have BK366 := n2_; have GW366 := n3_; have GE366 := n4_; have NB364_366 := n5_; have NB366_364 := n6_; clear n0_ n1_ n2_ n3_ n4_ n5_ n6_; clear hb hbox hg; have hnb188 := NB366_364.out; have hnc188 := NB364_366.out; have hcz189_0 : w187.cell? ⟨gb366, 0, none⟩ = some (.int .i64 0) := (blk_cell BK366.out 0).trans rfl; have hcz189_1 : w187.cell? ⟨gb366, 1, none⟩ = some (.int .i64 0) := (blk_cell BK366.out 1).trans rfl; have hfz189_0 := blk_frozen BK366.out 0; have hfz189_1 := blk_frozen BK366.out 1; have p367 : 0 ≤ (x5_2 : Int) := oa; have q367 : x5_2 < (l0.length : Int) := oa; obtain ⟨ad367, e367, hx367_0, hx367_1⟩ := at_T33 HR0.out x5_2 p367 q367; obtain rfl : ad363 = ad367 := (by injection e367); have hn367_0 : ad363.block ≠ gb366 := Nat.ne_of_lt (cl hx367_0 GW366.out); have hn367_1 : ad363.block ≠ gb366 := Nat.ne_of_lt (cl hx367_0 GW366.out); replace hx367_0 := (HB.out.cell (World.block_lt_of_cell? w _ hx367_0)).trans hx367_0; replace hx367_1 := (HB.out.cell (World.block_lt_of_cell? w _ hx367_1)).trans hx367_1; replace hx367_0 := (cell_far (p := ⟨gb366, 0, none⟩) (nb hn367_0) (.int .i64 ((rd_T33 l0 (ji10)).f0))).trans hx367_0; replace hx367_1 := (cell_far (p := ⟨gb366, 0, none⟩) (nb hn367_0) (.int .i64 ((rd_T33 l0 (ji10)).f0))).trans hx367_1; replace hx367_0 := (cell_far (p := ⟨gb366, 1, none⟩) (nb hn367_1) (.int .i64 ((rd_T33 l0 (ji10)).f1))).trans hx367_0; replace hx367_1 := (cell_far (p := ⟨gb366, 1, none⟩) (nb hn367_1) (.int .i64 ((rd_T33 l0 (ji10)).f1))).trans hx367_1; clear hn367_0; clear hn367_1; replace p367 := eq_true p367; replace q367 := eq_true q367) | ((with_reducible refine gate_dst (N := 8) rfl ?_); refine bx_ 8 (cs := #[.int .i64 0, .int .i64 0]) (t := 33) ?_; intro gb368 hg w190 hbox hb; have n0_ := Aside0.mk (blk_below (bf BK364.out) hb); have n1_ := Aside0.mk (blk_below (bp BK366.out) hb); have n2_ := Aside0.mk (below_step (lb HB.out) hb); have n3_ := Aside0.mk (hbox); have n4_ := Aside0.mk ((by rw [hg]; exact (below_size (lb HB.out)) : w.heap.size ≤ gb368)); have n5_ := Aside0.mk ((by rw [hg]; exact (below_size (lb HB.out)) : w.heap.size ≤ gb368)); have n6_ := Aside0.mk ((by rw [hg]; exact Nat.ne_of_lt (blk_lt (bf BK364.out)) : gb364 ≠ gb368)); have n7_ := Aside0.mk ((by rw [hg]; exact Nat.ne_of_gt (blk_lt (bf BK364.out)) : gb368 ≠ gb364)); have n8_ := Aside0.mk ((by rw [hg]; exact Nat.ne_of_lt (blk_lt (bp BK366.out)) : gb366 ≠ gb368)); have n9_ := Aside0.mk ((by rw [hg]; exact Nat.ne_of_gt (blk_lt (bp BK366.out)) : gb368 ≠ gb366)); clear BK364; clear BK366; clear HB; have BK364 := n0_; have BK366 := n1_; have HB := n2_; have BK368 := n3_; have GW368 := n4_; have GE368 := n5_; have NB364_368 := n6_; have NB368_364 := n7_; have NB366_368 := n8_; have NB368_366 := n9_; clear n0_ n1_ n2_ n3_ n4_ n5_ n6_ n7_ n8_ n9_; clear hb hbox hg; have hnb191 := NB368_364.out; have hnc191 := NB364_368.out; have hnb192 := NB368_366.out; have hnc192 := NB366_368.out; have hcz193_0 : w190.cell? ⟨gb368, 0, none⟩ = some (.int .i64 0) := (blk_cell BK368.out 0).trans rfl; have hcz193_1 : w190.cell? ⟨gb368, 1, none⟩ = some (.int .i64 0) := (blk_cell BK368.out 1).trans rfl; have hfz193_0 := blk_frozen BK368.out 0; have hfz193_1 := blk_frozen BK368.out 1; have p369 : 0 ≤ ((ji15) : Int) := oa; have q369 : (ji15) < (l0.length : Int) := oa; obtain ⟨ad369, e369, hx369_0, hx369_1⟩ := at_T33 HR0.out (ji15) p369 q369; obtain rfl : ad363 = ad369 := (by injection e369); have hn369_0 : ad363.block ≠ gb368 := Nat.ne_of_lt (cl hx369_0 GW368.out); have hn369_1 : ad363.block ≠ gb368 := Nat.ne_of_lt (cl hx369_0 GW368.out); replace hx369_0 := (HB.out.cell (World.block_lt_of_cell? w _ hx369_0)).trans hx369_0; replace hx369_1 := (HB.out.cell (World.block_lt_of_cell? w _ hx369_1)).trans hx369_1; replace hx369_0 := (cell_far (p := ⟨gb368, 0, none⟩) (nb hn369_0) (.int .i64 ((rd_T33 l0 x5_2).f0))).trans hx369_0; replace hx369_1 := (cell_far (p := ⟨gb368, 0, none⟩) (nb hn369_0) (.int .i64 ((rd_T33 l0 x5_2).f0))).trans hx369_1; replace hx369_0 := (cell_far (p := ⟨gb368, 1, none⟩) (nb hn369_1) (.int .i64 ((rd_T33 l0 x5_2).f1))).trans hx369_0; replace hx369_1 := (cell_far (p := ⟨gb368, 1, none⟩) (nb hn369_1) (.int .i64 ((rd_T33 l0 x5_2).f1))).trans hx369_1; clear hn369_0; clear hn369_1; replace p369 := eq_true p369; replace q369 := eq_true q369) | ((with_reducible refine gate_dst (N := 9) rfl ?_); refine bx_ 9 (cs := #[.int .i64 0, .int .i64 0]) (t := 33) ?_; intro gb370 hg w194 hbox hb; have n0_ := Aside0.mk (blk_below (bf BK364.out) hb); have n1_ := Aside0.mk (blk_below (bf BK366.out) hb); have n2_ := Aside0.mk (blk_below (bp BK368.out) hb); have n3_ := Aside0.mk (below_step (lb HB.out) hb); have n4_ := Aside0.mk (hbox); have n5_ := Aside0.mk ((by rw [hg]; exact (below_size (lb HB.out)) : w.heap.size ≤ gb370)); have n6_ := Aside0.mk ((by rw [hg]; exact (below_size (lb HB.out)) : w.heap.size ≤ gb370)); have n7_ := Aside0.mk ((by rw [hg]; exact Nat.ne_of_lt (blk_lt (bf BK364.out)) : gb364 ≠ gb370)); have n8_ := Aside0.mk ((by rw [hg]; exact Nat.ne_of_gt (blk_lt (bf BK364.out)) : gb370 ≠ gb364)); have n9_ := Aside0.mk ((by rw [hg]; exact Nat.ne_of_lt (blk_lt (bf BK366.out)) : gb366 ≠ gb370)); have n10_ := Aside0.mk ((by rw [hg]; exact Nat.ne_of_gt (blk_lt (bf BK366.out)) : gb370 ≠ gb366)); have n11_ := Aside0.mk ((by rw [hg]; exact Nat.ne_of_lt (blk_lt (bp BK368.out)) : gb368 ≠ gb370)); have n12_ := Aside0.mk ((by rw [hg]; exact Nat.ne_of_gt (blk_lt (bp BK368.out)) : gb370 ≠ gb368)); clear BK364; clear BK366; clear BK368; clear HB; have BK364 := n0_; have BK366 := n1_; have BK368 := n2_; have HB := n3_; have BK370 := n4_; have GW370 := n5_; have GE370 := n6_; have NB364_370 := n7_; have NB370_364 := n8_; have NB366_370 := n9_; have NB370_366 := n10_; have NB368_370 := n11_; have NB370_368 := n12_; clear n0_ n1_ n2_ n3_ n4_ n5_ n6_ n7_ n8_ n9_ n10_ n11_ n12_; clear hb hbox hg; have hnb195 := NB370_364.out; have hnc195 := NB364_370.out; have hnb196 := NB370_366.out; have hnc196 := NB366_370.out; have hnb197 := NB370_368.out; have hnc197 := NB368_370.out; have hcz198_0 : w194.cell? ⟨gb370, 0, none⟩ = some (.int .i64 0) := (blk_cell BK370.out 0).trans rfl; have hcz198_1 : w194.cell? ⟨gb370, 1, none⟩ = some (.int .i64 0) := (blk_cell BK370.out 1).trans rfl; have hfz198_0 := blk_frozen BK370.out 0; have hfz198_1 := blk_frozen BK370.out 1; have hcz199_0 : w194.cell? ⟨gb364, 0, none⟩ = some (.int .i64 ((rd_T33 l0 x4_1).f0)) := (blk_cell BK364.out 0).trans rfl; have hcz199_1 : w194.cell? ⟨gb364, 1, none⟩ = some (.int .i64 ((rd_T33 l0 x4_1).f1)) := (blk_cell BK364.out 1).trans rfl; have hfz199_0 := blk_frozen BK364.out 0; have hfz199_1 := blk_frozen BK364.out 1; have hcz200_0 : w194.cell? ⟨gb366, 0, none⟩ = some (.int .i64 ((rd_T33 l0 (ji10)).f0)) := (blk_cell BK366.out 0).trans rfl; have hcz200_1 : w194.cell? ⟨gb366, 1, none⟩ = some (.int .i64 ((rd_T33 l0 (ji10)).f1)) := (blk_cell BK366.out 1).trans rfl; have hfz200_0 := blk_frozen BK366.out 0; have hfz200_1 := blk_frozen BK366.out 1; have hcz201_0 : w194.cell? ⟨gb368, 0, none⟩ = some (.int .i64 ((rd_T33 l0 x5_2).f0)) := (blk_cell BK368.out 0).trans rfl; have hcz201_1 : w194.cell? ⟨gb368, 1, none⟩ = some (.int .i64 ((rd_T33 l0 x5_2).f1)) := (blk_cell BK368.out 1).trans rfl; have hfz201_0 := blk_frozen BK368.out 0; have hfz201_1 := blk_frozen BK368.out 1) | ((with_reducible refine gate_callee (f := 62) rfl ?_); refine goesL_ (some 53) rfl rfl Try.func62 (by kernel_rfl) rfl #[.agg #[.int .i64 ((rd_T33 l0 x4_1).f0), .int .i64 ((rd_T33 l0 x4_1).f1)], .agg #[.int .i64 ((rd_T33 l0 (ji10)).f0), .int .i64 ((rd_T33 l0 (ji10)).f1)], .agg #[.int .i64 ((rd_T33 l0 x5_2).f0), .int .i64 ((rd_T33 l0 x5_2).f1)], .agg #[.int .i64 ((rd_T33 l0 (ji15)).f0), .int .i64 ((rd_T33 l0 (ji15)).f1)]] rfl (by (try simp only [List.map_toArray, List.map_cons, List.map_nil]); first | done | (simp only [hji10, hji15]; rfl) | rfl | (simp only [List.length_drop, List.length_take]; rfl)) ?_; (with_reducible refine (spec_l31Meet.calls k2 ((rd_T33 l0 x4_1).f0) ((rd_T33 l0 x4_1).f1) ((rd_T33 l0 (ji10)).f0) ((rd_T33 l0 (ji10)).f1) ((rd_T33 l0 x5_2).f0) ((rd_T33 l0 x5_2).f1) ((rd_T33 l0 (ji15)).f0) ((rd_T33 l0 (ji15)).f1) true _ A183.out).mono ?_); rintro e w202 ⟨rfl, hb⟩; refine ⟨_, rfl, ?_⟩; have n0_ := Aside0.mk (blk_below (bf BK364.out) hb); have n1_ := Aside0.mk (blk_below (bf BK366.out) hb); have n2_ := Aside0.mk (blk_below (bf BK368.out) hb); have n3_ := Aside0.mk (blk_below (bp BK370.out) hb); have n4_ := Aside0.mk (below_step (lb HB.out) hb); clear BK364; clear BK366; clear BK368; clear BK370; clear HB; have BK364 := n0_; have BK366 := n1_; have BK368 := n2_; have BK370 := n3_; have HB := n4_; clear n0_ n1_ n2_ n3_ n4_; (try clear hb); (try clear hb2); (try clear hk); (try clear hi)))
                    go_ret
                    exact ⟨by first | rfl | (simp [errW_none, errW_some] <;> rfl) | (simp only [← hji10, ← hji15]; first | rfl | (simp [errW_none, errW_some] <;> rfl)) | (simp [*, errW_none, errW_some] <;> rfl), lb HB.out⟩
                   ·replace c184 := Bool.eq_false_iff.mpr c184
                    subst c184
                    have H1 : (spec_PolyValid.l1 k2 l0 (l0.length : Int) x4_1 (wrap64 (x5_2 + 1))) = some r := by rw [if_neg (show ¬ (false = true) by decide)] at H; exact H
                    clear H
                    have H := H1
                    clear H1
                    have H' := Aside0.mk H
                    clear H
                    have p363 : 0 ≤ (x4_1 : Int) := oa
                    have q363 : x4_1 < (l0.length : Int) := oa
                    obtain ⟨ad363, e363, hx363_0, hx363_1⟩ := at_T33 HR0.out x4_1 p363 q363
                    cases e363
                    replace hx363_0 := (HB.out.cell (World.block_lt_of_cell? w _ hx363_0)).trans hx363_0
                    replace hx363_1 := (HB.out.cell (World.block_lt_of_cell? w _ hx363_1)).trans hx363_1
                    replace p363 := eq_true p363
                    replace q363 := eq_true q363
                    go_wp2_with (first | ((with_reducible refine gate_dst (N := 6) rfl ?_); refine bx_ 6 (cs := #[.int .i64 0, .int .i64 0]) (t := 33) ?_; intro gb364 hg w203 hbox hb; have n0_ := Aside0.mk (below_step (lb HB.out) hb); have n1_ := Aside0.mk (hbox); have n2_ := Aside0.mk ((by rw [hg]; exact (below_size (lb HB.out)) : w.heap.size ≤ gb364)); have n3_ := Aside0.mk ((by rw [hg]; exact (below_size (lb HB.out)) : w.heap.size ≤ gb364)); clear HB; have HB := n0_; have BK364 := n1_; have GW364 := n2_; have GE364 := n3_; clear n0_ n1_ n2_ n3_; clear hb hbox hg; have hcz204_0 : w203.cell? ⟨gb364, 0, none⟩ = some (.int .i64 0) := (blk_cell BK364.out 0).trans rfl; have hcz204_1 : w203.cell? ⟨gb364, 1, none⟩ = some (.int .i64 0) := (blk_cell BK364.out 1).trans rfl; have hfz204_0 := blk_frozen BK364.out 0; have hfz204_1 := blk_frozen BK364.out 1; have p365 : 0 ≤ ((ji10) : Int) := oa; have q365 : (ji10) < (l0.length : Int) := oa; obtain ⟨ad365, e365, hx365_0, hx365_1⟩ := at_T33 HR0.out (ji10) p365 q365; obtain rfl : ad363 = ad365 := (by injection e365); have hn365_0 : ad363.block ≠ gb364 := Nat.ne_of_lt (cl hx365_0 GW364.out); have hn365_1 : ad363.block ≠ gb364 := Nat.ne_of_lt (cl hx365_0 GW364.out); replace hx365_0 := (HB.out.cell (World.block_lt_of_cell? w _ hx365_0)).trans hx365_0; replace hx365_1 := (HB.out.cell (World.block_lt_of_cell? w _ hx365_1)).trans hx365_1; replace hx365_0 := (cell_far (p := ⟨gb364, 0, none⟩) (nb hn365_0) (.int .i64 ((rd_T33 l0 x4_1).f0))).trans hx365_0; replace hx365_1 := (cell_far (p := ⟨gb364, 0, none⟩) (nb hn365_0) (.int .i64 ((rd_T33 l0 x4_1).f0))).trans hx365_1; replace hx365_0 := (cell_far (p := ⟨gb364, 1, none⟩) (nb hn365_1) (.int .i64 ((rd_T33 l0 x4_1).f1))).trans hx365_0; replace hx365_1 := (cell_far (p := ⟨gb364, 1, none⟩) (nb hn365_1) (.int .i64 ((rd_T33 l0 x4_1).f1))).trans hx365_1; clear hn365_0; clear hn365_1; replace p365 := eq_true p365; replace q365 := eq_true q365) | ((with_reducible refine gate_dst (N := 7) rfl ?_); refine bx_ 7 (cs := #[.int .i64 0, .int .i64 0]) (t := 33) ?_; intro gb366 hg w205 hbox hb; have n0_ := Aside0.mk (blk_below (bp BK364.out) hb); have n1_ := Aside0.mk (below_step (lb HB.out) hb); have n2_ := Aside0.mk (hbox); have n3_ := Aside0.mk ((by rw [hg]; exact (below_size (lb HB.out)) : w.heap.size ≤ gb366)); have n4_ := Aside0.mk ((by rw [hg]; exact (below_size (lb HB.out)) : w.heap.size ≤ gb366)); have n5_ := Aside0.mk ((by rw [hg]; exact Nat.ne_of_lt (blk_lt (bp BK364.out)) : gb364 ≠ gb366)); have n6_ := Aside0.mk ((by rw [hg]; exact Nat.ne_of_gt (blk_lt (bp BK364.out)) : gb366 ≠ gb364)); clear BK364; clear HB; have BK364 := n0_; have HB := n1_; have BK366 := n2_; have GW366 := n3_; have GE366 := n4_; have NB364_366 := n5_; have NB366_364 := n6_; clear n0_ n1_ n2_ n3_ n4_ n5_ n6_; clear hb hbox hg; have hnb206 := NB366_364.out; have hnc206 := NB364_366.out; have hcz207_0 : w205.cell? ⟨gb366, 0, none⟩ = some (.int .i64 0) := (blk_cell BK366.out 0).trans rfl; have hcz207_1 : w205.cell? ⟨gb366, 1, none⟩ = some (.int .i64 0) := (blk_cell BK366.out 1).trans rfl; have hfz207_0 := blk_frozen BK366.out 0; have hfz207_1 := blk_frozen BK366.out 1; have p367 : 0 ≤ (x5_2 : Int) := oa; have q367 : x5_2 < (l0.length : Int) := oa; obtain ⟨ad367, e367, hx367_0, hx367_1⟩ := at_T33 HR0.out x5_2 p367 q367; obtain rfl : ad363 = ad367 := (by injection e367); have hn367_0 : ad363.block ≠ gb366 := Nat.ne_of_lt (cl hx367_0 GW366.out); have hn367_1 : ad363.block ≠ gb366 := Nat.ne_of_lt (cl hx367_0 GW366.out); replace hx367_0 := (HB.out.cell (World.block_lt_of_cell? w _ hx367_0)).trans hx367_0; replace hx367_1 := (HB.out.cell (World.block_lt_of_cell? w _ hx367_1)).trans hx367_1; replace hx367_0 := (cell_far (p := ⟨gb366, 0, none⟩) (nb hn367_0) (.int .i64 ((rd_T33 l0 (ji10)).f0))).trans hx367_0; replace hx367_1 := (cell_far (p := ⟨gb366, 0, none⟩) (nb hn367_0) (.int .i64 ((rd_T33 l0 (ji10)).f0))).trans hx367_1; replace hx367_0 := (cell_far (p := ⟨gb366, 1, none⟩) (nb hn367_1) (.int .i64 ((rd_T33 l0 (ji10)).f1))).trans hx367_0; replace hx367_1 := (cell_far (p := ⟨gb366, 1, none⟩) (nb hn367_1) (.int .i64 ((rd_T33 l0 (ji10)).f1))).trans hx367_1; clear hn367_0; clear hn367_1; replace p367 := eq_true p367; replace q367 := eq_true q367) | ((with_reducible refine gate_dst (N := 8) rfl ?_); refine bx_ 8 (cs := #[.int .i64 0, .int .i64 0]) (t := 33) ?_; intro gb368 hg w208 hbox hb; have n0_ := Aside0.mk (blk_below (bf BK364.out) hb); have n1_ := Aside0.mk (blk_below (bp BK366.out) hb); have n2_ := Aside0.mk (below_step (lb HB.out) hb); have n3_ := Aside0.mk (hbox); have n4_ := Aside0.mk ((by rw [hg]; exact (below_size (lb HB.out)) : w.heap.size ≤ gb368)); have n5_ := Aside0.mk ((by rw [hg]; exact (below_size (lb HB.out)) : w.heap.size ≤ gb368)); have n6_ := Aside0.mk ((by rw [hg]; exact Nat.ne_of_lt (blk_lt (bf BK364.out)) : gb364 ≠ gb368)); have n7_ := Aside0.mk ((by rw [hg]; exact Nat.ne_of_gt (blk_lt (bf BK364.out)) : gb368 ≠ gb364)); have n8_ := Aside0.mk ((by rw [hg]; exact Nat.ne_of_lt (blk_lt (bp BK366.out)) : gb366 ≠ gb368)); have n9_ := Aside0.mk ((by rw [hg]; exact Nat.ne_of_gt (blk_lt (bp BK366.out)) : gb368 ≠ gb366)); clear BK364; clear BK366; clear HB; have BK364 := n0_; have BK366 := n1_; have HB := n2_; have BK368 := n3_; have GW368 := n4_; have GE368 := n5_; have NB364_368 := n6_; have NB368_364 := n7_; have NB366_368 := n8_; have NB368_366 := n9_; clear n0_ n1_ n2_ n3_ n4_ n5_ n6_ n7_ n8_ n9_; clear hb hbox hg; have hnb209 := NB368_364.out; have hnc209 := NB364_368.out; have hnb210 := NB368_366.out; have hnc210 := NB366_368.out; have hcz211_0 : w208.cell? ⟨gb368, 0, none⟩ = some (.int .i64 0) := (blk_cell BK368.out 0).trans rfl; have hcz211_1 : w208.cell? ⟨gb368, 1, none⟩ = some (.int .i64 0) := (blk_cell BK368.out 1).trans rfl; have hfz211_0 := blk_frozen BK368.out 0; have hfz211_1 := blk_frozen BK368.out 1; have p369 : 0 ≤ ((ji15) : Int) := oa; have q369 : (ji15) < (l0.length : Int) := oa; obtain ⟨ad369, e369, hx369_0, hx369_1⟩ := at_T33 HR0.out (ji15) p369 q369; obtain rfl : ad363 = ad369 := (by injection e369); have hn369_0 : ad363.block ≠ gb368 := Nat.ne_of_lt (cl hx369_0 GW368.out); have hn369_1 : ad363.block ≠ gb368 := Nat.ne_of_lt (cl hx369_0 GW368.out); replace hx369_0 := (HB.out.cell (World.block_lt_of_cell? w _ hx369_0)).trans hx369_0; replace hx369_1 := (HB.out.cell (World.block_lt_of_cell? w _ hx369_1)).trans hx369_1; replace hx369_0 := (cell_far (p := ⟨gb368, 0, none⟩) (nb hn369_0) (.int .i64 ((rd_T33 l0 x5_2).f0))).trans hx369_0; replace hx369_1 := (cell_far (p := ⟨gb368, 0, none⟩) (nb hn369_0) (.int .i64 ((rd_T33 l0 x5_2).f0))).trans hx369_1; replace hx369_0 := (cell_far (p := ⟨gb368, 1, none⟩) (nb hn369_1) (.int .i64 ((rd_T33 l0 x5_2).f1))).trans hx369_0; replace hx369_1 := (cell_far (p := ⟨gb368, 1, none⟩) (nb hn369_1) (.int .i64 ((rd_T33 l0 x5_2).f1))).trans hx369_1; clear hn369_0; clear hn369_1; replace p369 := eq_true p369; replace q369 := eq_true q369) | ((with_reducible refine gate_dst (N := 9) rfl ?_); refine bx_ 9 (cs := #[.int .i64 0, .int .i64 0]) (t := 33) ?_; intro gb370 hg w212 hbox hb; have n0_ := Aside0.mk (blk_below (bf BK364.out) hb); have n1_ := Aside0.mk (blk_below (bf BK366.out) hb); have n2_ := Aside0.mk (blk_below (bp BK368.out) hb); have n3_ := Aside0.mk (below_step (lb HB.out) hb); have n4_ := Aside0.mk (hbox); have n5_ := Aside0.mk ((by rw [hg]; exact (below_size (lb HB.out)) : w.heap.size ≤ gb370)); have n6_ := Aside0.mk ((by rw [hg]; exact (below_size (lb HB.out)) : w.heap.size ≤ gb370)); have n7_ := Aside0.mk ((by rw [hg]; exact Nat.ne_of_lt (blk_lt (bf BK364.out)) : gb364 ≠ gb370)); have n8_ := Aside0.mk ((by rw [hg]; exact Nat.ne_of_gt (blk_lt (bf BK364.out)) : gb370 ≠ gb364)); have n9_ := Aside0.mk ((by rw [hg]; exact Nat.ne_of_lt (blk_lt (bf BK366.out)) : gb366 ≠ gb370)); have n10_ := Aside0.mk ((by rw [hg]; exact Nat.ne_of_gt (blk_lt (bf BK366.out)) : gb370 ≠ gb366)); have n11_ := Aside0.mk ((by rw [hg]; exact Nat.ne_of_lt (blk_lt (bp BK368.out)) : gb368 ≠ gb370)); have n12_ := Aside0.mk ((by rw [hg]; exact Nat.ne_of_gt (blk_lt (bp BK368.out)) : gb370 ≠ gb368)); clear BK364; clear BK366; clear BK368; clear HB; have BK364 := n0_; have BK366 := n1_; have BK368 := n2_; have HB := n3_; have BK370 := n4_; have GW370 := n5_; have GE370 := n6_; have NB364_370 := n7_; have NB370_364 := n8_; have NB366_370 := n9_; have NB370_366 := n10_; have NB368_370 := n11_; have NB370_368 := n12_; clear n0_ n1_ n2_ n3_ n4_ n5_ n6_ n7_ n8_ n9_ n10_ n11_ n12_; clear hb hbox hg; have hnb213 := NB370_364.out; have hnc213 := NB364_370.out; have hnb214 := NB370_366.out; have hnc214 := NB366_370.out; have hnb215 := NB370_368.out; have hnc215 := NB368_370.out; have hcz216_0 : w212.cell? ⟨gb370, 0, none⟩ = some (.int .i64 0) := (blk_cell BK370.out 0).trans rfl; have hcz216_1 : w212.cell? ⟨gb370, 1, none⟩ = some (.int .i64 0) := (blk_cell BK370.out 1).trans rfl; have hfz216_0 := blk_frozen BK370.out 0; have hfz216_1 := blk_frozen BK370.out 1; have hcz217_0 : w212.cell? ⟨gb364, 0, none⟩ = some (.int .i64 ((rd_T33 l0 x4_1).f0)) := (blk_cell BK364.out 0).trans rfl; have hcz217_1 : w212.cell? ⟨gb364, 1, none⟩ = some (.int .i64 ((rd_T33 l0 x4_1).f1)) := (blk_cell BK364.out 1).trans rfl; have hfz217_0 := blk_frozen BK364.out 0; have hfz217_1 := blk_frozen BK364.out 1; have hcz218_0 : w212.cell? ⟨gb366, 0, none⟩ = some (.int .i64 ((rd_T33 l0 (ji10)).f0)) := (blk_cell BK366.out 0).trans rfl; have hcz218_1 : w212.cell? ⟨gb366, 1, none⟩ = some (.int .i64 ((rd_T33 l0 (ji10)).f1)) := (blk_cell BK366.out 1).trans rfl; have hfz218_0 := blk_frozen BK366.out 0; have hfz218_1 := blk_frozen BK366.out 1; have hcz219_0 : w212.cell? ⟨gb368, 0, none⟩ = some (.int .i64 ((rd_T33 l0 x5_2).f0)) := (blk_cell BK368.out 0).trans rfl; have hcz219_1 : w212.cell? ⟨gb368, 1, none⟩ = some (.int .i64 ((rd_T33 l0 x5_2).f1)) := (blk_cell BK368.out 1).trans rfl; have hfz219_0 := blk_frozen BK368.out 0; have hfz219_1 := blk_frozen BK368.out 1) | ((with_reducible refine gate_callee (f := 62) rfl ?_); refine goesL_ (some 53) rfl rfl Try.func62 (by kernel_rfl) rfl #[.agg #[.int .i64 ((rd_T33 l0 x4_1).f0), .int .i64 ((rd_T33 l0 x4_1).f1)], .agg #[.int .i64 ((rd_T33 l0 (ji10)).f0), .int .i64 ((rd_T33 l0 (ji10)).f1)], .agg #[.int .i64 ((rd_T33 l0 x5_2).f0), .int .i64 ((rd_T33 l0 x5_2).f1)], .agg #[.int .i64 ((rd_T33 l0 (ji15)).f0), .int .i64 ((rd_T33 l0 (ji15)).f1)]] rfl (by (try simp only [List.map_toArray, List.map_cons, List.map_nil]); first | done | (simp only [hji10, hji15]; rfl) | rfl | (simp only [List.length_drop, List.length_take]; rfl)) ?_; (with_reducible refine (spec_l31Meet.calls k2 ((rd_T33 l0 x4_1).f0) ((rd_T33 l0 x4_1).f1) ((rd_T33 l0 (ji10)).f0) ((rd_T33 l0 (ji10)).f1) ((rd_T33 l0 x5_2).f0) ((rd_T33 l0 x5_2).f1) ((rd_T33 l0 (ji15)).f0) ((rd_T33 l0 (ji15)).f1) false _ A183.out).mono ?_); rintro e w220 ⟨rfl, hb⟩; refine ⟨_, rfl, ?_⟩; have n0_ := Aside0.mk (blk_below (bf BK364.out) hb); have n1_ := Aside0.mk (blk_below (bf BK366.out) hb); have n2_ := Aside0.mk (blk_below (bf BK368.out) hb); have n3_ := Aside0.mk (blk_below (bp BK370.out) hb); have n4_ := Aside0.mk (below_step (lb HB.out) hb); clear BK364; clear BK366; clear BK368; clear BK370; clear HB; have BK364 := n0_; have BK366 := n1_; have BK368 := n2_; have BK370 := n3_; have HB := n4_; clear n0_ n1_ n2_ n3_ n4_; (try clear hb); (try clear hb2); (try clear hk); (try clear hi)))
                    go_roundg k2
                    case measure => have := HK1.out; have := HK2.out; omega
                    case rel => exact ⟨(wrap64 (x5_2 + 1)), (by first | rfl | (simp; done) | (simp [*]; done)), H', ⟨by have := HK1.out; have := HK2.out; omega⟩, ⟨lb HB.out⟩⟩
                ·rw [if_neg c17] at H
                 exact absurd H (by simp)
               ·rw [if_neg c16] at H
                exact absurd H (by simp)
              ·rw [if_neg c14] at H
               exact absurd H (by simp)
             ·rw [if_neg c13] at H
              exact absurd H (by simp)
            ·rw [if_neg c12] at H
             exact absurd H (by simp)
           ·rw [if_neg c11] at H
            exact absurd H (by simp)
         ·rw [if_neg c8] at H
          exact absurd H (by simp)
        ·rw [if_neg c7] at H
         exact absurd H (by simp)
       ·rw [if_neg c6] at H
        have c6b0 : decide (x5_2 < (l0.length : Int)) = false := decide_eq_false c6
        clear c6
        have H' := Aside0.mk H
        clear H
        go_wp2
        go_roundg k2
        case measure => have := HK1.out; have := HK2.out; omega
        case rel => exact ⟨(wrap64 (x4_1 + 1)), (by first | rfl | (simp; done) | (simp [*]; done)), H', ⟨by have := HK1.out; have := HK2.out; omega⟩, ⟨lb HB.out⟩⟩
    ·rw [if_neg c5] at H
     have c5b0 : decide (x4_1 < (l0.length : Int)) = false := decide_eq_false c5
     clear c5
     obtain rfl := Option.some.inj H
     go_wp2
     go_ret
     exact ⟨er, lb HB.out⟩
 ·replace c3 := Bool.eq_false_iff.mpr c3
  subst c3
  have H1 : (some false) = some r := by rw [if_neg (show ¬ (false = true) by decide)] at H; exact H
  clear H
  have H := H1
  clear H1
  obtain rfl := Option.some.inj H
  go_enter Try.func66, Try.ntmps66
  go_wp2_with (first | ((with_reducible refine gate_callee (f := 88) rfl ?_); refine goesL_ (some 11) rfl rfl Try.func88 (by kernel_rfl) rfl #[.slice A0 l0.length c0] rfl al ?_; (with_reducible refine (spec_l31Points.calls k _ _ l0 false _ ?side1 ?side2 A2.out).mono ?_); (case side1 => repeat (first | exact HR0.out | (with_reducible refine Kd.C_alloc ?_ _) | (with_reducible refine Kd.C_drewN ?_ _) | (with_reducible refine Kd.C_drew ?_))); (case side2 => exact HC0.out); rintro e w221 ⟨rfl, hb⟩; refine ⟨_, rfl, ?_⟩; have n0_ := Aside0.mk (below_step (lb HB.out) hb); clear HB; have HB := n0_; clear n0_; (try clear hb); (try clear hb2); (try clear hk); (try clear hi)))
  go_ret
  exact ⟨er, lb HB.out⟩
def spec_ParcelValid.f (k : Nat) (l0 : List (S33)) : Option (Bool) := (spec_PolyValid.f k l0).bind fun t376 => (if t376 = true then ((spec_l31Area.f k l0).bind fun t377 => (some (decide (t377 > 0)))) else (some false))
theorem spec_ParcelValid.mono : ∀ a0 k, LeO (spec_ParcelValid.f k a0) (spec_ParcelValid.f (k + 1) a0) := by
 intro a0 k
 unfold spec_ParcelValid.f
 repeat' first
   | (with_reducible exact spec_PolyValid.mono _ _)
   | (with_reducible exact spec_l31Area.mono _ _)
   | (with_reducible exact LeO.refl _)
   | (with_reducible exact LeO.none _)
   | (with_reducible refine LeO.ite ?_ ?_)
   | (with_reducible refine LeO.bind ?_ (fun _ => ?_))
   | exact spec_PolyValid.mono _ _
   | exact spec_l31Area.mono _ _
   | exact LeO.none _
   | refine LeO.ite ?_ ?_
   | refine LeO.bind ?_ (fun _ => ?_)
set_option maxHeartbeats 8000000 in
set_option maxRecDepth 100000 in
theorem spec_ParcelValid.calls (k : Nat) (A0 : Option Addr) (c0 : Nat) (l0 : List (S33)) (r : Bool) (w : World) (hr0 : Kd.C k33 w A0 l0.length l0) (hc0 : l0.length ≤ c0) (h : spec_ParcelValid.f k l0 = some r) :
  Calls Try.prog 35 #[.slice A0 l0.length c0] w fun e w' => e = .returned (.bool r) ∧ Below w.heap.size w w' := by
 have HR0 := Aside0.mk hr0
 have HC0 := Aside0.mk hc0
 clear hr0 hc0
 have HB := Aside0.mk (Below.refl w.heap.size w)
 have H : ((spec_PolyValid.f k l0).bind fun t376 => (if t376 = true then ((spec_l31Area.f k l0).bind fun t377 => (some (decide (t377 > 0)))) else (some false))) = some r := h
 clear h
 replace H := Option.bind_eq_some_iff.mp H
 obtain ⟨t376, A20, H⟩ := H
 replace H : (if t376 = true then ((spec_l31Area.f k l0).bind fun t377 => (some (decide (t377 > 0)))) else (some false)) = some r := H
 have A2 := Aside0.mk A20
 clear A20
 by_cases c3 : t376 = true
 ·subst c3
  have H1 : ((spec_l31Area.f k l0).bind fun t377 => (some (decide (t377 > 0)))) = some r := by rw [if_pos rfl] at H; exact H
  clear H
  have H := H1
  clear H1
  replace H := Option.bind_eq_some_iff.mp H
  obtain ⟨t377, A40, H⟩ := H
  replace H : (some (decide (t377 > 0))) = some r := H
  have A4 := Aside0.mk A40
  clear A40
  obtain rfl := Option.some.inj H
  go_enter Try.func35, Try.ntmps35
  go_wp2_with (first | ((with_reducible refine gate_callee (f := 66) rfl ?_); refine goesL_ (some 4) rfl rfl Try.func66 (by kernel_rfl) rfl #[.slice A0 l0.length c0] rfl al ?_; (with_reducible refine (spec_PolyValid.calls k _ _ l0 true _ ?side1 ?side2 A2.out).mono ?_); (case side1 => repeat (first | exact HR0.out | (with_reducible refine Kd.C_alloc ?_ _) | (with_reducible refine Kd.C_drewN ?_ _) | (with_reducible refine Kd.C_drew ?_))); (case side2 => exact HC0.out); rintro e w5 ⟨rfl, hb⟩; refine ⟨_, rfl, ?_⟩; have n0_ := Aside0.mk (below_step (lb HB.out) hb); clear HB; have HB := n0_; clear n0_; (try clear hb); (try clear hb2); (try clear hk); (try clear hi)) | (go_at_call 50; (with_reducible refine (spec_l31Area.calls k _ _ l0 t377 _ ?side1 ?side2 A4.out).mono ?_); (case side1 => exact cm (Kd.C_below HR0.out HB.out)); (case side2 => exact HC0.out); rintro e w6 ⟨rfl, hb⟩; have n0_ := Aside0.mk (below_step (lb HB.out) hb); clear HB; have HB := n0_; clear n0_; (try clear hb); (try clear hb2); (try clear hk); (try clear hi)))
  go_ret
  exact ⟨er, lb HB.out⟩
 ·replace c3 := Bool.eq_false_iff.mpr c3
  subst c3
  have H1 : (some false) = some r := by rw [if_neg (show ¬ (false = true) by decide)] at H; exact H
  clear H
  have H := H1
  clear H1
  obtain rfl := Option.some.inj H
  go_enter Try.func35, Try.ntmps35
  go_wp2_with (first | ((with_reducible refine gate_callee (f := 66) rfl ?_); refine goesL_ (some 4) rfl rfl Try.func66 (by kernel_rfl) rfl #[.slice A0 l0.length c0] rfl al ?_; (with_reducible refine (spec_PolyValid.calls k _ _ l0 false _ ?side1 ?side2 A2.out).mono ?_); (case side1 => repeat (first | exact HR0.out | (with_reducible refine Kd.C_alloc ?_ _) | (with_reducible refine Kd.C_drewN ?_ _) | (with_reducible refine Kd.C_drew ?_))); (case side2 => exact HC0.out); rintro e w7 ⟨rfl, hb⟩; refine ⟨_, rfl, ?_⟩; have n0_ := Aside0.mk (below_step (lb HB.out) hb); clear HB; have HB := n0_; clear n0_; (try clear hb); (try clear hb2); (try clear hk); (try clear hi)))
  go_ret
  exact ⟨er, lb HB.out⟩
end Go.Proofs.Ytfonigbkoligmaa.P
-- squeezed

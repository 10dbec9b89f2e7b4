import Derived.Test.YtppfoebalhdibaaPx0
import Derived.Test.YtppfoebalhdibaaPx1
import Derived.Test.YtppfoebalhdibaaPx2
namespace Go.Proofs.Ytppfoebalhdibaa.P
open Go.RowKit Go.Proofs.YtppfoebalhdibaaW.PrintWords Go.Proofs.YtppfoebalhdibaaW.PrintLast Go.Proofs.YtppfoebalhdibaaW.PrintMore
attribute [local go_sem] max2_int min2_int max_two min_two max_three min_three max_four min_four
set_option linter.unusedVariables false
set_option linter.unusedSimpArgs false
def spec_CrossAt.f (k : Nat) (a0_0 : Int) (a0_1 : Int) (a1_0 : Int) (a1_1 : Int) (a2_0 : Int) (a2_1 : Int) (a3_0 : Int) (a3_1 : Int) : Option (Int × Int × Int × Int × Bool) := (spec_l34Ok.f a0_0 a0_1 a1_0 a1_1 a2_0 a2_1 a3_0 a3_1).bind fun t149 => (if t149 = true then ((spec_l34Parts.f a0_0 a0_1 a1_0 a1_1 a2_0 a2_1 a3_0 a3_1).bind fun bt150 => (if bt150.2 = 0 then (some (0, 0, 0, 0, false)) else ((spec_QuoOf.f k (wrap64 ((wrap64 (a0_0 * bt150.2)) + (wrap64 (bt150.1 * (wrap64 (a1_0 - a0_0)))))) bt150.2).bind fun bt152 => ((spec_QuoOf.f k (wrap64 ((wrap64 (a0_1 * bt150.2)) + (wrap64 (bt150.1 * (wrap64 (a1_1 - a0_1)))))) bt150.2).bind fun bt156 => (if bt152.2.2 = true then (if bt156.2.2 = true then (some (bt152.1, bt152.2.1, bt156.1, bt156.2.1, true)) else (some (0, 0, 0, 0, false))) else (some (0, 0, 0, 0, false))))))) else (some (0, 0, 0, 0, false)))
theorem spec_CrossAt.mono : ∀ a0 a1 a2 a3 a4 a5 a6 a7 k, LeO (spec_CrossAt.f k a0 a1 a2 a3 a4 a5 a6 a7) (spec_CrossAt.f (k + 1) a0 a1 a2 a3 a4 a5 a6 a7) := by
 intro a0 a1 a2 a3 a4 a5 a6 a7 k
 unfold spec_CrossAt.f
 repeat' first
   | (with_reducible exact spec_QuoOf.mono _ _ _)
   | (with_reducible exact LeO.refl _)
   | (with_reducible exact LeO.none _)
   | (with_reducible refine LeO.ite ?_ ?_)
   | (with_reducible refine LeO.bind ?_ (fun _ => ?_))
   | exact spec_QuoOf.mono _ _ _
   | exact LeO.none _
   | refine LeO.ite ?_ ?_
   | refine LeO.bind ?_ (fun _ => ?_)
set_option maxHeartbeats 8000000 in
set_option maxRecDepth 100000 in
theorem spec_CrossAt.calls (k : Nat) (a0_0 : Int) (a0_1 : Int) (a1_0 : Int) (a1_1 : Int) (a2_0 : Int) (a2_1 : Int) (a3_0 : Int) (a3_1 : Int) (r1 : Int) (r2 : Int) (r3 : Int) (r4 : Int) (r5 : Bool) (w : World) (h : spec_CrossAt.f k a0_0 a0_1 a1_0 a1_1 a2_0 a2_1 a3_0 a3_1 = some (r1, r2, r3, r4, r5)) :
  Calls Try.prog 4 #[.agg #[.int .i64 a0_0, .int .i64 a0_1], .agg #[.int .i64 a1_0, .int .i64 a1_1], .agg #[.int .i64 a2_0, .int .i64 a2_1], .agg #[.int .i64 a3_0, .int .i64 a3_1]] w fun e w' => e = .returned (.tuple #[.agg #[.int .i64 r1, .int .i64 r2], .agg #[.int .i64 r3, .int .i64 r4], .bool r5]) ∧ Below w.heap.size w w' := by
 have hu28 := Try.underlying28
 have hu25 := Try.underlying25
 have HB := Aside0.mk (Below.refl w.heap.size w)
 have H : ((spec_l34Ok.f a0_0 a0_1 a1_0 a1_1 a2_0 a2_1 a3_0 a3_1).bind fun t149 => (if t149 = true then ((spec_l34Parts.f a0_0 a0_1 a1_0 a1_1 a2_0 a2_1 a3_0 a3_1).bind fun bt150 => (if bt150.2 = 0 then (some (0, 0, 0, 0, false)) else ((spec_QuoOf.f k (wrap64 ((wrap64 (a0_0 * bt150.2)) + (wrap64 (bt150.1 * (wrap64 (a1_0 - a0_0)))))) bt150.2).bind fun bt152 => ((spec_QuoOf.f k (wrap64 ((wrap64 (a0_1 * bt150.2)) + (wrap64 (bt150.1 * (wrap64 (a1_1 - a0_1)))))) bt150.2).bind fun bt156 => (if bt152.2.2 = true then (if bt156.2.2 = true then (some (bt152.1, bt152.2.1, bt156.1, bt156.2.1, true)) else (some (0, 0, 0, 0, false))) else (some (0, 0, 0, 0, false))))))) else (some (0, 0, 0, 0, false)))) = some (r1, r2, r3, r4, r5) := h
 clear h
 replace H := Option.bind_eq_some_iff.mp H
 obtain ⟨t149, A50, H⟩ := H
 replace H : (if t149 = true then ((spec_l34Parts.f a0_0 a0_1 a1_0 a1_1 a2_0 a2_1 a3_0 a3_1).bind fun bt150 => (if bt150.2 = 0 then (some (0, 0, 0, 0, false)) else ((spec_QuoOf.f k (wrap64 ((wrap64 (a0_0 * bt150.2)) + (wrap64 (bt150.1 * (wrap64 (a1_0 - a0_0)))))) bt150.2).bind fun bt152 => ((spec_QuoOf.f k (wrap64 ((wrap64 (a0_1 * bt150.2)) + (wrap64 (bt150.1 * (wrap64 (a1_1 - a0_1)))))) bt150.2).bind fun bt156 => (if bt152.2.2 = true then (if bt156.2.2 = true then (some (bt152.1, bt152.2.1, bt156.1, bt156.2.1, true)) else (some (0, 0, 0, 0, false))) else (some (0, 0, 0, 0, false))))))) else (some (0, 0, 0, 0, false))) = some (r1, r2, r3, r4, r5) := H
 have A5 := Aside0.mk A50
 clear A50
 by_cases c6 : t149 = true
 ·subst c6
  have H1 : ((spec_l34Parts.f a0_0 a0_1 a1_0 a1_1 a2_0 a2_1 a3_0 a3_1).bind fun bt150 => (if bt150.2 = 0 then (some (0, 0, 0, 0, false)) else ((spec_QuoOf.f k (wrap64 ((wrap64 (a0_0 * bt150.2)) + (wrap64 (bt150.1 * (wrap64 (a1_0 - a0_0)))))) bt150.2).bind fun bt152 => ((spec_QuoOf.f k (wrap64 ((wrap64 (a0_1 * bt150.2)) + (wrap64 (bt150.1 * (wrap64 (a1_1 - a0_1)))))) bt150.2).bind fun bt156 => (if bt152.2.2 = true then (if bt156.2.2 = true then (some (bt152.1, bt152.2.1, bt156.1, bt156.2.1, true)) else (some (0, 0, 0, 0, false))) else (some (0, 0, 0, 0, false))))))) = some (r1, r2, r3, r4, r5) := by rw [if_pos rfl] at H; exact H
  clear H
  have H := H1
  clear H1
  replace H := Option.bind_eq_some_iff.mp H
  obtain ⟨⟨t150, t151⟩, A70, H⟩ := H
  replace H : (if t151 = 0 then (some (0, 0, 0, 0, false)) else ((spec_QuoOf.f k (wrap64 ((wrap64 (a0_0 * t151)) + (wrap64 (t150 * (wrap64 (a1_0 - a0_0)))))) t151).bind fun bt152 => ((spec_QuoOf.f k (wrap64 ((wrap64 (a0_1 * t151)) + (wrap64 (t150 * (wrap64 (a1_1 - a0_1)))))) t151).bind fun bt156 => (if bt152.2.2 = true then (if bt156.2.2 = true then (some (bt152.1, bt152.2.1, bt156.1, bt156.2.1, true)) else (some (0, 0, 0, 0, false))) else (some (0, 0, 0, 0, false)))))) = some (r1, r2, r3, r4, r5) := H
  have A7 := Aside0.mk A70
  clear A70
  by_cases c8 : t151 = 0
  ·rw [if_pos c8] at H
   have c8b0 : (t151 == 0) = true := beq_iff_eq.mpr c8
   have c8b1 : (t151 != 0) = false := bne_eq_false_iff_eq.mpr c8
   clear c8
   simp only [Option.some.injEq, Prod.mk.injEq] at H
   obtain ⟨rfl, rfl, rfl, rfl, rfl⟩ := H
   go_enter Try.func4, Try.ntmps4
   go_wp2_with (first | ((with_reducible refine gate_dst (N := 4) rfl ?_); refine bx_ 4 (cs := #[.int .i64 a0_0, .int .i64 a0_1]) (t := 28) ?_; intro gb143 hg w9 hbox hb; have n0_ := Aside0.mk (below_step (lb HB.out) hb); have n1_ := Aside0.mk (hbox); have n2_ := Aside0.mk ((by rw [hg]; exact (below_size (lb HB.out)) : w.heap.size ≤ gb143)); have n3_ := Aside0.mk ((by rw [hg]; exact (below_size (lb HB.out)) : w.heap.size ≤ gb143)); clear HB; have HB := n0_; have BK143 := n1_; have GW143 := n2_; have GE143 := n3_; clear n0_ n1_ n2_ n3_; clear hb hbox hg) | ((with_reducible refine gate_dst (N := 5) rfl ?_); refine bx_ 5 (cs := #[.int .i64 a1_0, .int .i64 a1_1]) (t := 28) ?_; intro gb144 hg w10 hbox hb; have n0_ := Aside0.mk (blk_below (bf BK143.out) hb); have n1_ := Aside0.mk (below_step (lb HB.out) hb); have n2_ := Aside0.mk (hbox); have n3_ := Aside0.mk ((by rw [hg]; exact (below_size (lb HB.out)) : w.heap.size ≤ gb144)); have n4_ := Aside0.mk ((by rw [hg]; exact (below_size (lb HB.out)) : w.heap.size ≤ gb144)); have n5_ := Aside0.mk ((by rw [hg]; exact Nat.ne_of_lt (blk_lt (bf BK143.out)) : gb143 ≠ gb144)); have n6_ := Aside0.mk ((by rw [hg]; exact Nat.ne_of_gt (blk_lt (bf BK143.out)) : gb144 ≠ gb143)); clear BK143; clear HB; have BK143 := n0_; have HB := n1_; have BK144 := n2_; have GW144 := n3_; have GE144 := n4_; have NB143_144 := n5_; have NB144_143 := n6_; clear n0_ n1_ n2_ n3_ n4_ n5_ n6_; clear hb hbox hg) | ((with_reducible refine gate_dst (N := 6) rfl ?_); refine bx_ 6 (cs := #[.int .i64 a2_0, .int .i64 a2_1]) (t := 28) ?_; intro gb145 hg w11 hbox hb; have n0_ := Aside0.mk (blk_below (bf BK143.out) hb); have n1_ := Aside0.mk (blk_below (bf BK144.out) hb); have n2_ := Aside0.mk (below_step (lb HB.out) hb); have n3_ := Aside0.mk (hbox); have n4_ := Aside0.mk ((by rw [hg]; exact (below_size (lb HB.out)) : w.heap.size ≤ gb145)); have n5_ := Aside0.mk ((by rw [hg]; exact (below_size (lb HB.out)) : w.heap.size ≤ gb145)); have n6_ := Aside0.mk ((by rw [hg]; exact Nat.ne_of_lt (blk_lt (bf BK143.out)) : gb143 ≠ gb145)); have n7_ := Aside0.mk ((by rw [hg]; exact Nat.ne_of_gt (blk_lt (bf BK143.out)) : gb145 ≠ gb143)); have n8_ := Aside0.mk ((by rw [hg]; exact Nat.ne_of_lt (blk_lt (bf BK144.out)) : gb144 ≠ gb145)); have n9_ := Aside0.mk ((by rw [hg]; exact Nat.ne_of_gt (blk_lt (bf BK144.out)) : gb145 ≠ gb144)); clear BK143; clear BK144; clear HB; have BK143 := n0_; have BK144 := n1_; have HB := n2_; have BK145 := n3_; have GW145 := n4_; have GE145 := n5_; have NB143_145 := n6_; have NB145_143 := n7_; have NB144_145 := n8_; have NB145_144 := n9_; clear n0_ n1_ n2_ n3_ n4_ n5_ n6_ n7_ n8_ n9_; clear hb hbox hg) | ((with_reducible refine gate_dst (N := 7) rfl ?_); refine bx_ 7 (cs := #[.int .i64 a3_0, .int .i64 a3_1]) (t := 28) ?_; intro gb146 hg w12 hbox hb; have n0_ := Aside0.mk (blk_below (bf BK143.out) hb); have n1_ := Aside0.mk (blk_below (bf BK144.out) hb); have n2_ := Aside0.mk (blk_below (bf BK145.out) hb); have n3_ := Aside0.mk (below_step (lb HB.out) hb); have n4_ := Aside0.mk (hbox); have n5_ := Aside0.mk ((by rw [hg]; exact (below_size (lb HB.out)) : w.heap.size ≤ gb146)); have n6_ := Aside0.mk ((by rw [hg]; exact (below_size (lb HB.out)) : w.heap.size ≤ gb146)); have n7_ := Aside0.mk ((by rw [hg]; exact Nat.ne_of_lt (blk_lt (bf BK143.out)) : gb143 ≠ gb146)); have n8_ := Aside0.mk ((by rw [hg]; exact Nat.ne_of_gt (blk_lt (bf BK143.out)) : gb146 ≠ gb143)); have n9_ := Aside0.mk ((by rw [hg]; exact Nat.ne_of_lt (blk_lt (bf BK144.out)) : gb144 ≠ gb146)); have n10_ := Aside0.mk ((by rw [hg]; exact Nat.ne_of_gt (blk_lt (bf BK144.out)) : gb146 ≠ gb144)); have n11_ := Aside0.mk ((by rw [hg]; exact Nat.ne_of_lt (blk_lt (bf BK145.out)) : gb145 ≠ gb146)); have n12_ := Aside0.mk ((by rw [hg]; exact Nat.ne_of_gt (blk_lt (bf BK145.out)) : gb146 ≠ gb145)); clear BK143; clear BK144; clear BK145; clear HB; have BK143 := n0_; have BK144 := n1_; have BK145 := n2_; have HB := n3_; have BK146 := n4_; have GW146 := n5_; have GE146 := n6_; have NB143_146 := n7_; have NB146_143 := n8_; have NB144_146 := n9_; have NB146_144 := n10_; have NB145_146 := n11_; have NB146_145 := n12_; clear n0_ n1_ n2_ n3_ n4_ n5_ n6_ n7_ n8_ n9_ n10_ n11_ n12_; clear hb hbox hg) | ((with_reducible refine gate_dst (N := 8) rfl ?_); refine bx_ 8 (cs := #[.int .i64 0, .int .i64 0]) (t := 25) ?_; intro gb147 hg w13 hbox hb; have n0_ := Aside0.mk (blk_below (bf BK143.out) hb); have n1_ := Aside0.mk (blk_below (bf BK144.out) hb); have n2_ := Aside0.mk (blk_below (bf BK145.out) hb); have n3_ := Aside0.mk (blk_below (bf BK146.out) hb); have n4_ := Aside0.mk (below_step (lb HB.out) hb); have n5_ := Aside0.mk (hbox); have n6_ := Aside0.mk ((by rw [hg]; exact (below_size (lb HB.out)) : w.heap.size ≤ gb147)); have n7_ := Aside0.mk ((by rw [hg]; exact (below_size (lb HB.out)) : w.heap.size ≤ gb147)); have n8_ := Aside0.mk ((by rw [hg]; exact Nat.ne_of_lt (blk_lt (bf BK143.out)) : gb143 ≠ gb147)); have n9_ := Aside0.mk ((by rw [hg]; exact Nat.ne_of_gt (blk_lt (bf BK143.out)) : gb147 ≠ gb143)); have n10_ := Aside0.mk ((by rw [hg]; exact Nat.ne_of_lt (blk_lt (bf BK144.out)) : gb144 ≠ gb147)); have n11_ := Aside0.mk ((by rw [hg]; exact Nat.ne_of_gt (blk_lt (bf BK144.out)) : gb147 ≠ gb144)); have n12_ := Aside0.mk ((by rw [hg]; exact Nat.ne_of_lt (blk_lt (bf BK145.out)) : gb145 ≠ gb147)); have n13_ := Aside0.mk ((by rw [hg]; exact Nat.ne_of_gt (blk_lt (bf BK145.out)) : gb147 ≠ gb145)); have n14_ := Aside0.mk ((by rw [hg]; exact Nat.ne_of_lt (blk_lt (bf BK146.out)) : gb146 ≠ gb147)); have n15_ := Aside0.mk ((by rw [hg]; exact Nat.ne_of_gt (blk_lt (bf BK146.out)) : gb147 ≠ gb146)); clear BK143; clear BK144; clear BK145; clear BK146; clear HB; have BK143 := n0_; have BK144 := n1_; have BK145 := n2_; have BK146 := n3_; have HB := n4_; have BK147 := n5_; have GW147 := n6_; have GE147 := n7_; have NB143_147 := n8_; have NB147_143 := n9_; have NB144_147 := n10_; have NB147_144 := n11_; have NB145_147 := n12_; have NB147_145 := n13_; have NB146_147 := n14_; have NB147_146 := n15_; clear n0_ n1_ n2_ n3_ n4_ n5_ n6_ n7_ n8_ n9_ n10_ n11_ n12_ n13_ n14_ n15_; clear hb hbox hg) | ((with_reducible refine gate_dst (N := 9) rfl ?_); refine bx_ 9 (cs := #[.int .i64 0, .int .i64 0]) (t := 25) ?_; intro gb148 hg w14 hbox hb; have n0_ := Aside0.mk (blk_below (bf BK143.out) hb); have n1_ := Aside0.mk (blk_below (bf BK144.out) hb); have n2_ := Aside0.mk (blk_below (bf BK145.out) hb); have n3_ := Aside0.mk (blk_below (bf BK146.out) hb); have n4_ := Aside0.mk (blk_below (bf BK147.out) hb); have n5_ := Aside0.mk (below_step (lb HB.out) hb); have n6_ := Aside0.mk (hbox); have n7_ := Aside0.mk ((by rw [hg]; exact (below_size (lb HB.out)) : w.heap.size ≤ gb148)); have n8_ := Aside0.mk ((by rw [hg]; exact (below_size (lb HB.out)) : w.heap.size ≤ gb148)); have n9_ := Aside0.mk ((by rw [hg]; exact Nat.ne_of_lt (blk_lt (bf BK143.out)) : gb143 ≠ gb148)); have n10_ := Aside0.mk ((by rw [hg]; exact Nat.ne_of_gt (blk_lt (bf BK143.out)) : gb148 ≠ gb143)); have n11_ := Aside0.mk ((by rw [hg]; exact Nat.ne_of_lt (blk_lt (bf BK144.out)) : gb144 ≠ gb148)); have n12_ := Aside0.mk ((by rw [hg]; exact Nat.ne_of_gt (blk_lt (bf BK144.out)) : gb148 ≠ gb144)); have n13_ := Aside0.mk ((by rw [hg]; exact Nat.ne_of_lt (blk_lt (bf BK145.out)) : gb145 ≠ gb148)); have n14_ := Aside0.mk ((by rw [hg]; exact Nat.ne_of_gt (blk_lt (bf BK145.out)) : gb148 ≠ gb145)); have n15_ := Aside0.mk ((by rw [hg]; exact Nat.ne_of_lt (blk_lt (bf BK146.out)) : gb146 ≠ gb148)); have n16_ := Aside0.mk ((by rw [hg]; exact Nat.ne_of_gt (blk_lt (bf BK146.out)) : gb148 ≠ gb146)); have n17_ := Aside0.mk ((by rw [hg]; exact Nat.ne_of_lt (blk_lt (bf BK147.out)) : gb147 ≠ gb148)); have n18_ := Aside0.mk ((by rw [hg]; exact Nat.ne_of_gt (blk_lt (bf BK147.out)) : gb148 ≠ gb147)); clear BK143; clear BK144; clear BK145; clear BK146; clear BK147; clear HB; have BK143 := n0_; have BK144 := n1_; have BK145 := n2_; have BK146 := n3_; have BK147 := n4_; have HB := n5_; have BK148 := n6_; have GW148 := n7_; have GE148 := n8_; have NB143_148 := n9_; have NB148_143 := n10_; have NB144_148 := n11_; have NB148_144 := n12_; have NB145_148 := n13_; have NB148_145 := n14_; have NB146_148 := n15_; have NB148_146 := n16_; have NB147_148 := n17_; have NB148_147 := n18_; clear n0_ n1_ n2_ n3_ n4_ n5_ n6_ n7_ n8_ n9_ n10_ n11_ n12_ n13_ n14_ n15_ n16_ n17_ n18_; clear hb hbox hg; have hnb15 := NB143_144.out; have hnc15 := NB144_143.out; have hnb16 := NB143_145.out; have hnc16 := NB145_143.out; have hnb17 := NB143_146.out; have hnc17 := NB146_143.out; have hnb18 := NB143_147.out; have hnc18 := NB147_143.out; have hnb19 := NB143_148.out; have hnc19 := NB148_143.out; have hcz20_0 : w14.cell? ⟨gb143, 0, none⟩ = some (.int .i64 a0_0) := (blk_cell BK143.out 0).trans rfl; have hcz20_1 : w14.cell? ⟨gb143, 1, none⟩ = some (.int .i64 a0_1) := (blk_cell BK143.out 1).trans rfl; have hfz20_0 := blk_frozen BK143.out 0; have hfz20_1 := blk_frozen BK143.out 1; have hnb21 := NB144_145.out; have hnc21 := NB145_144.out; have hnb22 := NB144_146.out; have hnc22 := NB146_144.out; have hnb23 := NB144_147.out; have hnc23 := NB147_144.out; have hnb24 := NB144_148.out; have hnc24 := NB148_144.out; have hcz25_0 : w14.cell? ⟨gb144, 0, none⟩ = some (.int .i64 a1_0) := (blk_cell BK144.out 0).trans rfl; have hcz25_1 : w14.cell? ⟨gb144, 1, none⟩ = some (.int .i64 a1_1) := (blk_cell BK144.out 1).trans rfl; have hfz25_0 := blk_frozen BK144.out 0; have hfz25_1 := blk_frozen BK144.out 1; have hnb26 := NB145_146.out; have hnc26 := NB146_145.out; have hnb27 := NB145_147.out; have hnc27 := NB147_145.out; have hnb28 := NB145_148.out; have hnc28 := NB148_145.out; have hcz29_0 : w14.cell? ⟨gb145, 0, none⟩ = some (.int .i64 a2_0) := (blk_cell BK145.out 0).trans rfl; have hcz29_1 : w14.cell? ⟨gb145, 1, none⟩ = some (.int .i64 a2_1) := (blk_cell BK145.out 1).trans rfl; have hfz29_0 := blk_frozen BK145.out 0; have hfz29_1 := blk_frozen BK145.out 1; have hnb30 := NB146_147.out; have hnc30 := NB147_146.out; have hnb31 := NB146_148.out; have hnc31 := NB148_146.out; have hcz32_0 : w14.cell? ⟨gb146, 0, none⟩ = some (.int .i64 a3_0) := (blk_cell BK146.out 0).trans rfl; have hcz32_1 : w14.cell? ⟨gb146, 1, none⟩ = some (.int .i64 a3_1) := (blk_cell BK146.out 1).trans rfl; have hfz32_0 := blk_frozen BK146.out 0; have hfz32_1 := blk_frozen BK146.out 1) | ((with_reducible refine gate_callee (f := 8) rfl ?_); refine goesL_ (some 21) rfl rfl Try.func8 (by kernel_rfl) rfl #[.agg #[.int .i64 a0_0, .int .i64 a0_1], .agg #[.int .i64 a1_0, .int .i64 a1_1], .agg #[.int .i64 a2_0, .int .i64 a2_1], .agg #[.int .i64 a3_0, .int .i64 a3_1]] rfl al ?_; (with_reducible refine (spec_l34Ok.calls a0_0 a0_1 a1_0 a1_1 a2_0 a2_1 a3_0 a3_1 true _ A5.out).mono ?_); rintro e w33 ⟨rfl, hb⟩; refine ⟨_, rfl, ?_⟩; have n0_ := Aside0.mk (blk_below (bf BK143.out) hb); have n1_ := Aside0.mk (blk_below (bf BK144.out) hb); have n2_ := Aside0.mk (blk_below (bf BK145.out) hb); have n3_ := Aside0.mk (blk_below (bf BK146.out) hb); have n4_ := Aside0.mk (blk_below (bf BK147.out) hb); have n5_ := Aside0.mk (blk_below (bf BK148.out) hb); have n6_ := Aside0.mk (below_step (lb HB.out) hb); clear BK143; clear BK144; clear BK145; clear BK146; clear BK147; clear BK148; clear HB; have BK143 := n0_; have BK144 := n1_; have BK145 := n2_; have BK146 := n3_; have BK147 := n4_; have BK148 := n5_; have HB := n6_; clear n0_ n1_ n2_ n3_ n4_ n5_ n6_; (try clear hb); (try clear hb2); (try clear hk); (try clear hi); have hcz34_0 : w33.cell? ⟨gb143, 0, none⟩ = some (.int .i64 a0_0) := (blk_cell BK143.out 0).trans rfl; have hcz34_1 : w33.cell? ⟨gb143, 1, none⟩ = some (.int .i64 a0_1) := (blk_cell BK143.out 1).trans rfl; have hfz34_0 := blk_frozen BK143.out 0; have hfz34_1 := blk_frozen BK143.out 1; have hcz35_0 : w33.cell? ⟨gb144, 0, none⟩ = some (.int .i64 a1_0) := (blk_cell BK144.out 0).trans rfl; have hcz35_1 : w33.cell? ⟨gb144, 1, none⟩ = some (.int .i64 a1_1) := (blk_cell BK144.out 1).trans rfl; have hfz35_0 := blk_frozen BK144.out 0; have hfz35_1 := blk_frozen BK144.out 1; have hcz36_0 : w33.cell? ⟨gb145, 0, none⟩ = some (.int .i64 a2_0) := (blk_cell BK145.out 0).trans rfl; have hcz36_1 : w33.cell? ⟨gb145, 1, none⟩ = some (.int .i64 a2_1) := (blk_cell BK145.out 1).trans rfl; have hfz36_0 := blk_frozen BK145.out 0; have hfz36_1 := blk_frozen BK145.out 1; have hcz37_0 : w33.cell? ⟨gb146, 0, none⟩ = some (.int .i64 a3_0) := (blk_cell BK146.out 0).trans rfl; have hcz37_1 : w33.cell? ⟨gb146, 1, none⟩ = some (.int .i64 a3_1) := (blk_cell BK146.out 1).trans rfl; have hfz37_0 := blk_frozen BK146.out 0; have hfz37_1 := blk_frozen BK146.out 1) | ((with_reducible refine gate_callee (f := 9) rfl ?_); refine goesL_ (some 30) rfl rfl Try.func9 (by kernel_rfl) rfl #[.agg #[.int .i64 a0_0, .int .i64 a0_1], .agg #[.int .i64 a1_0, .int .i64 a1_1], .agg #[.int .i64 a2_0, .int .i64 a2_1], .agg #[.int .i64 a3_0, .int .i64 a3_1]] rfl al ?_; (with_reducible refine (spec_l34Parts.calls a0_0 a0_1 a1_0 a1_1 a2_0 a2_1 a3_0 a3_1 t150 t151 _ A7.out).mono ?_); rintro e w38 ⟨rfl, hb⟩; refine ⟨_, rfl, ?_⟩; have n0_ := Aside0.mk (blk_below (bf BK143.out) hb); have n1_ := Aside0.mk (blk_below (bf BK144.out) hb); have n2_ := Aside0.mk (blk_below (bf BK145.out) hb); have n3_ := Aside0.mk (blk_below (bf BK146.out) hb); have n4_ := Aside0.mk (blk_below (bf BK147.out) hb); have n5_ := Aside0.mk (blk_below (bf BK148.out) hb); have n6_ := Aside0.mk (below_step (lb HB.out) hb); clear BK143; clear BK144; clear BK145; clear BK146; clear BK147; clear BK148; clear HB; have BK143 := n0_; have BK144 := n1_; have BK145 := n2_; have BK146 := n3_; have BK147 := n4_; have BK148 := n5_; have HB := n6_; clear n0_ n1_ n2_ n3_ n4_ n5_ n6_; (try clear hb); (try clear hb2); (try clear hk); (try clear hi); have hnb39 := NB147_148.out; have hnc39 := NB148_147.out; have hcz40_0 : w38.cell? ⟨gb147, 0, none⟩ = some (.int .i64 0) := (blk_cell BK147.out 0).trans rfl; have hcz40_1 : w38.cell? ⟨gb147, 1, none⟩ = some (.int .i64 0) := (blk_cell BK147.out 1).trans rfl; have hfz40_0 := blk_frozen BK147.out 0; have hfz40_1 := blk_frozen BK147.out 1; have hcz41_0 : w38.cell? ⟨gb148, 0, none⟩ = some (.int .i64 0) := (blk_cell BK148.out 0).trans rfl; have hcz41_1 : w38.cell? ⟨gb148, 1, none⟩ = some (.int .i64 0) := (blk_cell BK148.out 1).trans rfl; have hfz41_0 := blk_frozen BK148.out 0; have hfz41_1 := blk_frozen BK148.out 1))
   refine bodyPost_ret (results_list (rs := [.cell 8 25, .cell 9 25, .tmp 10]) rfl (by simp) (.cell gb147 25 #[.int .i64 0, .int .i64 0] (0, 0) _ rfl (by (with_reducible repeat (first | refine blk_drewN ?_ _ | refine blk_drew ?_ | refine blk_alloc ?_ _)); refine blk_far ?_ NB147_148.out _; (with_reducible repeat (first | refine blk_drewN ?_ _ | refine blk_drew ?_ | refine blk_alloc ?_ _)); refine blk_far ?_ NB147_148.out _; (with_reducible repeat (first | refine blk_drewN ?_ _ | refine blk_drew ?_ | refine blk_alloc ?_ _)); refine blk_put (cs := #[.int .i64 0, .int .i64 0]) ?_ 1 _ rfl; (with_reducible repeat (first | refine blk_drewN ?_ _ | refine blk_drew ?_ | refine blk_alloc ?_ _)); refine blk_put (cs := #[.int .i64 0, .int .i64 0]) ?_ 0 _ rfl; (with_reducible repeat (first | refine blk_drewN ?_ _ | refine blk_drew ?_ | refine blk_alloc ?_ _)); exact BK147.out) Try.underlying25 rfl (by kernel_rfl) (.cell gb148 25 #[.int .i64 0, .int .i64 0] (0, 0) _ rfl (by (with_reducible repeat (first | refine blk_drewN ?_ _ | refine blk_drew ?_ | refine blk_alloc ?_ _)); refine blk_put (cs := #[.int .i64 0, .int .i64 0]) ?_ 1 _ rfl; (with_reducible repeat (first | refine blk_drewN ?_ _ | refine blk_drew ?_ | refine blk_alloc ?_ _)); refine blk_put (cs := #[.int .i64 0, .int .i64 0]) ?_ 0 _ rfl; (with_reducible repeat (first | refine blk_drewN ?_ _ | refine blk_drew ?_ | refine blk_alloc ?_ _)); refine blk_far ?_ NB148_147.out _; (with_reducible repeat (first | refine blk_drewN ?_ _ | refine blk_drew ?_ | refine blk_alloc ?_ _)); refine blk_far ?_ NB148_147.out _; (with_reducible repeat (first | refine blk_drewN ?_ _ | refine blk_drew ?_ | refine blk_alloc ?_ _)); exact BK148.out) Try.underlying25 rfl (by kernel_rfl) (.tmp .nil)))) rfl ?_
   exact ⟨er, lb HB.out⟩
  ·rw [if_neg c8] at H
   have c8b0 : (t151 == 0) = false := beq_eq_false_iff_ne.mpr c8
   have c8b1 : (t151 != 0) = true := bne_iff_ne.mpr c8
   replace H := Option.bind_eq_some_iff.mp H
   obtain ⟨⟨t152, t153, t154⟩, A420, H⟩ := H
   replace H : ((spec_QuoOf.f k (wrap64 ((wrap64 (a0_1 * t151)) + (wrap64 (t150 * (wrap64 (a1_1 - a0_1)))))) t151).bind fun bt156 => (if t154 = true then (if bt156.2.2 = true then (some (t152, t153, bt156.1, bt156.2.1, true)) else (some (0, 0, 0, 0, false))) else (some (0, 0, 0, 0, false)))) = some (r1, r2, r3, r4, r5) := H
   have A42 := Aside0.mk A420
   clear A420
   replace H := Option.bind_eq_some_iff.mp H
   obtain ⟨⟨t156, t157, t158⟩, A430, H⟩ := H
   replace H : (if t154 = true then (if t158 = true then (some (t152, t153, t156, t157, true)) else (some (0, 0, 0, 0, false))) else (some (0, 0, 0, 0, false))) = some (r1, r2, r3, r4, r5) := H
   have A43 := Aside0.mk A430
   clear A430
   by_cases c44 : t154 = true
   ·subst c44
    have H1 : (if t158 = true then (some (t152, t153, t156, t157, true)) else (some (0, 0, 0, 0, false))) = some (r1, r2, r3, r4, r5) := by rw [if_pos rfl] at H; exact H
    clear H
    have H := H1
    clear H1
    by_cases c45 : t158 = true
    ·subst c45
     have H1 : (some (t152, t153, t156, t157, true)) = some (r1, r2, r3, r4, r5) := by rw [if_pos rfl] at H; exact H
     clear H
     have H := H1
     clear H1
     simp only [Option.some.injEq, Prod.mk.injEq] at H
     obtain ⟨rfl, rfl, rfl, rfl, rfl⟩ := H
     go_enter Try.func4, Try.ntmps4
     try go_wp2_with (first | ((with_reducible refine gate_dst (N := 4) rfl ?_); refine bx_ 4 (cs := #[.int .i64 a0_0, .int .i64 a0_1]) (t := 28) ?_; intro gb143 hg w46 hbox hb; have n0_ := Aside0.mk (below_step (lb HB.out) hb); have n1_ := Aside0.mk (hbox); have n2_ := Aside0.mk ((by rw [hg]; exact (below_size (lb HB.out)) : w.heap.size ≤ gb143)); have n3_ := Aside0.mk ((by rw [hg]; exact (below_size (lb HB.out)) : w.heap.size ≤ gb143)); clear HB; have HB := n0_; have BK143 := n1_; have GW143 := n2_; have GE143 := n3_; clear n0_ n1_ n2_ n3_; clear hb hbox hg) | ((with_reducible refine gate_dst (N := 5) rfl ?_); refine bx_ 5 (cs := #[.int .i64 a1_0, .int .i64 a1_1]) (t := 28) ?_; intro gb144 hg w47 hbox hb; have n0_ := Aside0.mk (blk_below (bf BK143.out) hb); have n1_ := Aside0.mk (below_step (lb HB.out) hb); have n2_ := Aside0.mk (hbox); have n3_ := Aside0.mk ((by rw [hg]; exact (below_size (lb HB.out)) : w.heap.size ≤ gb144)); have n4_ := Aside0.mk ((by rw [hg]; exact (below_size (lb HB.out)) : w.heap.size ≤ gb144)); have n5_ := Aside0.mk ((by rw [hg]; exact Nat.ne_of_lt (blk_lt (bf BK143.out)) : gb143 ≠ gb144)); have n6_ := Aside0.mk ((by rw [hg]; exact Nat.ne_of_gt (blk_lt (bf BK143.out)) : gb144 ≠ gb143)); clear BK143; clear HB; have BK143 := n0_; have HB := n1_; have BK144 := n2_; have GW144 := n3_; have GE144 := n4_; have NB143_144 := n5_; have NB144_143 := n6_; clear n0_ n1_ n2_ n3_ n4_ n5_ n6_; clear hb hbox hg) | ((with_reducible refine gate_dst (N := 6) rfl ?_); refine bx_ 6 (cs := #[.int .i64 a2_0, .int .i64 a2_1]) (t := 28) ?_; intro gb145 hg w48 hbox hb; have n0_ := Aside0.mk (blk_below (bf BK143.out) hb); have n1_ := Aside0.mk (blk_below (bf BK144.out) hb); have n2_ := Aside0.mk (below_step (lb HB.out) hb); have n3_ := Aside0.mk (hbox); have n4_ := Aside0.mk ((by rw [hg]; exact (below_size (lb HB.out)) : w.heap.size ≤ gb145)); have n5_ := Aside0.mk ((by rw [hg]; exact (below_size (lb HB.out)) : w.heap.size ≤ gb145)); have n6_ := Aside0.mk ((by rw [hg]; exact Nat.ne_of_lt (blk_lt (bf BK143.out)) : gb143 ≠ gb145)); have n7_ := Aside0.mk ((by rw [hg]; exact Nat.ne_of_gt (blk_lt (bf BK143.out)) : gb145 ≠ gb143)); have n8_ := Aside0.mk ((by rw [hg]; exact Nat.ne_of_lt (blk_lt (bf BK144.out)) : gb144 ≠ gb145)); have n9_ := Aside0.mk ((by rw [hg]; exact Nat.ne_of_gt (blk_lt (bf BK144.out)) : gb145 ≠ gb144)); clear BK143; clear BK144; clear HB; have BK143 := n0_; have BK144 := n1_; have HB := n2_; have BK145 := n3_; have GW145 := n4_; have GE145 := n5_; have NB143_145 := n6_; have NB145_143 := n7_; have NB144_145 := n8_; have NB145_144 := n9_; clear n0_ n1_ n2_ n3_ n4_ n5_ n6_ n7_ n8_ n9_; clear hb hbox hg) | ((with_reducible refine gate_dst (N := 7) rfl ?_); refine bx_ 7 (cs := #[.int .i64 a3_0, .int .i64 a3_1]) (t := 28) ?_; intro gb146 hg w49 hbox hb; have n0_ := Aside0.mk (blk_below (bf BK143.out) hb); have n1_ := Aside0.mk (blk_below (bf BK144.out) hb); have n2_ := Aside0.mk (blk_below (bf BK145.out) hb); have n3_ := Aside0.mk (below_step (lb HB.out) hb); have n4_ := Aside0.mk (hbox); have n5_ := Aside0.mk ((by rw [hg]; exact (below_size (lb HB.out)) : w.heap.size ≤ gb146)); have n6_ := Aside0.mk ((by rw [hg]; exact (below_size (lb HB.out)) : w.heap.size ≤ gb146)); have n7_ := Aside0.mk ((by rw [hg]; exact Nat.ne_of_lt (blk_lt (bf BK143.out)) : gb143 ≠ gb146)); have n8_ := Aside0.mk ((by rw [hg]; exact Nat.ne_of_gt (blk_lt (bf BK143.out)) : gb146 ≠ gb143)); have n9_ := Aside0.mk ((by rw [hg]; exact Nat.ne_of_lt (blk_lt (bf BK144.out)) : gb144 ≠ gb146)); have n10_ := Aside0.mk ((by rw [hg]; exact Nat.ne_of_gt (blk_lt (bf BK144.out)) : gb146 ≠ gb144)); have n11_ := Aside0.mk ((by rw [hg]; exact Nat.ne_of_lt (blk_lt (bf BK145.out)) : gb145 ≠ gb146)); have n12_ := Aside0.mk ((by rw [hg]; exact Nat.ne_of_gt (blk_lt (bf BK145.out)) : gb146 ≠ gb145)); clear BK143; clear BK144; clear BK145; clear HB; have BK143 := n0_; have BK144 := n1_; have BK145 := n2_; have HB := n3_; have BK146 := n4_; have GW146 := n5_; have GE146 := n6_; have NB143_146 := n7_; have NB146_143 := n8_; have NB144_146 := n9_; have NB146_144 := n10_; have NB145_146 := n11_; have NB146_145 := n12_; clear n0_ n1_ n2_ n3_ n4_ n5_ n6_ n7_ n8_ n9_ n10_ n11_ n12_; clear hb hbox hg) | ((with_reducible refine gate_dst (N := 8) rfl ?_); refine bx_ 8 (cs := #[.int .i64 0, .int .i64 0]) (t := 25) ?_; intro gb147 hg w50 hbox hb; have n0_ := Aside0.mk (blk_below (bf BK143.out) hb); have n1_ := Aside0.mk (blk_below (bf BK144.out) hb); have n2_ := Aside0.mk (blk_below (bf BK145.out) hb); have n3_ := Aside0.mk (blk_below (bf BK146.out) hb); have n4_ := Aside0.mk (below_step (lb HB.out) hb); have n5_ := Aside0.mk (hbox); have n6_ := Aside0.mk ((by rw [hg]; exact (below_size (lb HB.out)) : w.heap.size ≤ gb147)); have n7_ := Aside0.mk ((by rw [hg]; exact (below_size (lb HB.out)) : w.heap.size ≤ gb147)); have n8_ := Aside0.mk ((by rw [hg]; exact Nat.ne_of_lt (blk_lt (bf BK143.out)) : gb143 ≠ gb147)); have n9_ := Aside0.mk ((by rw [hg]; exact Nat.ne_of_gt (blk_lt (bf BK143.out)) : gb147 ≠ gb143)); have n10_ := Aside0.mk ((by rw [hg]; exact Nat.ne_of_lt (blk_lt (bf BK144.out)) : gb144 ≠ gb147)); have n11_ := Aside0.mk ((by rw [hg]; exact Nat.ne_of_gt (blk_lt (bf BK144.out)) : gb147 ≠ gb144)); have n12_ := Aside0.mk ((by rw [hg]; exact Nat.ne_of_lt (blk_lt (bf BK145.out)) : gb145 ≠ gb147)); have n13_ := Aside0.mk ((by rw [hg]; exact Nat.ne_of_gt (blk_lt (bf BK145.out)) : gb147 ≠ gb145)); have n14_ := Aside0.mk ((by rw [hg]; exact Nat.ne_of_lt (blk_lt (bf BK146.out)) : gb146 ≠ gb147)); have n15_ := Aside0.mk ((by rw [hg]; exact Nat.ne_of_gt (blk_lt (bf BK146.out)) : gb147 ≠ gb146)); clear BK143; clear BK144; clear BK145; clear BK146; clear HB; have BK143 := n0_; have BK144 := n1_; have BK145 := n2_; have BK146 := n3_; have HB := n4_; have BK147 := n5_; have GW147 := n6_; have GE147 := n7_; have NB143_147 := n8_; have NB147_143 := n9_; have NB144_147 := n10_; have NB147_144 := n11_; have NB145_147 := n12_; have NB147_145 := n13_; have NB146_147 := n14_; have NB147_146 := n15_; clear n0_ n1_ n2_ n3_ n4_ n5_ n6_ n7_ n8_ n9_ n10_ n11_ n12_ n13_ n14_ n15_; clear hb hbox hg) | ((with_reducible refine gate_dst (N := 9) rfl ?_); refine bx_ 9 (cs := #[.int .i64 0, .int .i64 0]) (t := 25) ?_; intro gb148 hg w51 hbox hb; have n0_ := Aside0.mk (blk_below (bf BK143.out) hb); have n1_ := Aside0.mk (blk_below (bf BK144.out) hb); have n2_ := Aside0.mk (blk_below (bf BK145.out) hb); have n3_ := Aside0.mk (blk_below (bf BK146.out) hb); have n4_ := Aside0.mk (blk_below (bf BK147.out) hb); have n5_ := Aside0.mk (below_step (lb HB.out) hb); have n6_ := Aside0.mk (hbox); have n7_ := Aside0.mk ((by rw [hg]; exact (below_size (lb HB.out)) : w.heap.size ≤ gb148)); have n8_ := Aside0.mk ((by rw [hg]; exact (below_size (lb HB.out)) : w.heap.size ≤ gb148)); have n9_ := Aside0.mk ((by rw [hg]; exact Nat.ne_of_lt (blk_lt (bf BK143.out)) : gb143 ≠ gb148)); have n10_ := Aside0.mk ((by rw [hg]; exact Nat.ne_of_gt (blk_lt (bf BK143.out)) : gb148 ≠ gb143)); have n11_ := Aside0.mk ((by rw [hg]; exact Nat.ne_of_lt (blk_lt (bf BK144.out)) : gb144 ≠ gb148)); have n12_ := Aside0.mk ((by rw [hg]; exact Nat.ne_of_gt (blk_lt (bf BK144.out)) : gb148 ≠ gb144)); have n13_ := Aside0.mk ((by rw [hg]; exact Nat.ne_of_lt (blk_lt (bf BK145.out)) : gb145 ≠ gb148)); have n14_ := Aside0.mk ((by rw [hg]; exact Nat.ne_of_gt (blk_lt (bf BK145.out)) : gb148 ≠ gb145)); have n15_ := Aside0.mk ((by rw [hg]; exact Nat.ne_of_lt (blk_lt (bf BK146.out)) : gb146 ≠ gb148)); have n16_ := Aside0.mk ((by rw [hg]; exact Nat.ne_of_gt (blk_lt (bf BK146.out)) : gb148 ≠ gb146)); have n17_ := Aside0.mk ((by rw [hg]; exact Nat.ne_of_lt (blk_lt (bf BK147.out)) : gb147 ≠ gb148)); have n18_ := Aside0.mk ((by rw [hg]; exact Nat.ne_of_gt (blk_lt (bf BK147.out)) : gb148 ≠ gb147)); clear BK143; clear BK144; clear BK145; clear BK146; clear BK147; clear HB; have BK143 := n0_; have BK144 := n1_; have BK145 := n2_; have BK146 := n3_; have BK147 := n4_; have HB := n5_; have BK148 := n6_; have GW148 := n7_; have GE148 := n8_; have NB143_148 := n9_; have NB148_143 := n10_; have NB144_148 := n11_; have NB148_144 := n12_; have NB145_148 := n13_; have NB148_145 := n14_; have NB146_148 := n15_; have NB148_146 := n16_; have NB147_148 := n17_; have NB148_147 := n18_; clear n0_ n1_ n2_ n3_ n4_ n5_ n6_ n7_ n8_ n9_ n10_ n11_ n12_ n13_ n14_ n15_ n16_ n17_ n18_; clear hb hbox hg; have hnb52 := NB143_144.out; have hnc52 := NB144_143.out; have hnb53 := NB143_145.out; have hnc53 := NB145_143.out; have hnb54 := NB143_146.out; have hnc54 := NB146_143.out; have hnb55 := NB143_147.out; have hnc55 := NB147_143.out; have hnb56 := NB143_148.out; have hnc56 := NB148_143.out; have hcz57_0 : w51.cell? ⟨gb143, 0, none⟩ = some (.int .i64 a0_0) := (blk_cell BK143.out 0).trans rfl; have hcz57_1 : w51.cell? ⟨gb143, 1, none⟩ = some (.int .i64 a0_1) := (blk_cell BK143.out 1).trans rfl; have hfz57_0 := blk_frozen BK143.out 0; have hfz57_1 := blk_frozen BK143.out 1; have hnb58 := NB144_145.out; have hnc58 := NB145_144.out; have hnb59 := NB144_146.out; have hnc59 := NB146_144.out; have hnb60 := NB144_147.out; have hnc60 := NB147_144.out; have hnb61 := NB144_148.out; have hnc61 := NB148_144.out; have hcz62_0 : w51.cell? ⟨gb144, 0, none⟩ = some (.int .i64 a1_0) := (blk_cell BK144.out 0).trans rfl; have hcz62_1 : w51.cell? ⟨gb144, 1, none⟩ = some (.int .i64 a1_1) := (blk_cell BK144.out 1).trans rfl; have hfz62_0 := blk_frozen BK144.out 0; have hfz62_1 := blk_frozen BK144.out 1; have hnb63 := NB145_146.out; have hnc63 := NB146_145.out; have hnb64 := NB145_147.out; have hnc64 := NB147_145.out; have hnb65 := NB145_148.out; have hnc65 := NB148_145.out; have hcz66_0 : w51.cell? ⟨gb145, 0, none⟩ = some (.int .i64 a2_0) := (blk_cell BK145.out 0).trans rfl; have hcz66_1 : w51.cell? ⟨gb145, 1, none⟩ = some (.int .i64 a2_1) := (blk_cell BK145.out 1).trans rfl; have hfz66_0 := blk_frozen BK145.out 0; have hfz66_1 := blk_frozen BK145.out 1; have hnb67 := NB146_147.out; have hnc67 := NB147_146.out; have hnb68 := NB146_148.out; have hnc68 := NB148_146.out; have hcz69_0 : w51.cell? ⟨gb146, 0, none⟩ = some (.int .i64 a3_0) := (blk_cell BK146.out 0).trans rfl; have hcz69_1 : w51.cell? ⟨gb146, 1, none⟩ = some (.int .i64 a3_1) := (blk_cell BK146.out 1).trans rfl; have hfz69_0 := blk_frozen BK146.out 0; have hfz69_1 := blk_frozen BK146.out 1) | ((with_reducible refine gate_callee (f := 8) rfl ?_); refine goesL_ (some 21) rfl rfl Try.func8 (by kernel_rfl) rfl #[.agg #[.int .i64 a0_0, .int .i64 a0_1], .agg #[.int .i64 a1_0, .int .i64 a1_1], .agg #[.int .i64 a2_0, .int .i64 a2_1], .agg #[.int .i64 a3_0, .int .i64 a3_1]] rfl al ?_; (with_reducible refine (spec_l34Ok.calls a0_0 a0_1 a1_0 a1_1 a2_0 a2_1 a3_0 a3_1 true _ A5.out).mono ?_); rintro e w70 ⟨rfl, hb⟩; refine ⟨_, rfl, ?_⟩; have n0_ := Aside0.mk (blk_below (bf BK143.out) hb); have n1_ := Aside0.mk (blk_below (bf BK144.out) hb); have n2_ := Aside0.mk (blk_below (bf BK145.out) hb); have n3_ := Aside0.mk (blk_below (bf BK146.out) hb); have n4_ := Aside0.mk (blk_below (bf BK147.out) hb); have n5_ := Aside0.mk (blk_below (bf BK148.out) hb); have n6_ := Aside0.mk (below_step (lb HB.out) hb); clear BK143; clear BK144; clear BK145; clear BK146; clear BK147; clear BK148; clear HB; have BK143 := n0_; have BK144 := n1_; have BK145 := n2_; have BK146 := n3_; have BK147 := n4_; have BK148 := n5_; have HB := n6_; clear n0_ n1_ n2_ n3_ n4_ n5_ n6_; (try clear hb); (try clear hb2); (try clear hk); (try clear hi); have hcz71_0 : w70.cell? ⟨gb143, 0, none⟩ = some (.int .i64 a0_0) := (blk_cell BK143.out 0).trans rfl; have hcz71_1 : w70.cell? ⟨gb143, 1, none⟩ = some (.int .i64 a0_1) := (blk_cell BK143.out 1).trans rfl; have hfz71_0 := blk_frozen BK143.out 0; have hfz71_1 := blk_frozen BK143.out 1; have hcz72_0 : w70.cell? ⟨gb144, 0, none⟩ = some (.int .i64 a1_0) := (blk_cell BK144.out 0).trans rfl; have hcz72_1 : w70.cell? ⟨gb144, 1, none⟩ = some (.int .i64 a1_1) := (blk_cell BK144.out 1).trans rfl; have hfz72_0 := blk_frozen BK144.out 0; have hfz72_1 := blk_frozen BK144.out 1; have hcz73_0 : w70.cell? ⟨gb145, 0, none⟩ = some (.int .i64 a2_0) := (blk_cell BK145.out 0).trans rfl; have hcz73_1 : w70.cell? ⟨gb145, 1, none⟩ = some (.int .i64 a2_1) := (blk_cell BK145.out 1).trans rfl; have hfz73_0 := blk_frozen BK145.out 0; have hfz73_1 := blk_frozen BK145.out 1; have hcz74_0 : w70.cell? ⟨gb146, 0, none⟩ = some (.int .i64 a3_0) := (blk_cell BK146.out 0).trans rfl; have hcz74_1 : w70.cell? ⟨gb146, 1, none⟩ = some (.int .i64 a3_1) := (blk_cell BK146.out 1).trans rfl; have hfz74_0 := blk_frozen BK146.out 0; have hfz74_1 := blk_frozen BK146.out 1) | ((with_reducible refine gate_callee (f := 9) rfl ?_); refine goesL_ (some 30) rfl rfl Try.func9 (by kernel_rfl) rfl #[.agg #[.int .i64 a0_0, .int .i64 a0_1], .agg #[.int .i64 a1_0, .int .i64 a1_1], .agg #[.int .i64 a2_0, .int .i64 a2_1], .agg #[.int .i64 a3_0, .int .i64 a3_1]] rfl al ?_; (with_reducible refine (spec_l34Parts.calls a0_0 a0_1 a1_0 a1_1 a2_0 a2_1 a3_0 a3_1 t150 t151 _ A7.out).mono ?_); rintro e w75 ⟨rfl, hb⟩; refine ⟨_, rfl, ?_⟩; have n0_ := Aside0.mk (blk_below (bf BK143.out) hb); have n1_ := Aside0.mk (blk_below (bf BK144.out) hb); have n2_ := Aside0.mk (blk_below (bf BK145.out) hb); have n3_ := Aside0.mk (blk_below (bf BK146.out) hb); have n4_ := Aside0.mk (blk_below (bf BK147.out) hb); have n5_ := Aside0.mk (blk_below (bf BK148.out) hb); have n6_ := Aside0.mk (below_step (lb HB.out) hb); clear BK143; clear BK144; clear BK145; clear BK146; clear BK147; clear BK148; clear HB; have BK143 := n0_; have BK144 := n1_; have BK145 := n2_; have BK146 := n3_; have BK147 := n4_; have BK148 := n5_; have HB := n6_; clear n0_ n1_ n2_ n3_ n4_ n5_ n6_; (try clear hb); (try clear hb2); (try clear hk); (try clear hi); have hcz76_0 : w75.cell? ⟨gb143, 0, none⟩ = some (.int .i64 a0_0) := (blk_cell BK143.out 0).trans rfl; have hcz76_1 : w75.cell? ⟨gb143, 1, none⟩ = some (.int .i64 a0_1) := (blk_cell BK143.out 1).trans rfl; have hfz76_0 := blk_frozen BK143.out 0; have hfz76_1 := blk_frozen BK143.out 1; have hcz77_0 : w75.cell? ⟨gb144, 0, none⟩ = some (.int .i64 a1_0) := (blk_cell BK144.out 0).trans rfl; have hcz77_1 : w75.cell? ⟨gb144, 1, none⟩ = some (.int .i64 a1_1) := (blk_cell BK144.out 1).trans rfl; have hfz77_0 := blk_frozen BK144.out 0; have hfz77_1 := blk_frozen BK144.out 1) | ((with_reducible refine gate_callee (f := 10) rfl ?_); refine goesL_ (some 51) rfl rfl Try.func10 (by kernel_rfl) rfl #[.int .i64 (wrap64 ((wrap64 (a0_0 * t151)) + (wrap64 (t150 * (wrap64 (a1_0 - a0_0)))))), .int .i64 t151] rfl al ?_; (with_reducible refine (spec_QuoOf.calls k (wrap64 ((wrap64 (a0_0 * t151)) + (wrap64 (t150 * (wrap64 (a1_0 - a0_0)))))) t151 t152 t153 true _ A42.out).mono ?_); rintro e w78 ⟨rfl, hb⟩; refine ⟨_, rfl, ?_⟩; have n0_ := Aside0.mk (blk_below (bf BK143.out) hb); have n1_ := Aside0.mk (blk_below (bf BK144.out) hb); have n2_ := Aside0.mk (blk_below (bf BK145.out) hb); have n3_ := Aside0.mk (blk_below (bf BK146.out) hb); have n4_ := Aside0.mk (blk_below (bf BK147.out) hb); have n5_ := Aside0.mk (blk_below (bf BK148.out) hb); have n6_ := Aside0.mk (below_step (lb HB.out) hb); clear BK143; clear BK144; clear BK145; clear BK146; clear BK147; clear BK148; clear HB; have BK143 := n0_; have BK144 := n1_; have BK145 := n2_; have BK146 := n3_; have BK147 := n4_; have BK148 := n5_; have HB := n6_; clear n0_ n1_ n2_ n3_ n4_ n5_ n6_; (try clear hb); (try clear hb2); (try clear hk); (try clear hi)) | ((with_reducible refine gate_dst (N := 13) rfl ?_); refine bx_ 13 (cs := #[.int .i64 0, .int .i64 0]) (t := 25) ?_; intro gb155 hg w79 hbox hb; have n0_ := Aside0.mk (blk_below (bf BK143.out) hb); have n1_ := Aside0.mk (blk_below (bf BK144.out) hb); have n2_ := Aside0.mk (blk_below (bf BK145.out) hb); have n3_ := Aside0.mk (blk_below (bf BK146.out) hb); have n4_ := Aside0.mk (blk_below (bf BK147.out) hb); have n5_ := Aside0.mk (blk_below (bf BK148.out) hb); have n6_ := Aside0.mk (below_step (lb HB.out) hb); have n7_ := Aside0.mk (hbox); have n8_ := Aside0.mk ((by rw [hg]; exact (below_size (lb HB.out)) : w.heap.size ≤ gb155)); have n9_ := Aside0.mk ((by rw [hg]; exact (below_size (lb HB.out)) : w.heap.size ≤ gb155)); have n10_ := Aside0.mk ((by rw [hg]; exact Nat.ne_of_lt (blk_lt (bf BK143.out)) : gb143 ≠ gb155)); have n11_ := Aside0.mk ((by rw [hg]; exact Nat.ne_of_gt (blk_lt (bf BK143.out)) : gb155 ≠ gb143)); have n12_ := Aside0.mk ((by rw [hg]; exact Nat.ne_of_lt (blk_lt (bf BK144.out)) : gb144 ≠ gb155)); have n13_ := Aside0.mk ((by rw [hg]; exact Nat.ne_of_gt (blk_lt (bf BK144.out)) : gb155 ≠ gb144)); have n14_ := Aside0.mk ((by rw [hg]; exact Nat.ne_of_lt (blk_lt (bf BK145.out)) : gb145 ≠ gb155)); have n15_ := Aside0.mk ((by rw [hg]; exact Nat.ne_of_gt (blk_lt (bf BK145.out)) : gb155 ≠ gb145)); have n16_ := Aside0.mk ((by rw [hg]; exact Nat.ne_of_lt (blk_lt (bf BK146.out)) : gb146 ≠ gb155)); have n17_ := Aside0.mk ((by rw [hg]; exact Nat.ne_of_gt (blk_lt (bf BK146.out)) : gb155 ≠ gb146)); have n18_ := Aside0.mk ((by rw [hg]; exact Nat.ne_of_lt (blk_lt (bf BK147.out)) : gb147 ≠ gb155)); have n19_ := Aside0.mk ((by rw [hg]; exact Nat.ne_of_gt (blk_lt (bf BK147.out)) : gb155 ≠ gb147)); have n20_ := Aside0.mk ((by rw [hg]; exact Nat.ne_of_lt (blk_lt (bf BK148.out)) : gb148 ≠ gb155)); have n21_ := Aside0.mk ((by rw [hg]; exact Nat.ne_of_gt (blk_lt (bf BK148.out)) : gb155 ≠ gb148)); clear BK143; clear BK144; clear BK145; clear BK146; clear BK147; clear BK148; clear HB; have BK143 := n0_; have BK144 := n1_; have BK145 := n2_; have BK146 := n3_; have BK147 := n4_; have BK148 := n5_; have HB := n6_; have BK155 := n7_; have GW155 := n8_; have GE155 := n9_; have NB143_155 := n10_; have NB155_143 := n11_; have NB144_155 := n12_; have NB155_144 := n13_; have NB145_155 := n14_; have NB155_145 := n15_; have NB146_155 := n16_; have NB155_146 := n17_; have NB147_155 := n18_; have NB155_147 := n19_; have NB148_155 := n20_; have NB155_148 := n21_; clear n0_ n1_ n2_ n3_ n4_ n5_ n6_ n7_ n8_ n9_ n10_ n11_ n12_ n13_ n14_ n15_ n16_ n17_ n18_ n19_ n20_ n21_; clear hb hbox hg; have hnb80 := NB155_143.out; have hnc80 := NB143_155.out; have hnb81 := NB155_144.out; have hnc81 := NB144_155.out; have hnb82 := NB155_145.out; have hnc82 := NB145_155.out; have hnb83 := NB155_146.out; have hnc83 := NB146_155.out; have hnb84 := NB155_147.out; have hnc84 := NB147_155.out; have hnb85 := NB155_148.out; have hnc85 := NB148_155.out; have hcz86_0 : w79.cell? ⟨gb155, 0, none⟩ = some (.int .i64 0) := (blk_cell BK155.out 0).trans rfl; have hcz86_1 : w79.cell? ⟨gb155, 1, none⟩ = some (.int .i64 0) := (blk_cell BK155.out 1).trans rfl; have hfz86_0 := blk_frozen BK155.out 0; have hfz86_1 := blk_frozen BK155.out 1; have hcz87_0 : w79.cell? ⟨gb143, 0, none⟩ = some (.int .i64 a0_0) := (blk_cell BK143.out 0).trans rfl; have hcz87_1 : w79.cell? ⟨gb143, 1, none⟩ = some (.int .i64 a0_1) := (blk_cell BK143.out 1).trans rfl; have hfz87_0 := blk_frozen BK143.out 0; have hfz87_1 := blk_frozen BK143.out 1; have hcz88_0 : w79.cell? ⟨gb144, 0, none⟩ = some (.int .i64 a1_0) := (blk_cell BK144.out 0).trans rfl; have hcz88_1 : w79.cell? ⟨gb144, 1, none⟩ = some (.int .i64 a1_1) := (blk_cell BK144.out 1).trans rfl; have hfz88_0 := blk_frozen BK144.out 0; have hfz88_1 := blk_frozen BK144.out 1) | ((with_reducible refine gate_callee (f := 10) rfl ?_); refine goesL_ (some 68) rfl rfl Try.func10 (by kernel_rfl) rfl #[.int .i64 (wrap64 ((wrap64 (a0_1 * t151)) + (wrap64 (t150 * (wrap64 (a1_1 - a0_1)))))), .int .i64 t151] rfl al ?_; (with_reducible refine (spec_QuoOf.calls k (wrap64 ((wrap64 (a0_1 * t151)) + (wrap64 (t150 * (wrap64 (a1_1 - a0_1)))))) t151 t156 t157 true _ A43.out).mono ?_); rintro e w89 ⟨rfl, hb⟩; refine ⟨_, rfl, ?_⟩; have n0_ := Aside0.mk (blk_below (bf BK143.out) hb); have n1_ := Aside0.mk (blk_below (bf BK144.out) hb); have n2_ := Aside0.mk (blk_below (bf BK145.out) hb); have n3_ := Aside0.mk (blk_below (bf BK146.out) hb); have n4_ := Aside0.mk (blk_below (bf BK147.out) hb); have n5_ := Aside0.mk (blk_below (bf BK148.out) hb); have n6_ := Aside0.mk (blk_below (bp BK155.out) hb); have n7_ := Aside0.mk (below_step (lb HB.out) hb); clear BK143; clear BK144; clear BK145; clear BK146; clear BK147; clear BK148; clear BK155; clear HB; have BK143 := n0_; have BK144 := n1_; have BK145 := n2_; have BK146 := n3_; have BK147 := n4_; have BK148 := n5_; have BK155 := n6_; have HB := n7_; clear n0_ n1_ n2_ n3_ n4_ n5_ n6_ n7_; (try clear hb); (try clear hb2); (try clear hk); (try clear hi)) | ((with_reducible refine gate_dst (N := 15) rfl ?_); refine bx_ 15 (cs := #[.int .i64 0, .int .i64 0]) (t := 25) ?_; intro gb159 hg w90 hbox hb; have n0_ := Aside0.mk (blk_below (bf BK143.out) hb); have n1_ := Aside0.mk (blk_below (bf BK144.out) hb); have n2_ := Aside0.mk (blk_below (bf BK145.out) hb); have n3_ := Aside0.mk (blk_below (bf BK146.out) hb); have n4_ := Aside0.mk (blk_below (bf BK147.out) hb); have n5_ := Aside0.mk (blk_below (bf BK148.out) hb); have n6_ := Aside0.mk (blk_below (bf BK155.out) hb); have n7_ := Aside0.mk (below_step (lb HB.out) hb); have n8_ := Aside0.mk (hbox); have n9_ := Aside0.mk ((by rw [hg]; exact (below_size (lb HB.out)) : w.heap.size ≤ gb159)); have n10_ := Aside0.mk ((by rw [hg]; exact (below_size (lb HB.out)) : w.heap.size ≤ gb159)); have n11_ := Aside0.mk ((by rw [hg]; exact Nat.ne_of_lt (blk_lt (bf BK143.out)) : gb143 ≠ gb159)); have n12_ := Aside0.mk ((by rw [hg]; exact Nat.ne_of_gt (blk_lt (bf BK143.out)) : gb159 ≠ gb143)); have n13_ := Aside0.mk ((by rw [hg]; exact Nat.ne_of_lt (blk_lt (bf BK144.out)) : gb144 ≠ gb159)); have n14_ := Aside0.mk ((by rw [hg]; exact Nat.ne_of_gt (blk_lt (bf BK144.out)) : gb159 ≠ gb144)); have n15_ := Aside0.mk ((by rw [hg]; exact Nat.ne_of_lt (blk_lt (bf BK145.out)) : gb145 ≠ gb159)); have n16_ := Aside0.mk ((by rw [hg]; exact Nat.ne_of_gt (blk_lt (bf BK145.out)) : gb159 ≠ gb145)); have n17_ := Aside0.mk ((by rw [hg]; exact Nat.ne_of_lt (blk_lt (bf BK146.out)) : gb146 ≠ gb159)); have n18_ := Aside0.mk ((by rw [hg]; exact Nat.ne_of_gt (blk_lt (bf BK146.out)) : gb159 ≠ gb146)); have n19_ := Aside0.mk ((by rw [hg]; exact Nat.ne_of_lt (blk_lt (bf BK147.out)) : gb147 ≠ gb159)); have n20_ := Aside0.mk ((by rw [hg]; exact Nat.ne_of_gt (blk_lt (bf BK147.out)) : gb159 ≠ gb147)); have n21_ := Aside0.mk ((by rw [hg]; exact Nat.ne_of_lt (blk_lt (bf BK148.out)) : gb148 ≠ gb159)); have n22_ := Aside0.mk ((by rw [hg]; exact Nat.ne_of_gt (blk_lt (bf BK148.out)) : gb159 ≠ gb148)); have n23_ := Aside0.mk ((by rw [hg]; exact Nat.ne_of_lt (blk_lt (bf BK155.out)) : gb155 ≠ gb159)); have n24_ := Aside0.mk ((by rw [hg]; exact Nat.ne_of_gt (blk_lt (bf BK155.out)) : gb159 ≠ gb155)); clear BK143; clear BK144; clear BK145; clear BK146; clear BK147; clear BK148; clear BK155; clear HB; have BK143 := n0_; have BK144 := n1_; have BK145 := n2_; have BK146 := n3_; have BK147 := n4_; have BK148 := n5_; have BK155 := n6_; have HB := n7_; have BK159 := n8_; have GW159 := n9_; have GE159 := n10_; have NB143_159 := n11_; have NB159_143 := n12_; have NB144_159 := n13_; have NB159_144 := n14_; have NB145_159 := n15_; have NB159_145 := n16_; have NB146_159 := n17_; have NB159_146 := n18_; have NB147_159 := n19_; have NB159_147 := n20_; have NB148_159 := n21_; have NB159_148 := n22_; have NB155_159 := n23_; have NB159_155 := n24_; clear n0_ n1_ n2_ n3_ n4_ n5_ n6_ n7_ n8_ n9_ n10_ n11_ n12_ n13_ n14_ n15_ n16_ n17_ n18_ n19_ n20_ n21_ n22_ n23_ n24_; clear hb hbox hg; have hnb91 := NB159_143.out; have hnc91 := NB143_159.out; have hnb92 := NB159_144.out; have hnc92 := NB144_159.out; have hnb93 := NB159_145.out; have hnc93 := NB145_159.out; have hnb94 := NB159_146.out; have hnc94 := NB146_159.out; have hnb95 := NB159_147.out; have hnc95 := NB147_159.out; have hnb96 := NB159_148.out; have hnc96 := NB148_159.out; have hnb97 := NB159_155.out; have hnc97 := NB155_159.out; have hcz98_0 : w90.cell? ⟨gb159, 0, none⟩ = some (.int .i64 0) := (blk_cell BK159.out 0).trans rfl; have hcz98_1 : w90.cell? ⟨gb159, 1, none⟩ = some (.int .i64 0) := (blk_cell BK159.out 1).trans rfl; have hfz98_0 := blk_frozen BK159.out 0; have hfz98_1 := blk_frozen BK159.out 1))
     have n0_ : Aside0 (((w90.setCell ⟨gb159, 0, none⟩ (.int .i64 t156)).setCell ⟨gb159, 1, none⟩ (.int .i64 t157)).heap[gb143]? = some (.cells #[.int .i64 a0_0, .int .i64 a0_1] 28 (0, 0))) := ⟨by (with_reducible repeat (first | refine blk_drewN ?_ _ | refine blk_drew ?_ | refine blk_alloc ?_ _)); refine blk_far ?_ NB143_159.out _; (with_reducible repeat (first | refine blk_drewN ?_ _ | refine blk_drew ?_ | refine blk_alloc ?_ _)); refine blk_far ?_ NB143_159.out _; (with_reducible repeat (first | refine blk_drewN ?_ _ | refine blk_drew ?_ | refine blk_alloc ?_ _)); exact BK143.out⟩
     have n1_ : Aside0 (((w90.setCell ⟨gb159, 0, none⟩ (.int .i64 t156)).setCell ⟨gb159, 1, none⟩ (.int .i64 t157)).heap[gb144]? = some (.cells #[.int .i64 a1_0, .int .i64 a1_1] 28 (0, 0))) := ⟨by (with_reducible repeat (first | refine blk_drewN ?_ _ | refine blk_drew ?_ | refine blk_alloc ?_ _)); refine blk_far ?_ NB144_159.out _; (with_reducible repeat (first | refine blk_drewN ?_ _ | refine blk_drew ?_ | refine blk_alloc ?_ _)); refine blk_far ?_ NB144_159.out _; (with_reducible repeat (first | refine blk_drewN ?_ _ | refine blk_drew ?_ | refine blk_alloc ?_ _)); exact BK144.out⟩
     have n2_ : Aside0 (((w90.setCell ⟨gb159, 0, none⟩ (.int .i64 t156)).setCell ⟨gb159, 1, none⟩ (.int .i64 t157)).heap[gb145]? = some (.cells #[.int .i64 a2_0, .int .i64 a2_1] 28 (0, 0))) := ⟨by (with_reducible repeat (first | refine blk_drewN ?_ _ | refine blk_drew ?_ | refine blk_alloc ?_ _)); refine blk_far ?_ NB145_159.out _; (with_reducible repeat (first | refine blk_drewN ?_ _ | refine blk_drew ?_ | refine blk_alloc ?_ _)); refine blk_far ?_ NB145_159.out _; (with_reducible repeat (first | refine blk_drewN ?_ _ | refine blk_drew ?_ | refine blk_alloc ?_ _)); exact BK145.out⟩
     have n3_ : Aside0 (((w90.setCell ⟨gb159, 0, none⟩ (.int .i64 t156)).setCell ⟨gb159, 1, none⟩ (.int .i64 t157)).heap[gb146]? = some (.cells #[.int .i64 a3_0, .int .i64 a3_1] 28 (0, 0))) := ⟨by (with_reducible repeat (first | refine blk_drewN ?_ _ | refine blk_drew ?_ | refine blk_alloc ?_ _)); refine blk_far ?_ NB146_159.out _; (with_reducible repeat (first | refine blk_drewN ?_ _ | refine blk_drew ?_ | refine blk_alloc ?_ _)); refine blk_far ?_ NB146_159.out _; (with_reducible repeat (first | refine blk_drewN ?_ _ | refine blk_drew ?_ | refine blk_alloc ?_ _)); exact BK146.out⟩
     have n4_ : Aside0 (((w90.setCell ⟨gb159, 0, none⟩ (.int .i64 t156)).setCell ⟨gb159, 1, none⟩ (.int .i64 t157)).heap[gb147]? = some (.cells #[.int .i64 0, .int .i64 0] 25 (0, 0))) := ⟨by (with_reducible repeat (first | refine blk_drewN ?_ _ | refine blk_drew ?_ | refine blk_alloc ?_ _)); refine blk_far ?_ NB147_159.out _; (with_reducible repeat (first | refine blk_drewN ?_ _ | refine blk_drew ?_ | refine blk_alloc ?_ _)); refine blk_far ?_ NB147_159.out _; (with_reducible repeat (first | refine blk_drewN ?_ _ | refine blk_drew ?_ | refine blk_alloc ?_ _)); exact BK147.out⟩
     have n5_ : Aside0 (((w90.setCell ⟨gb159, 0, none⟩ (.int .i64 t156)).setCell ⟨gb159, 1, none⟩ (.int .i64 t157)).heap[gb148]? = some (.cells #[.int .i64 0, .int .i64 0] 25 (0, 0))) := ⟨by (with_reducible repeat (first | refine blk_drewN ?_ _ | refine blk_drew ?_ | refine blk_alloc ?_ _)); refine blk_far ?_ NB148_159.out _; (with_reducible repeat (first | refine blk_drewN ?_ _ | refine blk_drew ?_ | refine blk_alloc ?_ _)); refine blk_far ?_ NB148_159.out _; (with_reducible repeat (first | refine blk_drewN ?_ _ | refine blk_drew ?_ | refine blk_alloc ?_ _)); exact BK148.out⟩
     have n6_ : Aside0 (((w90.setCell ⟨gb159, 0, none⟩ (.int .i64 t156)).setCell ⟨gb159, 1, none⟩ (.int .i64 t157)).heap[gb155]? = some (.cells #[.int .i64 t152, .int .i64 t153] 25 (0, 0))) := ⟨by (with_reducible repeat (first | refine blk_drewN ?_ _ | refine blk_drew ?_ | refine blk_alloc ?_ _)); refine blk_far ?_ NB155_159.out _; (with_reducible repeat (first | refine blk_drewN ?_ _ | refine blk_drew ?_ | refine blk_alloc ?_ _)); refine blk_far ?_ NB155_159.out _; (with_reducible repeat (first | refine blk_drewN ?_ _ | refine blk_drew ?_ | refine blk_alloc ?_ _)); exact BK155.out⟩
     have n7_ : Aside0 (((w90.setCell ⟨gb159, 0, none⟩ (.int .i64 t156)).setCell ⟨gb159, 1, none⟩ (.int .i64 t157)).heap[gb159]? = some (.cells #[.int .i64 t156, .int .i64 t157] 25 (0, 0))) := ⟨by (with_reducible repeat (first | refine blk_drewN ?_ _ | refine blk_drew ?_ | refine blk_alloc ?_ _)); refine blk_put (cs := #[.int .i64 t156, .int .i64 0]) ?_ 1 _ rfl; (with_reducible repeat (first | refine blk_drewN ?_ _ | refine blk_drew ?_ | refine blk_alloc ?_ _)); refine blk_put (cs := #[.int .i64 0, .int .i64 0]) ?_ 0 _ rfl; (with_reducible repeat (first | refine blk_drewN ?_ _ | refine blk_drew ?_ | refine blk_alloc ?_ _)); exact BK159.out⟩
     have n8_ : Aside0 (Below w.heap.size w ((w90.setCell ⟨gb159, 0, none⟩ (.int .i64 t156)).setCell ⟨gb159, 1, none⟩ (.int .i64 t157))) := ⟨lb HB.out⟩
     (try clear BK143);(try clear BK144);(try clear BK145);(try clear BK146)
     (try clear BK147);(try clear BK148);(try clear BK155);(try clear BK159)
     (try clear HB)
     generalize ((w90.setCell ⟨gb159, 0, none⟩ (.int .i64 t156)).setCell ⟨gb159, 1, none⟩ (.int .i64 t157)) = w99 at n0_ n1_ n2_ n3_ n4_ n5_ n6_ n7_ n8_ ⊢
     have BK143 := n0_
     have BK144 := n1_
     have BK145 := n2_
     have BK146 := n3_
     have BK147 := n4_
     have BK148 := n5_
     have BK155 := n6_
     have BK159 := n7_
     have HB := n8_
     clear n0_ n1_ n2_ n3_ n4_ n5_ n6_ n7_ n8_
     have n0_ := Aside0.mk (blk_drew BK143.out)
     have n1_ := Aside0.mk (blk_drew BK144.out)
     have n2_ := Aside0.mk (blk_drew BK145.out)
     have n3_ := Aside0.mk (blk_drew BK146.out)
     have n4_ := Aside0.mk (blk_drew BK147.out)
     have n5_ := Aside0.mk (blk_drew BK148.out)
     have n6_ := Aside0.mk (blk_drew BK155.out)
     have n7_ := Aside0.mk (blk_drew BK159.out)
     have n8_ := Aside0.mk (below_drew1 HB.out)
     clear BK143 BK144 BK145 BK146 BK147 BK148 BK155 BK159 HB
     have BK143 := n0_
     have BK144 := n1_
     have BK145 := n2_
     have BK146 := n3_
     have BK147 := n4_
     have BK148 := n5_
     have BK155 := n6_
     have BK159 := n7_
     have HB := n8_
     clear n0_ n1_ n2_ n3_ n4_ n5_ n6_ n7_ n8_
     refine start_ (n := 5) (S := fun w' => w'.cell? ⟨gb155, 0, none⟩ = some (.int .i64 t152) ∧ w'.cell? ⟨gb155, 1, none⟩ = some (.int .i64 t153) ∧ w'.cell? ⟨gb159, 0, none⟩ = some (.int .i64 t156) ∧ w'.cell? ⟨gb159, 1, none⟩ = some (.int .i64 t157)) (ds := []) #[false,false,false,false,false] (by kernel_rfl) rfl rfl ⟨(blk_cell BK155.out 0).trans rfl, (blk_cell BK155.out 1).trans rfl, (blk_cell BK159.out 0).trans rfl, (blk_cell BK159.out 1).trans rfl⟩ (fun hHeld => ?_)
     generalize w99.drew = w100 at BK143 BK144 BK145 BK146 BK147 BK148 BK155 BK159 HB hHeld ⊢
     refine take_ (i := 0) (N := some 79) (v := ?_) (a' := ?_) #[true,false,false,false,false] rfl rfl (by kernel_rfl) (fun _ _ _ h => h) (Or.inl ⟨by rfl, ?_⟩) hHeld ?_ ?_
     rotate_left
     ·rintro w' ⟨s0, s1, s2, s3⟩
      go_simp
      with_reducible rfl
     rotate_left
     ·simp only [Act.put, List.setIfInBounds_toArray, List.set_cons_zero, List.set_cons_succ, i64_w, i32_w]
      rfl
     refine take_ (i := 1) (N := some 80) (v := ?_) (a' := ?_) #[true,true,false,false,false] rfl rfl (by kernel_rfl) (fun _ _ _ h => h) (Or.inl ⟨by rfl, ?_⟩) hHeld ?_ ?_
     rotate_left
     ·rintro w' ⟨s0, s1, s2, s3⟩
      go_simp
      with_reducible rfl
     rotate_left
     ·simp only [Act.put, List.setIfInBounds_toArray, List.set_cons_zero, List.set_cons_succ, i64_w, i32_w]
      rfl
     refine one_ (i := 2) (N := none) #[true,true,true,false,false] rfl rfl (by kernel_rfl) (by decide) (fun K hK => ?_)
     have hs101 : w100.cell? ⟨gb147, 0, none⟩ = some (.int .i64 0) := (blk_cell BK147.out 0).trans rfl
     have hfs101 := blk_frozen BK147.out 0
     have hns101_0 := NB143_147.out
     have hns101_1 := NB144_147.out
     have hns101_2 := NB145_147.out
     have hns101_3 := NB146_147.out
     have hns101_5 := NB148_147.out
     have hns101_6 := NB155_147.out
     have hns101_7 := NB159_147.out
     have hms101_0 := NB147_143.out
     have hms101_1 := NB147_144.out
     have hms101_2 := NB147_145.out
     have hms101_3 := NB147_146.out
     have hms101_5 := NB147_148.out
     have hms101_6 := NB147_155.out
     have hms101_7 := NB147_159.out
     have hs102 : w100.cell? ⟨gb147, 1, none⟩ = some (.int .i64 0) := (blk_cell BK147.out 1).trans rfl
     have hfs102 := blk_frozen BK147.out 1
     have hns102_0 := NB143_147.out
     have hns102_1 := NB144_147.out
     have hns102_2 := NB145_147.out
     have hns102_3 := NB146_147.out
     have hns102_5 := NB148_147.out
     have hns102_6 := NB155_147.out
     have hns102_7 := NB159_147.out
     have hms102_0 := NB147_143.out
     have hms102_1 := NB147_144.out
     have hms102_2 := NB147_145.out
     have hms102_3 := NB147_146.out
     have hms102_5 := NB147_148.out
     have hms102_6 := NB147_155.out
     have hms102_7 := NB147_159.out
     refine skip_ (w1 := ?_) (by rfl) rfl ?_ ?_
     rotate_left
     ·go_simp
      rfl
     refine hK.out _ _ ⟨((cell_far (p := ⟨gb147, _, none⟩) NB155_147.out _).trans (((cell_far (p := ⟨gb147, _, none⟩) NB155_147.out _).trans (hHeld.1)))), ((cell_far (p := ⟨gb147, _, none⟩) NB155_147.out _).trans (((cell_far (p := ⟨gb147, _, none⟩) NB155_147.out _).trans (hHeld.2.1)))), ((cell_far (p := ⟨gb147, _, none⟩) NB159_147.out _).trans (((cell_far (p := ⟨gb147, _, none⟩) NB159_147.out _).trans (hHeld.2.2.1)))), ((cell_far (p := ⟨gb147, _, none⟩) NB159_147.out _).trans (((cell_far (p := ⟨gb147, _, none⟩) NB159_147.out _).trans (hHeld.2.2.2))))⟩ (fun hHeld => ?_)
     clear hK K
     refine one_ (i := 3) (N := none) #[true,true,true,true,false] rfl rfl (by kernel_rfl) (by decide) (fun K hK => ?_)
     have hs103 : w100.cell? ⟨gb148, 0, none⟩ = some (.int .i64 0) := (blk_cell BK148.out 0).trans rfl
     have hfs103 := blk_frozen BK148.out 0
     have hns103_0 := NB143_148.out
     have hns103_1 := NB144_148.out
     have hns103_2 := NB145_148.out
     have hns103_3 := NB146_148.out
     have hns103_4 := NB147_148.out
     have hns103_6 := NB155_148.out
     have hns103_7 := NB159_148.out
     have hms103_0 := NB148_143.out
     have hms103_1 := NB148_144.out
     have hms103_2 := NB148_145.out
     have hms103_3 := NB148_146.out
     have hms103_4 := NB148_147.out
     have hms103_6 := NB148_155.out
     have hms103_7 := NB148_159.out
     have hs104 : w100.cell? ⟨gb148, 1, none⟩ = some (.int .i64 0) := (blk_cell BK148.out 1).trans rfl
     have hfs104 := blk_frozen BK148.out 1
     have hns104_0 := NB143_148.out
     have hns104_1 := NB144_148.out
     have hns104_2 := NB145_148.out
     have hns104_3 := NB146_148.out
     have hns104_4 := NB147_148.out
     have hns104_6 := NB155_148.out
     have hns104_7 := NB159_148.out
     have hms104_0 := NB148_143.out
     have hms104_1 := NB148_144.out
     have hms104_2 := NB148_145.out
     have hms104_3 := NB148_146.out
     have hms104_4 := NB148_147.out
     have hms104_6 := NB148_155.out
     have hms104_7 := NB148_159.out
     refine skip_ (w1 := ?_) (by rfl) rfl ?_ ?_
     rotate_left
     ·go_simp
      rfl
     refine hK.out _ _ ⟨((cell_far (p := ⟨gb148, _, none⟩) NB155_148.out _).trans (((cell_far (p := ⟨gb148, _, none⟩) NB155_148.out _).trans (hHeld.1)))), ((cell_far (p := ⟨gb148, _, none⟩) NB155_148.out _).trans (((cell_far (p := ⟨gb148, _, none⟩) NB155_148.out _).trans (hHeld.2.1)))), ((cell_far (p := ⟨gb148, _, none⟩) NB159_148.out _).trans (((cell_far (p := ⟨gb148, _, none⟩) NB159_148.out _).trans (hHeld.2.2.1)))), ((cell_far (p := ⟨gb148, _, none⟩) NB159_148.out _).trans (((cell_far (p := ⟨gb148, _, none⟩) NB159_148.out _).trans (hHeld.2.2.2))))⟩ (fun hHeld => ?_)
     clear hK K
     refine pure_ (i := 4) (N := some 10) (v := ?_) (a' := ?_) #[true,true,true,true,true] rfl rfl (by kernel_rfl) (fun _ _ _ h => h) (Or.inl ⟨by rfl, ?_⟩) ?_ ?_
     rotate_left
     ·intro w'
      go_simp
      with_reducible rfl
     rotate_left
     ·simp only [Act.put, List.setIfInBounds_toArray, List.set_cons_zero, List.set_cons_succ, i64_w, i32_w]
      rfl
     refine done_ (by kernel_rfl) ?_
     try go_wp2
     refine bodyPost_ret (results_list (rs := [.cell 8 25, .cell 9 25, .tmp 10]) rfl (by simp) (.cell gb147 25 #[.int .i64 t152, .int .i64 t153] (0, 0) _ rfl (by (with_reducible repeat (first | refine blk_drewN ?_ _ | refine blk_drew ?_ | refine blk_alloc ?_ _)); refine blk_far ?_ NB147_148.out _; (with_reducible repeat (first | refine blk_drewN ?_ _ | refine blk_drew ?_ | refine blk_alloc ?_ _)); refine blk_far ?_ NB147_148.out _; (with_reducible repeat (first | refine blk_drewN ?_ _ | refine blk_drew ?_ | refine blk_alloc ?_ _)); refine blk_put (cs := #[.int .i64 t152, .int .i64 0]) ?_ 1 _ rfl; (with_reducible repeat (first | refine blk_drewN ?_ _ | refine blk_drew ?_ | refine blk_alloc ?_ _)); refine blk_put (cs := #[.int .i64 0, .int .i64 0]) ?_ 0 _ rfl; (with_reducible repeat (first | refine blk_drewN ?_ _ | refine blk_drew ?_ | refine blk_alloc ?_ _)); exact BK147.out) Try.underlying25 rfl (by kernel_rfl) (.cell gb148 25 #[.int .i64 t156, .int .i64 t157] (0, 0) _ rfl (by (with_reducible repeat (first | refine blk_drewN ?_ _ | refine blk_drew ?_ | refine blk_alloc ?_ _)); refine blk_put (cs := #[.int .i64 t156, .int .i64 0]) ?_ 1 _ rfl; (with_reducible repeat (first | refine blk_drewN ?_ _ | refine blk_drew ?_ | refine blk_alloc ?_ _)); refine blk_put (cs := #[.int .i64 0, .int .i64 0]) ?_ 0 _ rfl; (with_reducible repeat (first | refine blk_drewN ?_ _ | refine blk_drew ?_ | refine blk_alloc ?_ _)); refine blk_far ?_ NB148_147.out _; (with_reducible repeat (first | refine blk_drewN ?_ _ | refine blk_drew ?_ | refine blk_alloc ?_ _)); refine blk_far ?_ NB148_147.out _; (with_reducible repeat (first | refine blk_drewN ?_ _ | refine blk_drew ?_ | refine blk_alloc ?_ _)); exact BK148.out) Try.underlying25 rfl (by kernel_rfl) (.tmp .nil)))) rfl ?_
     exact ⟨er, lb HB.out⟩
    ·replace c45 := Bool.eq_false_iff.mpr c45
     subst c45
     have H1 : (some (0, 0, 0, 0, false)) = some (r1, r2, r3, r4, r5) := by rw [if_neg (show ¬ (false = true) by decide)] at H; exact H
     clear H
     have H := H1
     clear H1
     simp only [Option.some.injEq, Prod.mk.injEq] at H
     obtain ⟨rfl, rfl, rfl, rfl, rfl⟩ := H
     go_enter Try.func4, Try.ntmps4
     go_wp2_with (first | ((with_reducible refine gate_dst (N := 4) rfl ?_); refine bx_ 4 (cs := #[.int .i64 a0_0, .int .i64 a0_1]) (t := 28) ?_; intro gb143 hg w105 hbox hb; have n0_ := Aside0.mk (below_step (lb HB.out) hb); have n1_ := Aside0.mk (hbox); have n2_ := Aside0.mk ((by rw [hg]; exact (below_size (lb HB.out)) : w.heap.size ≤ gb143)); have n3_ := Aside0.mk ((by rw [hg]; exact (below_size (lb HB.out)) : w.heap.size ≤ gb143)); clear HB; have HB := n0_; have BK143 := n1_; have GW143 := n2_; have GE143 := n3_; clear n0_ n1_ n2_ n3_; clear hb hbox hg) | ((with_reducible refine gate_dst (N := 5) rfl ?_); refine bx_ 5 (cs := #[.int .i64 a1_0, .int .i64 a1_1]) (t := 28) ?_; intro gb144 hg w106 hbox hb; have n0_ := Aside0.mk (blk_below (bf BK143.out) hb); have n1_ := Aside0.mk (below_step (lb HB.out) hb); have n2_ := Aside0.mk (hbox); have n3_ := Aside0.mk ((by rw [hg]; exact (below_size (lb HB.out)) : w.heap.size ≤ gb144)); have n4_ := Aside0.mk ((by rw [hg]; exact (below_size (lb HB.out)) : w.heap.size ≤ gb144)); have n5_ := Aside0.mk ((by rw [hg]; exact Nat.ne_of_lt (blk_lt (bf BK143.out)) : gb143 ≠ gb144)); have n6_ := Aside0.mk ((by rw [hg]; exact Nat.ne_of_gt (blk_lt (bf BK143.out)) : gb144 ≠ gb143)); clear BK143; clear HB; have BK143 := n0_; have HB := n1_; have BK144 := n2_; have GW144 := n3_; have GE144 := n4_; have NB143_144 := n5_; have NB144_143 := n6_; clear n0_ n1_ n2_ n3_ n4_ n5_ n6_; clear hb hbox hg) | ((with_reducible refine gate_dst (N := 6) rfl ?_); refine bx_ 6 (cs := #[.int .i64 a2_0, .int .i64 a2_1]) (t := 28) ?_; intro gb145 hg w107 hbox hb; have n0_ := Aside0.mk (blk_below (bf BK143.out) hb); have n1_ := Aside0.mk (blk_below (bf BK144.out) hb); have n2_ := Aside0.mk (below_step (lb HB.out) hb); have n3_ := Aside0.mk (hbox); have n4_ := Aside0.mk ((by rw [hg]; exact (below_size (lb HB.out)) : w.heap.size ≤ gb145)); have n5_ := Aside0.mk ((by rw [hg]; exact (below_size (lb HB.out)) : w.heap.size ≤ gb145)); have n6_ := Aside0.mk ((by rw [hg]; exact Nat.ne_of_lt (blk_lt (bf BK143.out)) : gb143 ≠ gb145)); have n7_ := Aside0.mk ((by rw [hg]; exact Nat.ne_of_gt (blk_lt (bf BK143.out)) : gb145 ≠ gb143)); have n8_ := Aside0.mk ((by rw [hg]; exact Nat.ne_of_lt (blk_lt (bf BK144.out)) : gb144 ≠ gb145)); have n9_ := Aside0.mk ((by rw [hg]; exact Nat.ne_of_gt (blk_lt (bf BK144.out)) : gb145 ≠ gb144)); clear BK143; clear BK144; clear HB; have BK143 := n0_; have BK144 := n1_; have HB := n2_; have BK145 := n3_; have GW145 := n4_; have GE145 := n5_; have NB143_145 := n6_; have NB145_143 := n7_; have NB144_145 := n8_; have NB145_144 := n9_; clear n0_ n1_ n2_ n3_ n4_ n5_ n6_ n7_ n8_ n9_; clear hb hbox hg) | ((with_reducible refine gate_dst (N := 7) rfl ?_); refine bx_ 7 (cs := #[.int .i64 a3_0, .int .i64 a3_1]) (t := 28) ?_; intro gb146 hg w108 hbox hb; have n0_ := Aside0.mk (blk_below (bf BK143.out) hb); have n1_ := Aside0.mk (blk_below (bf BK144.out) hb); have n2_ := Aside0.mk (blk_below (bf BK145.out) hb); have n3_ := Aside0.mk (below_step (lb HB.out) hb); have n4_ := Aside0.mk (hbox); have n5_ := Aside0.mk ((by rw [hg]; exact (below_size (lb HB.out)) : w.heap.size ≤ gb146)); have n6_ := Aside0.mk ((by rw [hg]; exact (below_size (lb HB.out)) : w.heap.size ≤ gb146)); have n7_ := Aside0.mk ((by rw [hg]; exact Nat.ne_of_lt (blk_lt (bf BK143.out)) : gb143 ≠ gb146)); have n8_ := Aside0.mk ((by rw [hg]; exact Nat.ne_of_gt (blk_lt (bf BK143.out)) : gb146 ≠ gb143)); have n9_ := Aside0.mk ((by rw [hg]; exact Nat.ne_of_lt (blk_lt (bf BK144.out)) : gb144 ≠ gb146)); have n10_ := Aside0.mk ((by rw [hg]; exact Nat.ne_of_gt (blk_lt (bf BK144.out)) : gb146 ≠ gb144)); have n11_ := Aside0.mk ((by rw [hg]; exact Nat.ne_of_lt (blk_lt (bf BK145.out)) : gb145 ≠ gb146)); have n12_ := Aside0.mk ((by rw [hg]; exact Nat.ne_of_gt (blk_lt (bf BK145.out)) : gb146 ≠ gb145)); clear BK143; clear BK144; clear BK145; clear HB; have BK143 := n0_; have BK144 := n1_; have BK145 := n2_; have HB := n3_; have BK146 := n4_; have GW146 := n5_; have GE146 := n6_; have NB143_146 := n7_; have NB146_143 := n8_; have NB144_146 := n9_; have NB146_144 := n10_; have NB145_146 := n11_; have NB146_145 := n12_; clear n0_ n1_ n2_ n3_ n4_ n5_ n6_ n7_ n8_ n9_ n10_ n11_ n12_; clear hb hbox hg) | ((with_reducible refine gate_dst (N := 8) rfl ?_); refine bx_ 8 (cs := #[.int .i64 0, .int .i64 0]) (t := 25) ?_; intro gb147 hg w109 hbox hb; have n0_ := Aside0.mk (blk_below (bf BK143.out) hb); have n1_ := Aside0.mk (blk_below (bf BK144.out) hb); have n2_ := Aside0.mk (blk_below (bf BK145.out) hb); have n3_ := Aside0.mk (blk_below (bf BK146.out) hb); have n4_ := Aside0.mk (below_step (lb HB.out) hb); have n5_ := Aside0.mk (hbox); have n6_ := Aside0.mk ((by rw [hg]; exact (below_size (lb HB.out)) : w.heap.size ≤ gb147)); have n7_ := Aside0.mk ((by rw [hg]; exact (below_size (lb HB.out)) : w.heap.size ≤ gb147)); have n8_ := Aside0.mk ((by rw [hg]; exact Nat.ne_of_lt (blk_lt (bf BK143.out)) : gb143 ≠ gb147)); have n9_ := Aside0.mk ((by rw [hg]; exact Nat.ne_of_gt (blk_lt (bf BK143.out)) : gb147 ≠ gb143)); have n10_ := Aside0.mk ((by rw [hg]; exact Nat.ne_of_lt (blk_lt (bf BK144.out)) : gb144 ≠ gb147)); have n11_ := Aside0.mk ((by rw [hg]; exact Nat.ne_of_gt (blk_lt (bf BK144.out)) : gb147 ≠ gb144)); have n12_ := Aside0.mk ((by rw [hg]; exact Nat.ne_of_lt (blk_lt (bf BK145.out)) : gb145 ≠ gb147)); have n13_ := Aside0.mk ((by rw [hg]; exact Nat.ne_of_gt (blk_lt (bf BK145.out)) : gb147 ≠ gb145)); have n14_ := Aside0.mk ((by rw [hg]; exact Nat.ne_of_lt (blk_lt (bf BK146.out)) : gb146 ≠ gb147)); have n15_ := Aside0.mk ((by rw [hg]; exact Nat.ne_of_gt (blk_lt (bf BK146.out)) : gb147 ≠ gb146)); clear BK143; clear BK144; clear BK145; clear BK146; clear HB; have BK143 := n0_; have BK144 := n1_; have BK145 := n2_; have BK146 := n3_; have HB := n4_; have BK147 := n5_; have GW147 := n6_; have GE147 := n7_; have NB143_147 := n8_; have NB147_143 := n9_; have NB144_147 := n10_; have NB147_144 := n11_; have NB145_147 := n12_; have NB147_145 := n13_; have NB146_147 := n14_; have NB147_146 := n15_; clear n0_ n1_ n2_ n3_ n4_ n5_ n6_ n7_ n8_ n9_ n10_ n11_ n12_ n13_ n14_ n15_; clear hb hbox hg) | ((with_reducible refine gate_dst (N := 9) rfl ?_); refine bx_ 9 (cs := #[.int .i64 0, .int .i64 0]) (t := 25) ?_; intro gb148 hg w110 hbox hb; have n0_ := Aside0.mk (blk_below (bf BK143.out) hb); have n1_ := Aside0.mk (blk_below (bf BK144.out) hb); have n2_ := Aside0.mk (blk_below (bf BK145.out) hb); have n3_ := Aside0.mk (blk_below (bf BK146.out) hb); have n4_ := Aside0.mk (blk_below (bf BK147.out) hb); have n5_ := Aside0.mk (below_step (lb HB.out) hb); have n6_ := Aside0.mk (hbox); have n7_ := Aside0.mk ((by rw [hg]; exact (below_size (lb HB.out)) : w.heap.size ≤ gb148)); have n8_ := Aside0.mk ((by rw [hg]; exact (below_size (lb HB.out)) : w.heap.size ≤ gb148)); have n9_ := Aside0.mk ((by rw [hg]; exact Nat.ne_of_lt (blk_lt (bf BK143.out)) : gb143 ≠ gb148)); have n10_ := Aside0.mk ((by rw [hg]; exact Nat.ne_of_gt (blk_lt (bf BK143.out)) : gb148 ≠ gb143)); have n11_ := Aside0.mk ((by rw [hg]; exact Nat.ne_of_lt (blk_lt (bf BK144.out)) : gb144 ≠ gb148)); have n12_ := Aside0.mk ((by rw [hg]; exact Nat.ne_of_gt (blk_lt (bf BK144.out)) : gb148 ≠ gb144)); have n13_ := Aside0.mk ((by rw [hg]; exact Nat.ne_of_lt (blk_lt (bf BK145.out)) : gb145 ≠ gb148)); have n14_ := Aside0.mk ((by rw [hg]; exact Nat.ne_of_gt (blk_lt (bf BK145.out)) : gb148 ≠ gb145)); have n15_ := Aside0.mk ((by rw [hg]; exact Nat.ne_of_lt (blk_lt (bf BK146.out)) : gb146 ≠ gb148)); have n16_ := Aside0.mk ((by rw [hg]; exact Nat.ne_of_gt (blk_lt (bf BK146.out)) : gb148 ≠ gb146)); have n17_ := Aside0.mk ((by rw [hg]; exact Nat.ne_of_lt (blk_lt (bf BK147.out)) : gb147 ≠ gb148)); have n18_ := Aside0.mk ((by rw [hg]; exact Nat.ne_of_gt (blk_lt (bf BK147.out)) : gb148 ≠ gb147)); clear BK143; clear BK144; clear BK145; clear BK146; clear BK147; clear HB; have BK143 := n0_; have BK144 := n1_; have BK145 := n2_; have BK146 := n3_; have BK147 := n4_; have HB := n5_; have BK148 := n6_; have GW148 := n7_; have GE148 := n8_; have NB143_148 := n9_; have NB148_143 := n10_; have NB144_148 := n11_; have NB148_144 := n12_; have NB145_148 := n13_; have NB148_145 := n14_; have NB146_148 := n15_; have NB148_146 := n16_; have NB147_148 := n17_; have NB148_147 := n18_; clear n0_ n1_ n2_ n3_ n4_ n5_ n6_ n7_ n8_ n9_ n10_ n11_ n12_ n13_ n14_ n15_ n16_ n17_ n18_; clear hb hbox hg; have hnb111 := NB143_144.out; have hnc111 := NB144_143.out; have hnb112 := NB143_145.out; have hnc112 := NB145_143.out; have hnb113 := NB143_146.out; have hnc113 := NB146_143.out; have hnb114 := NB143_147.out; have hnc114 := NB147_143.out; have hnb115 := NB143_148.out; have hnc115 := NB148_143.out; have hcz116_0 : w110.cell? ⟨gb143, 0, none⟩ = some (.int .i64 a0_0) := (blk_cell BK143.out 0).trans rfl; have hcz116_1 : w110.cell? ⟨gb143, 1, none⟩ = some (.int .i64 a0_1) := (blk_cell BK143.out 1).trans rfl; have hfz116_0 := blk_frozen BK143.out 0; have hfz116_1 := blk_frozen BK143.out 1; have hnb117 := NB144_145.out; have hnc117 := NB145_144.out; have hnb118 := NB144_146.out; have hnc118 := NB146_144.out; have hnb119 := NB144_147.out; have hnc119 := NB147_144.out; have hnb120 := NB144_148.out; have hnc120 := NB148_144.out; have hcz121_0 : w110.cell? ⟨gb144, 0, none⟩ = some (.int .i64 a1_0) := (blk_cell BK144.out 0).trans rfl; have hcz121_1 : w110.cell? ⟨gb144, 1, none⟩ = some (.int .i64 a1_1) := (blk_cell BK144.out 1).trans rfl; have hfz121_0 := blk_frozen BK144.out 0; have hfz121_1 := blk_frozen BK144.out 1; have hnb122 := NB145_146.out; have hnc122 := NB146_145.out; have hnb123 := NB145_147.out; have hnc123 := NB147_145.out; have hnb124 := NB145_148.out; have hnc124 := NB148_145.out; have hcz125_0 : w110.cell? ⟨gb145, 0, none⟩ = some (.int .i64 a2_0) := (blk_cell BK145.out 0).trans rfl; have hcz125_1 : w110.cell? ⟨gb145, 1, none⟩ = some (.int .i64 a2_1) := (blk_cell BK145.out 1).trans rfl; have hfz125_0 := blk_frozen BK145.out 0; have hfz125_1 := blk_frozen BK145.out 1; have hnb126 := NB146_147.out; have hnc126 := NB147_146.out; have hnb127 := NB146_148.out; have hnc127 := NB148_146.out; have hcz128_0 : w110.cell? ⟨gb146, 0, none⟩ = some (.int .i64 a3_0) := (blk_cell BK146.out 0).trans rfl; have hcz128_1 : w110.cell? ⟨gb146, 1, none⟩ = some (.int .i64 a3_1) := (blk_cell BK146.out 1).trans rfl; have hfz128_0 := blk_frozen BK146.out 0; have hfz128_1 := blk_frozen BK146.out 1) | ((with_reducible refine gate_callee (f := 8) rfl ?_); refine goesL_ (some 21) rfl rfl Try.func8 (by kernel_rfl) rfl #[.agg #[.int .i64 a0_0, .int .i64 a0_1], .agg #[.int .i64 a1_0, .int .i64 a1_1], .agg #[.int .i64 a2_0, .int .i64 a2_1], .agg #[.int .i64 a3_0, .int .i64 a3_1]] rfl al ?_; (with_reducible refine (spec_l34Ok.calls a0_0 a0_1 a1_0 a1_1 a2_0 a2_1 a3_0 a3_1 true _ A5.out).mono ?_); rintro e w129 ⟨rfl, hb⟩; refine ⟨_, rfl, ?_⟩; have n0_ := Aside0.mk (blk_below (bf BK143.out) hb); have n1_ := Aside0.mk (blk_below (bf BK144.out) hb); have n2_ := Aside0.mk (blk_below (bf BK145.out) hb); have n3_ := Aside0.mk (blk_below (bf BK146.out) hb); have n4_ := Aside0.mk (blk_below (bf BK147.out) hb); have n5_ := Aside0.mk (blk_below (bf BK148.out) hb); have n6_ := Aside0.mk (below_step (lb HB.out) hb); clear BK143; clear BK144; clear BK145; clear BK146; clear BK147; clear BK148; clear HB; have BK143 := n0_; have BK144 := n1_; have BK145 := n2_; have BK146 := n3_; have BK147 := n4_; have BK148 := n5_; have HB := n6_; clear n0_ n1_ n2_ n3_ n4_ n5_ n6_; (try clear hb); (try clear hb2); (try clear hk); (try clear hi); have hcz130_0 : w129.cell? ⟨gb143, 0, none⟩ = some (.int .i64 a0_0) := (blk_cell BK143.out 0).trans rfl; have hcz130_1 : w129.cell? ⟨gb143, 1, none⟩ = some (.int .i64 a0_1) := (blk_cell BK143.out 1).trans rfl; have hfz130_0 := blk_frozen BK143.out 0; have hfz130_1 := blk_frozen BK143.out 1; have hcz131_0 : w129.cell? ⟨gb144, 0, none⟩ = some (.int .i64 a1_0) := (blk_cell BK144.out 0).trans rfl; have hcz131_1 : w129.cell? ⟨gb144, 1, none⟩ = some (.int .i64 a1_1) := (blk_cell BK144.out 1).trans rfl; have hfz131_0 := blk_frozen BK144.out 0; have hfz131_1 := blk_frozen BK144.out 1; have hcz132_0 : w129.cell? ⟨gb145, 0, none⟩ = some (.int .i64 a2_0) := (blk_cell BK145.out 0).trans rfl; have hcz132_1 : w129.cell? ⟨gb145, 1, none⟩ = some (.int .i64 a2_1) := (blk_cell BK145.out 1).trans rfl; have hfz132_0 := blk_frozen BK145.out 0; have hfz132_1 := blk_frozen BK145.out 1; have hcz133_0 : w129.cell? ⟨gb146, 0, none⟩ = some (.int .i64 a3_0) := (blk_cell BK146.out 0).trans rfl; have hcz133_1 : w129.cell? ⟨gb146, 1, none⟩ = some (.int .i64 a3_1) := (blk_cell BK146.out 1).trans rfl; have hfz133_0 := blk_frozen BK146.out 0; have hfz133_1 := blk_frozen BK146.out 1) | ((with_reducible refine gate_callee (f := 9) rfl ?_); refine goesL_ (some 30) rfl rfl Try.func9 (by kernel_rfl) rfl #[.agg #[.int .i64 a0_0, .int .i64 a0_1], .agg #[.int .i64 a1_0, .int .i64 a1_1], .agg #[.int .i64 a2_0, .int .i64 a2_1], .agg #[.int .i64 a3_0, .int .i64 a3_1]] rfl al ?_; (with_reducible refine (spec_l34Parts.calls a0_0 a0_1 a1_0 a1_1 a2_0 a2_1 a3_0 a3_1 t150 t151 _ A7.out).mono ?_); rintro e w134 ⟨rfl, hb⟩; refine ⟨_, rfl, ?_⟩; have n0_ := Aside0.mk (blk_below (bf BK143.out) hb); have n1_ := Aside0.mk (blk_below (bf BK144.out) hb); have n2_ := Aside0.mk (blk_below (bf BK145.out) hb); have n3_ := Aside0.mk (blk_below (bf BK146.out) hb); have n4_ := Aside0.mk (blk_below (bf BK147.out) hb); have n5_ := Aside0.mk (blk_below (bf BK148.out) hb); have n6_ := Aside0.mk (below_step (lb HB.out) hb); clear BK143; clear BK144; clear BK145; clear BK146; clear BK147; clear BK148; clear HB; have BK143 := n0_; have BK144 := n1_; have BK145 := n2_; have BK146 := n3_; have BK147 := n4_; have BK148 := n5_; have HB := n6_; clear n0_ n1_ n2_ n3_ n4_ n5_ n6_; (try clear hb); (try clear hb2); (try clear hk); (try clear hi); have hcz135_0 : w134.cell? ⟨gb143, 0, none⟩ = some (.int .i64 a0_0) := (blk_cell BK143.out 0).trans rfl; have hcz135_1 : w134.cell? ⟨gb143, 1, none⟩ = some (.int .i64 a0_1) := (blk_cell BK143.out 1).trans rfl; have hfz135_0 := blk_frozen BK143.out 0; have hfz135_1 := blk_frozen BK143.out 1; have hcz136_0 : w134.cell? ⟨gb144, 0, none⟩ = some (.int .i64 a1_0) := (blk_cell BK144.out 0).trans rfl; have hcz136_1 : w134.cell? ⟨gb144, 1, none⟩ = some (.int .i64 a1_1) := (blk_cell BK144.out 1).trans rfl; have hfz136_0 := blk_frozen BK144.out 0; have hfz136_1 := blk_frozen BK144.out 1) | ((with_reducible refine gate_callee (f := 10) rfl ?_); refine goesL_ (some 51) rfl rfl Try.func10 (by kernel_rfl) rfl #[.int .i64 (wrap64 ((wrap64 (a0_0 * t151)) + (wrap64 (t150 * (wrap64 (a1_0 - a0_0)))))), .int .i64 t151] rfl al ?_; (with_reducible refine (spec_QuoOf.calls k (wrap64 ((wrap64 (a0_0 * t151)) + (wrap64 (t150 * (wrap64 (a1_0 - a0_0)))))) t151 t152 t153 true _ A42.out).mono ?_); rintro e w137 ⟨rfl, hb⟩; refine ⟨_, rfl, ?_⟩; have n0_ := Aside0.mk (blk_below (bf BK143.out) hb); have n1_ := Aside0.mk (blk_below (bf BK144.out) hb); have n2_ := Aside0.mk (blk_below (bf BK145.out) hb); have n3_ := Aside0.mk (blk_below (bf BK146.out) hb); have n4_ := Aside0.mk (blk_below (bf BK147.out) hb); have n5_ := Aside0.mk (blk_below (bf BK148.out) hb); have n6_ := Aside0.mk (below_step (lb HB.out) hb); clear BK143; clear BK144; clear BK145; clear BK146; clear BK147; clear BK148; clear HB; have BK143 := n0_; have BK144 := n1_; have BK145 := n2_; have BK146 := n3_; have BK147 := n4_; have BK148 := n5_; have HB := n6_; clear n0_ n1_ n2_ n3_ n4_ n5_ n6_; (try clear hb); (try clear hb2); (try clear hk); (try clear hi)) | ((with_reducible refine gate_dst (N := 13) rfl ?_); refine bx_ 13 (cs := #[.int .i64 0, .int .i64 0]) (t := 25) ?_; intro gb155 hg w138 hbox hb; have n0_ := Aside0.mk (blk_below (bf BK143.out) hb); have n1_ := Aside0.mk (blk_below (bf BK144.out) hb); have n2_ := Aside0.mk (blk_below (bf BK145.out) hb); have n3_ := Aside0.mk (blk_below (bf BK146.out) hb); have n4_ := Aside0.mk (blk_below (bf BK147.out) hb); have n5_ := Aside0.mk (blk_below (bf BK148.out) hb); have n6_ := Aside0.mk (below_step (lb HB.out) hb); have n7_ := Aside0.mk (hbox); have n8_ := Aside0.mk ((by rw [hg]; exact (below_size (lb HB.out)) : w.heap.size ≤ gb155)); have n9_ := Aside0.mk ((by rw [hg]; exact (below_size (lb HB.out)) : w.heap.size ≤ gb155)); have n10_ := Aside0.mk ((by rw [hg]; exact Nat.ne_of_lt (blk_lt (bf BK143.out)) : gb143 ≠ gb155)); have n11_ := Aside0.mk ((by rw [hg]; exact Nat.ne_of_gt (blk_lt (bf BK143.out)) : gb155 ≠ gb143)); have n12_ := Aside0.mk ((by rw [hg]; exact Nat.ne_of_lt (blk_lt (bf BK144.out)) : gb144 ≠ gb155)); have n13_ := Aside0.mk ((by rw [hg]; exact Nat.ne_of_gt (blk_lt (bf BK144.out)) : gb155 ≠ gb144)); have n14_ := Aside0.mk ((by rw [hg]; exact Nat.ne_of_lt (blk_lt (bf BK145.out)) : gb145 ≠ gb155)); have n15_ := Aside0.mk ((by rw [hg]; exact Nat.ne_of_gt (blk_lt (bf BK145.out)) : gb155 ≠ gb145)); have n16_ := Aside0.mk ((by rw [hg]; exact Nat.ne_of_lt (blk_lt (bf BK146.out)) : gb146 ≠ gb155)); have n17_ := Aside0.mk ((by rw [hg]; exact Nat.ne_of_gt (blk_lt (bf BK146.out)) : gb155 ≠ gb146)); have n18_ := Aside0.mk ((by rw [hg]; exact Nat.ne_of_lt (blk_lt (bf BK147.out)) : gb147 ≠ gb155)); have n19_ := Aside0.mk ((by rw [hg]; exact Nat.ne_of_gt (blk_lt (bf BK147.out)) : gb155 ≠ gb147)); have n20_ := Aside0.mk ((by rw [hg]; exact Nat.ne_of_lt (blk_lt (bf BK148.out)) : gb148 ≠ gb155)); have n21_ := Aside0.mk ((by rw [hg]; exact Nat.ne_of_gt (blk_lt (bf BK148.out)) : gb155 ≠ gb148)); clear BK143; clear BK144; clear BK145; clear BK146; clear BK147; clear BK148; clear HB; have BK143 := n0_; have BK144 := n1_; have BK145 := n2_; have BK146 := n3_; have BK147 := n4_; have BK148 := n5_; have HB := n6_; have BK155 := n7_; have GW155 := n8_; have GE155 := n9_; have NB143_155 := n10_; have NB155_143 := n11_; have NB144_155 := n12_; have NB155_144 := n13_; have NB145_155 := n14_; have NB155_145 := n15_; have NB146_155 := n16_; have NB155_146 := n17_; have NB147_155 := n18_; have NB155_147 := n19_; have NB148_155 := n20_; have NB155_148 := n21_; clear n0_ n1_ n2_ n3_ n4_ n5_ n6_ n7_ n8_ n9_ n10_ n11_ n12_ n13_ n14_ n15_ n16_ n17_ n18_ n19_ n20_ n21_; clear hb hbox hg; have hnb139 := NB155_143.out; have hnc139 := NB143_155.out; have hnb140 := NB155_144.out; have hnc140 := NB144_155.out; have hnb141 := NB155_145.out; have hnc141 := NB145_155.out; have hnb142 := NB155_146.out; have hnc142 := NB146_155.out; have hnb143 := NB155_147.out; have hnc143 := NB147_155.out; have hnb144 := NB155_148.out; have hnc144 := NB148_155.out; have hcz145_0 : w138.cell? ⟨gb155, 0, none⟩ = some (.int .i64 0) := (blk_cell BK155.out 0).trans rfl; have hcz145_1 : w138.cell? ⟨gb155, 1, none⟩ = some (.int .i64 0) := (blk_cell BK155.out 1).trans rfl; have hfz145_0 := blk_frozen BK155.out 0; have hfz145_1 := blk_frozen BK155.out 1; have hcz146_0 : w138.cell? ⟨gb143, 0, none⟩ = some (.int .i64 a0_0) := (blk_cell BK143.out 0).trans rfl; have hcz146_1 : w138.cell? ⟨gb143, 1, none⟩ = some (.int .i64 a0_1) := (blk_cell BK143.out 1).trans rfl; have hfz146_0 := blk_frozen BK143.out 0; have hfz146_1 := blk_frozen BK143.out 1; have hcz147_0 : w138.cell? ⟨gb144, 0, none⟩ = some (.int .i64 a1_0) := (blk_cell BK144.out 0).trans rfl; have hcz147_1 : w138.cell? ⟨gb144, 1, none⟩ = some (.int .i64 a1_1) := (blk_cell BK144.out 1).trans rfl; have hfz147_0 := blk_frozen BK144.out 0; have hfz147_1 := blk_frozen BK144.out 1) | ((with_reducible refine gate_callee (f := 10) rfl ?_); refine goesL_ (some 68) rfl rfl Try.func10 (by kernel_rfl) rfl #[.int .i64 (wrap64 ((wrap64 (a0_1 * t151)) + (wrap64 (t150 * (wrap64 (a1_1 - a0_1)))))), .int .i64 t151] rfl al ?_; (with_reducible refine (spec_QuoOf.calls k (wrap64 ((wrap64 (a0_1 * t151)) + (wrap64 (t150 * (wrap64 (a1_1 - a0_1)))))) t151 t156 t157 false _ A43.out).mono ?_); rintro e w148 ⟨rfl, hb⟩; refine ⟨_, rfl, ?_⟩; have n0_ := Aside0.mk (blk_below (bf BK143.out) hb); have n1_ := Aside0.mk (blk_below (bf BK144.out) hb); have n2_ := Aside0.mk (blk_below (bf BK145.out) hb); have n3_ := Aside0.mk (blk_below (bf BK146.out) hb); have n4_ := Aside0.mk (blk_below (bf BK147.out) hb); have n5_ := Aside0.mk (blk_below (bf BK148.out) hb); have n6_ := Aside0.mk (blk_below (bp BK155.out) hb); have n7_ := Aside0.mk (below_step (lb HB.out) hb); clear BK143; clear BK144; clear BK145; clear BK146; clear BK147; clear BK148; clear BK155; clear HB; have BK143 := n0_; have BK144 := n1_; have BK145 := n2_; have BK146 := n3_; have BK147 := n4_; have BK148 := n5_; have BK155 := n6_; have HB := n7_; clear n0_ n1_ n2_ n3_ n4_ n5_ n6_ n7_; (try clear hb); (try clear hb2); (try clear hk); (try clear hi)) | ((with_reducible refine gate_dst (N := 15) rfl ?_); refine bx_ 15 (cs := #[.int .i64 0, .int .i64 0]) (t := 25) ?_; intro gb159 hg w149 hbox hb; have n0_ := Aside0.mk (blk_below (bf BK143.out) hb); have n1_ := Aside0.mk (blk_below (bf BK144.out) hb); have n2_ := Aside0.mk (blk_below (bf BK145.out) hb); have n3_ := Aside0.mk (blk_below (bf BK146.out) hb); have n4_ := Aside0.mk (blk_below (bf BK147.out) hb); have n5_ := Aside0.mk (blk_below (bf BK148.out) hb); have n6_ := Aside0.mk (blk_below (bf BK155.out) hb); have n7_ := Aside0.mk (below_step (lb HB.out) hb); have n8_ := Aside0.mk (hbox); have n9_ := Aside0.mk ((by rw [hg]; exact (below_size (lb HB.out)) : w.heap.size ≤ gb159)); have n10_ := Aside0.mk ((by rw [hg]; exact (below_size (lb HB.out)) : w.heap.size ≤ gb159)); have n11_ := Aside0.mk ((by rw [hg]; exact Nat.ne_of_lt (blk_lt (bf BK143.out)) : gb143 ≠ gb159)); have n12_ := Aside0.mk ((by rw [hg]; exact Nat.ne_of_gt (blk_lt (bf BK143.out)) : gb159 ≠ gb143)); have n13_ := Aside0.mk ((by rw [hg]; exact Nat.ne_of_lt (blk_lt (bf BK144.out)) : gb144 ≠ gb159)); have n14_ := Aside0.mk ((by rw [hg]; exact Nat.ne_of_gt (blk_lt (bf BK144.out)) : gb159 ≠ gb144)); have n15_ := Aside0.mk ((by rw [hg]; exact Nat.ne_of_lt (blk_lt (bf BK145.out)) : gb145 ≠ gb159)); have n16_ := Aside0.mk ((by rw [hg]; exact Nat.ne_of_gt (blk_lt (bf BK145.out)) : gb159 ≠ gb145)); have n17_ := Aside0.mk ((by rw [hg]; exact Nat.ne_of_lt (blk_lt (bf BK146.out)) : gb146 ≠ gb159)); have n18_ := Aside0.mk ((by rw [hg]; exact Nat.ne_of_gt (blk_lt (bf BK146.out)) : gb159 ≠ gb146)); have n19_ := Aside0.mk ((by rw [hg]; exact Nat.ne_of_lt (blk_lt (bf BK147.out)) : gb147 ≠ gb159)); have n20_ := Aside0.mk ((by rw [hg]; exact Nat.ne_of_gt (blk_lt (bf BK147.out)) : gb159 ≠ gb147)); have n21_ := Aside0.mk ((by rw [hg]; exact Nat.ne_of_lt (blk_lt (bf BK148.out)) : gb148 ≠ gb159)); have n22_ := Aside0.mk ((by rw [hg]; exact Nat.ne_of_gt (blk_lt (bf BK148.out)) : gb159 ≠ gb148)); have n23_ := Aside0.mk ((by rw [hg]; exact Nat.ne_of_lt (blk_lt (bf BK155.out)) : gb155 ≠ gb159)); have n24_ := Aside0.mk ((by rw [hg]; exact Nat.ne_of_gt (blk_lt (bf BK155.out)) : gb159 ≠ gb155)); clear BK143; clear BK144; clear BK145; clear BK146; clear BK147; clear BK148; clear BK155; clear HB; have BK143 := n0_; have BK144 := n1_; have BK145 := n2_; have BK146 := n3_; have BK147 := n4_; have BK148 := n5_; have BK155 := n6_; have HB := n7_; have BK159 := n8_; have GW159 := n9_; have GE159 := n10_; have NB143_159 := n11_; have NB159_143 := n12_; have NB144_159 := n13_; have NB159_144 := n14_; have NB145_159 := n15_; have NB159_145 := n16_; have NB146_159 := n17_; have NB159_146 := n18_; have NB147_159 := n19_; have NB159_147 := n20_; have NB148_159 := n21_; have NB159_148 := n22_; have NB155_159 := n23_; have NB159_155 := n24_; clear n0_ n1_ n2_ n3_ n4_ n5_ n6_ n7_ n8_ n9_ n10_ n11_ n12_ n13_ n14_ n15_ n16_ n17_ n18_ n19_ n20_ n21_ n22_ n23_ n24_; clear hb hbox hg; have hnb150 := NB159_143.out; have hnc150 := NB143_159.out; have hnb151 := NB159_144.out; have hnc151 := NB144_159.out; have hnb152 := NB159_145.out; have hnc152 := NB145_159.out; have hnb153 := NB159_146.out; have hnc153 := NB146_159.out; have hnb154 := NB159_147.out; have hnc154 := NB147_159.out; have hnb155 := NB159_148.out; have hnc155 := NB148_159.out; have hnb156 := NB159_155.out; have hnc156 := NB155_159.out; have hcz157_0 : w149.cell? ⟨gb159, 0, none⟩ = some (.int .i64 0) := (blk_cell BK159.out 0).trans rfl; have hcz157_1 : w149.cell? ⟨gb159, 1, none⟩ = some (.int .i64 0) := (blk_cell BK159.out 1).trans rfl; have hfz157_0 := blk_frozen BK159.out 0; have hfz157_1 := blk_frozen BK159.out 1; have hnb158 := NB147_148.out; have hnc158 := NB148_147.out; have hcz159_0 : w149.cell? ⟨gb147, 0, none⟩ = some (.int .i64 0) := (blk_cell BK147.out 0).trans rfl; have hcz159_1 : w149.cell? ⟨gb147, 1, none⟩ = some (.int .i64 0) := (blk_cell BK147.out 1).trans rfl; have hfz159_0 := blk_frozen BK147.out 0; have hfz159_1 := blk_frozen BK147.out 1; have hcz160_0 : w149.cell? ⟨gb148, 0, none⟩ = some (.int .i64 0) := (blk_cell BK148.out 0).trans rfl; have hcz160_1 : w149.cell? ⟨gb148, 1, none⟩ = some (.int .i64 0) := (blk_cell BK148.out 1).trans rfl; have hfz160_0 := blk_frozen BK148.out 0; have hfz160_1 := blk_frozen BK148.out 1))
     refine bodyPost_ret (results_list (rs := [.cell 8 25, .cell 9 25, .tmp 10]) rfl (by simp) (.cell gb147 25 #[.int .i64 0, .int .i64 0] (0, 0) _ rfl (by (with_reducible repeat (first | refine blk_drewN ?_ _ | refine blk_drew ?_ | refine blk_alloc ?_ _)); refine blk_far ?_ NB147_148.out _; (with_reducible repeat (first | refine blk_drewN ?_ _ | refine blk_drew ?_ | refine blk_alloc ?_ _)); refine blk_far ?_ NB147_148.out _; (with_reducible repeat (first | refine blk_drewN ?_ _ | refine blk_drew ?_ | refine blk_alloc ?_ _)); refine blk_put (cs := #[.int .i64 0, .int .i64 0]) ?_ 1 _ rfl; (with_reducible repeat (first | refine blk_drewN ?_ _ | refine blk_drew ?_ | refine blk_alloc ?_ _)); refine blk_put (cs := #[.int .i64 0, .int .i64 0]) ?_ 0 _ rfl; (with_reducible repeat (first | refine blk_drewN ?_ _ | refine blk_drew ?_ | refine blk_alloc ?_ _)); refine blk_far ?_ NB147_159.out _; (with_reducible repeat (first | refine blk_drewN ?_ _ | refine blk_drew ?_ | refine blk_alloc ?_ _)); refine blk_far ?_ NB147_159.out _; (with_reducible repeat (first | refine blk_drewN ?_ _ | refine blk_drew ?_ | refine blk_alloc ?_ _)); exact BK147.out) Try.underlying25 rfl (by kernel_rfl) (.cell gb148 25 #[.int .i64 0, .int .i64 0] (0, 0) _ rfl (by (with_reducible repeat (first | refine blk_drewN ?_ _ | refine blk_drew ?_ | refine blk_alloc ?_ _)); refine blk_put (cs := #[.int .i64 0, .int .i64 0]) ?_ 1 _ rfl; (with_reducible repeat (first | refine blk_drewN ?_ _ | refine blk_drew ?_ | refine blk_alloc ?_ _)); refine blk_put (cs := #[.int .i64 0, .int .i64 0]) ?_ 0 _ rfl; (with_reducible repeat (first | refine blk_drewN ?_ _ | refine blk_drew ?_ | refine blk_alloc ?_ _)); refine blk_far ?_ NB148_147.out _; (with_reducible repeat (first | refine blk_drewN ?_ _ | refine blk_drew ?_ | refine blk_alloc ?_ _)); refine blk_far ?_ NB148_147.out _; (with_reducible repeat (first | refine blk_drewN ?_ _ | refine blk_drew ?_ | refine blk_alloc ?_ _)); refine blk_far ?_ NB148_159.out _; (with_reducible repeat (first | refine blk_drewN ?_ _ | refine blk_drew ?_ | refine blk_alloc ?_ _)); refine blk_far ?_ NB148_159.out _; (with_reducible repeat (first | refine blk_drewN ?_ _ | refine blk_drew ?_ | refine blk_alloc ?_ _)); exact BK148.out) Try.underlying25 rfl (by kernel_rfl) (.tmp .nil)))) rfl ?_
     exact ⟨er, lb HB.out⟩
   ·replace c44 := Bool.eq_false_iff.mpr c44
    subst c44
    have H1 : (some (0, 0, 0, 0, false)) = some (r1, r2, r3, r4, r5) := by rw [if_neg (show ¬ (false = true) by decide)] at H; exact H
    clear H
    have H := H1
    clear H1
    simp only [Option.some.injEq, Prod.mk.injEq] at H
    obtain ⟨rfl, rfl, rfl, rfl, rfl⟩ := H
    go_enter Try.func4, Try.ntmps4
    go_wp2_with (first | ((with_reducible refine gate_dst (N := 4) rfl ?_); refine bx_ 4 (cs := #[.int .i64 a0_0, .int .i64 a0_1]) (t := 28) ?_; intro gb143 hg w161 hbox hb; have n0_ := Aside0.mk (below_step (lb HB.out) hb); have n1_ := Aside0.mk (hbox); have n2_ := Aside0.mk ((by rw [hg]; exact (below_size (lb HB.out)) : w.heap.size ≤ gb143)); have n3_ := Aside0.mk ((by rw [hg]; exact (below_size (lb HB.out)) : w.heap.size ≤ gb143)); clear HB; have HB := n0_; have BK143 := n1_; have GW143 := n2_; have GE143 := n3_; clear n0_ n1_ n2_ n3_; clear hb hbox hg) | ((with_reducible refine gate_dst (N := 5) rfl ?_); refine bx_ 5 (cs := #[.int .i64 a1_0, .int .i64 a1_1]) (t := 28) ?_; intro gb144 hg w162 hbox hb; have n0_ := Aside0.mk (blk_below (bf BK143.out) hb); have n1_ := Aside0.mk (below_step (lb HB.out) hb); have n2_ := Aside0.mk (hbox); have n3_ := Aside0.mk ((by rw [hg]; exact (below_size (lb HB.out)) : w.heap.size ≤ gb144)); have n4_ := Aside0.mk ((by rw [hg]; exact (below_size (lb HB.out)) : w.heap.size ≤ gb144)); have n5_ := Aside0.mk ((by rw [hg]; exact Nat.ne_of_lt (blk_lt (bf BK143.out)) : gb143 ≠ gb144)); have n6_ := Aside0.mk ((by rw [hg]; exact Nat.ne_of_gt (blk_lt (bf BK143.out)) : gb144 ≠ gb143)); clear BK143; clear HB; have BK143 := n0_; have HB := n1_; have BK144 := n2_; have GW144 := n3_; have GE144 := n4_; have NB143_144 := n5_; have NB144_143 := n6_; clear n0_ n1_ n2_ n3_ n4_ n5_ n6_; clear hb hbox hg) | ((with_reducible refine gate_dst (N := 6) rfl ?_); refine bx_ 6 (cs := #[.int .i64 a2_0, .int .i64 a2_1]) (t := 28) ?_; intro gb145 hg w163 hbox hb; have n0_ := Aside0.mk (blk_below (bf BK143.out) hb); have n1_ := Aside0.mk (blk_below (bf BK144.out) hb); have n2_ := Aside0.mk (below_step (lb HB.out) hb); have n3_ := Aside0.mk (hbox); have n4_ := Aside0.mk ((by rw [hg]; exact (below_size (lb HB.out)) : w.heap.size ≤ gb145)); have n5_ := Aside0.mk ((by rw [hg]; exact (below_size (lb HB.out)) : w.heap.size ≤ gb145)); have n6_ := Aside0.mk ((by rw [hg]; exact Nat.ne_of_lt (blk_lt (bf BK143.out)) : gb143 ≠ gb145)); have n7_ := Aside0.mk ((by rw [hg]; exact Nat.ne_of_gt (blk_lt (bf BK143.out)) : gb145 ≠ gb143)); have n8_ := Aside0.mk ((by rw [hg]; exact Nat.ne_of_lt (blk_lt (bf BK144.out)) : gb144 ≠ gb145)); have n9_ := Aside0.mk ((by rw [hg]; exact Nat.ne_of_gt (blk_lt (bf BK144.out)) : gb145 ≠ gb144)); clear BK143; clear BK144; clear HB; have BK143 := n0_; have BK144 := n1_; have HB := n2_; have BK145 := n3_; have GW145 := n4_; have GE145 := n5_; have NB143_145 := n6_; have NB145_143 := n7_; have NB144_145 := n8_; have NB145_144 := n9_; clear n0_ n1_ n2_ n3_ n4_ n5_ n6_ n7_ n8_ n9_; clear hb hbox hg) | ((with_reducible refine gate_dst (N := 7) rfl ?_); refine bx_ 7 (cs := #[.int .i64 a3_0, .int .i64 a3_1]) (t := 28) ?_; intro gb146 hg w164 hbox hb; have n0_ := Aside0.mk (blk_below (bf BK143.out) hb); have n1_ := Aside0.mk (blk_below (bf BK144.out) hb); have n2_ := Aside0.mk (blk_below (bf BK145.out) hb); have n3_ := Aside0.mk (below_step (lb HB.out) hb); have n4_ := Aside0.mk (hbox); have n5_ := Aside0.mk ((by rw [hg]; exact (below_size (lb HB.out)) : w.heap.size ≤ gb146)); have n6_ := Aside0.mk ((by rw [hg]; exact (below_size (lb HB.out)) : w.heap.size ≤ gb146)); have n7_ := Aside0.mk ((by rw [hg]; exact Nat.ne_of_lt (blk_lt (bf BK143.out)) : gb143 ≠ gb146)); have n8_ := Aside0.mk ((by rw [hg]; exact Nat.ne_of_gt (blk_lt (bf BK143.out)) : gb146 ≠ gb143)); have n9_ := Aside0.mk ((by rw [hg]; exact Nat.ne_of_lt (blk_lt (bf BK144.out)) : gb144 ≠ gb146)); have n10_ := Aside0.mk ((by rw [hg]; exact Nat.ne_of_gt (blk_lt (bf BK144.out)) : gb146 ≠ gb144)); have n11_ := Aside0.mk ((by rw [hg]; exact Nat.ne_of_lt (blk_lt (bf BK145.out)) : gb145 ≠ gb146)); have n12_ := Aside0.mk ((by rw [hg]; exact Nat.ne_of_gt (blk_lt (bf BK145.out)) : gb146 ≠ gb145)); clear BK143; clear BK144; clear BK145; clear HB; have BK143 := n0_; have BK144 := n1_; have BK145 := n2_; have HB := n3_; have BK146 := n4_; have GW146 := n5_; have GE146 := n6_; have NB143_146 := n7_; have NB146_143 := n8_; have NB144_146 := n9_; have NB146_144 := n10_; have NB145_146 := n11_; have NB146_145 := n12_; clear n0_ n1_ n2_ n3_ n4_ n5_ n6_ n7_ n8_ n9_ n10_ n11_ n12_; clear hb hbox hg) | ((with_reducible refine gate_dst (N := 8) rfl ?_); refine bx_ 8 (cs := #[.int .i64 0, .int .i64 0]) (t := 25) ?_; intro gb147 hg w165 hbox hb; have n0_ := Aside0.mk (blk_below (bf BK143.out) hb); have n1_ := Aside0.mk (blk_below (bf BK144.out) hb); have n2_ := Aside0.mk (blk_below (bf BK145.out) hb); have n3_ := Aside0.mk (blk_below (bf BK146.out) hb); have n4_ := Aside0.mk (below_step (lb HB.out) hb); have n5_ := Aside0.mk (hbox); have n6_ := Aside0.mk ((by rw [hg]; exact (below_size (lb HB.out)) : w.heap.size ≤ gb147)); have n7_ := Aside0.mk ((by rw [hg]; exact (below_size (lb HB.out)) : w.heap.size ≤ gb147)); have n8_ := Aside0.mk ((by rw [hg]; exact Nat.ne_of_lt (blk_lt (bf BK143.out)) : gb143 ≠ gb147)); have n9_ := Aside0.mk ((by rw [hg]; exact Nat.ne_of_gt (blk_lt (bf BK143.out)) : gb147 ≠ gb143)); have n10_ := Aside0.mk ((by rw [hg]; exact Nat.ne_of_lt (blk_lt (bf BK144.out)) : gb144 ≠ gb147)); have n11_ := Aside0.mk ((by rw [hg]; exact Nat.ne_of_gt (blk_lt (bf BK144.out)) : gb147 ≠ gb144)); have n12_ := Aside0.mk ((by rw [hg]; exact Nat.ne_of_lt (blk_lt (bf BK145.out)) : gb145 ≠ gb147)); have n13_ := Aside0.mk ((by rw [hg]; exact Nat.ne_of_gt (blk_lt (bf BK145.out)) : gb147 ≠ gb145)); have n14_ := Aside0.mk ((by rw [hg]; exact Nat.ne_of_lt (blk_lt (bf BK146.out)) : gb146 ≠ gb147)); have n15_ := Aside0.mk ((by rw [hg]; exact Nat.ne_of_gt (blk_lt (bf BK146.out)) : gb147 ≠ gb146)); clear BK143; clear BK144; clear BK145; clear BK146; clear HB; have BK143 := n0_; have BK144 := n1_; have BK145 := n2_; have BK146 := n3_; have HB := n4_; have BK147 := n5_; have GW147 := n6_; have GE147 := n7_; have NB143_147 := n8_; have NB147_143 := n9_; have NB144_147 := n10_; have NB147_144 := n11_; have NB145_147 := n12_; have NB147_145 := n13_; have NB146_147 := n14_; have NB147_146 := n15_; clear n0_ n1_ n2_ n3_ n4_ n5_ n6_ n7_ n8_ n9_ n10_ n11_ n12_ n13_ n14_ n15_; clear hb hbox hg) | ((with_reducible refine gate_dst (N := 9) rfl ?_); refine bx_ 9 (cs := #[.int .i64 0, .int .i64 0]) (t := 25) ?_; intro gb148 hg w166 hbox hb; have n0_ := Aside0.mk (blk_below (bf BK143.out) hb); have n1_ := Aside0.mk (blk_below (bf BK144.out) hb); have n2_ := Aside0.mk (blk_below (bf BK145.out) hb); have n3_ := Aside0.mk (blk_below (bf BK146.out) hb); have n4_ := Aside0.mk (blk_below (bf BK147.out) hb); have n5_ := Aside0.mk (below_step (lb HB.out) hb); have n6_ := Aside0.mk (hbox); have n7_ := Aside0.mk ((by rw [hg]; exact (below_size (lb HB.out)) : w.heap.size ≤ gb148)); have n8_ := Aside0.mk ((by rw [hg]; exact (below_size (lb HB.out)) : w.heap.size ≤ gb148)); have n9_ := Aside0.mk ((by rw [hg]; exact Nat.ne_of_lt (blk_lt (bf BK143.out)) : gb143 ≠ gb148)); have n10_ := Aside0.mk ((by rw [hg]; exact Nat.ne_of_gt (blk_lt (bf BK143.out)) : gb148 ≠ gb143)); have n11_ := Aside0.mk ((by rw [hg]; exact Nat.ne_of_lt (blk_lt (bf BK144.out)) : gb144 ≠ gb148)); have n12_ := Aside0.mk ((by rw [hg]; exact Nat.ne_of_gt (blk_lt (bf BK144.out)) : gb148 ≠ gb144)); have n13_ := Aside0.mk ((by rw [hg]; exact Nat.ne_of_lt (blk_lt (bf BK145.out)) : gb145 ≠ gb148)); have n14_ := Aside0.mk ((by rw [hg]; exact Nat.ne_of_gt (blk_lt (bf BK145.out)) : gb148 ≠ gb145)); have n15_ := Aside0.mk ((by rw [hg]; exact Nat.ne_of_lt (blk_lt (bf BK146.out)) : gb146 ≠ gb148)); have n16_ := Aside0.mk ((by rw [hg]; exact Nat.ne_of_gt (blk_lt (bf BK146.out)) : gb148 ≠ gb146)); have n17_ := Aside0.mk ((by rw [hg]; exact Nat.ne_of_lt (blk_lt (bf BK147.out)) : gb147 ≠ gb148)); have n18_ := Aside0.mk ((by rw [hg]; exact Nat.ne_of_gt (blk_lt (bf BK147.out)) : gb148 ≠ gb147)); clear BK143; clear BK144; clear BK145; clear BK146; clear BK147; clear HB; have BK143 := n0_; have BK144 := n1_; have BK145 := n2_; have BK146 := n3_; have BK147 := n4_; have HB := n5_; have BK148 := n6_; have GW148 := n7_; have GE148 := n8_; have NB143_148 := n9_; have NB148_143 := n10_; have NB144_148 := n11_; have NB148_144 := n12_; have NB145_148 := n13_; have NB148_145 := n14_; have NB146_148 := n15_; have NB148_146 := n16_; have NB147_148 := n17_; have NB148_147 := n18_; clear n0_ n1_ n2_ n3_ n4_ n5_ n6_ n7_ n8_ n9_ n10_ n11_ n12_ n13_ n14_ n15_ n16_ n17_ n18_; clear hb hbox hg; have hnb167 := NB143_144.out; have hnc167 := NB144_143.out; have hnb168 := NB143_145.out; have hnc168 := NB145_143.out; have hnb169 := NB143_146.out; have hnc169 := NB146_143.out; have hnb170 := NB143_147.out; have hnc170 := NB147_143.out; have hnb171 := NB143_148.out; have hnc171 := NB148_143.out; have hcz172_0 : w166.cell? ⟨gb143, 0, none⟩ = some (.int .i64 a0_0) := (blk_cell BK143.out 0).trans rfl; have hcz172_1 : w166.cell? ⟨gb143, 1, none⟩ = some (.int .i64 a0_1) := (blk_cell BK143.out 1).trans rfl; have hfz172_0 := blk_frozen BK143.out 0; have hfz172_1 := blk_frozen BK143.out 1; have hnb173 := NB144_145.out; have hnc173 := NB145_144.out; have hnb174 := NB144_146.out; have hnc174 := NB146_144.out; have hnb175 := NB144_147.out; have hnc175 := NB147_144.out; have hnb176 := NB144_148.out; have hnc176 := NB148_144.out; have hcz177_0 : w166.cell? ⟨gb144, 0, none⟩ = some (.int .i64 a1_0) := (blk_cell BK144.out 0).trans rfl; have hcz177_1 : w166.cell? ⟨gb144, 1, none⟩ = some (.int .i64 a1_1) := (blk_cell BK144.out 1).trans rfl; have hfz177_0 := blk_frozen BK144.out 0; have hfz177_1 := blk_frozen BK144.out 1; have hnb178 := NB145_146.out; have hnc178 := NB146_145.out; have hnb179 := NB145_147.out; have hnc179 := NB147_145.out; have hnb180 := NB145_148.out; have hnc180 := NB148_145.out; have hcz181_0 : w166.cell? ⟨gb145, 0, none⟩ = some (.int .i64 a2_0) := (blk_cell BK145.out 0).trans rfl; have hcz181_1 : w166.cell? ⟨gb145, 1, none⟩ = some (.int .i64 a2_1) := (blk_cell BK145.out 1).trans rfl; have hfz181_0 := blk_frozen BK145.out 0; have hfz181_1 := blk_frozen BK145.out 1; have hnb182 := NB146_147.out; have hnc182 := NB147_146.out; have hnb183 := NB146_148.out; have hnc183 := NB148_146.out; have hcz184_0 : w166.cell? ⟨gb146, 0, none⟩ = some (.int .i64 a3_0) := (blk_cell BK146.out 0).trans rfl; have hcz184_1 : w166.cell? ⟨gb146, 1, none⟩ = some (.int .i64 a3_1) := (blk_cell BK146.out 1).trans rfl; have hfz184_0 := blk_frozen BK146.out 0; have hfz184_1 := blk_frozen BK146.out 1) | ((with_reducible refine gate_callee (f := 8) rfl ?_); refine goesL_ (some 21) rfl rfl Try.func8 (by kernel_rfl) rfl #[.agg #[.int .i64 a0_0, .int .i64 a0_1], .agg #[.int .i64 a1_0, .int .i64 a1_1], .agg #[.int .i64 a2_0, .int .i64 a2_1], .agg #[.int .i64 a3_0, .int .i64 a3_1]] rfl al ?_; (with_reducible refine (spec_l34Ok.calls a0_0 a0_1 a1_0 a1_1 a2_0 a2_1 a3_0 a3_1 true _ A5.out).mono ?_); rintro e w185 ⟨rfl, hb⟩; refine ⟨_, rfl, ?_⟩; have n0_ := Aside0.mk (blk_below (bf BK143.out) hb); have n1_ := Aside0.mk (blk_below (bf BK144.out) hb); have n2_ := Aside0.mk (blk_below (bf BK145.out) hb); have n3_ := Aside0.mk (blk_below (bf BK146.out) hb); have n4_ := Aside0.mk (blk_below (bf BK147.out) hb); have n5_ := Aside0.mk (blk_below (bf BK148.out) hb); have n6_ := Aside0.mk (below_step (lb HB.out) hb); clear BK143; clear BK144; clear BK145; clear BK146; clear BK147; clear BK148; clear HB; have BK143 := n0_; have BK144 := n1_; have BK145 := n2_; have BK146 := n3_; have BK147 := n4_; have BK148 := n5_; have HB := n6_; clear n0_ n1_ n2_ n3_ n4_ n5_ n6_; (try clear hb); (try clear hb2); (try clear hk); (try clear hi); have hcz186_0 : w185.cell? ⟨gb143, 0, none⟩ = some (.int .i64 a0_0) := (blk_cell BK143.out 0).trans rfl; have hcz186_1 : w185.cell? ⟨gb143, 1, none⟩ = some (.int .i64 a0_1) := (blk_cell BK143.out 1).trans rfl; have hfz186_0 := blk_frozen BK143.out 0; have hfz186_1 := blk_frozen BK143.out 1; have hcz187_0 : w185.cell? ⟨gb144, 0, none⟩ = some (.int .i64 a1_0) := (blk_cell BK144.out 0).trans rfl; have hcz187_1 : w185.cell? ⟨gb144, 1, none⟩ = some (.int .i64 a1_1) := (blk_cell BK144.out 1).trans rfl; have hfz187_0 := blk_frozen BK144.out 0; have hfz187_1 := blk_frozen BK144.out 1; have hcz188_0 : w185.cell? ⟨gb145, 0, none⟩ = some (.int .i64 a2_0) := (blk_cell BK145.out 0).trans rfl; have hcz188_1 : w185.cell? ⟨gb145, 1, none⟩ = some (.int .i64 a2_1) := (blk_cell BK145.out 1).trans rfl; have hfz188_0 := blk_frozen BK145.out 0; have hfz188_1 := blk_frozen BK145.out 1; have hcz189_0 : w185.cell? ⟨gb146, 0, none⟩ = some (.int .i64 a3_0) := (blk_cell BK146.out 0).trans rfl; have hcz189_1 : w185.cell? ⟨gb146, 1, none⟩ = some (.int .i64 a3_1) := (blk_cell BK146.out 1).trans rfl; have hfz189_0 := blk_frozen BK146.out 0; have hfz189_1 := blk_frozen BK146.out 1) | ((with_reducible refine gate_callee (f := 9) rfl ?_); refine goesL_ (some 30) rfl rfl Try.func9 (by kernel_rfl) rfl #[.agg #[.int .i64 a0_0, .int .i64 a0_1], .agg #[.int .i64 a1_0, .int .i64 a1_1], .agg #[.int .i64 a2_0, .int .i64 a2_1], .agg #[.int .i64 a3_0, .int .i64 a3_1]] rfl al ?_; (with_reducible refine (spec_l34Parts.calls a0_0 a0_1 a1_0 a1_1 a2_0 a2_1 a3_0 a3_1 t150 t151 _ A7.out).mono ?_); rintro e w190 ⟨rfl, hb⟩; refine ⟨_, rfl, ?_⟩; have n0_ := Aside0.mk (blk_below (bf BK143.out) hb); have n1_ := Aside0.mk (blk_below (bf BK144.out) hb); have n2_ := Aside0.mk (blk_below (bf BK145.out) hb); have n3_ := Aside0.mk (blk_below (bf BK146.out) hb); have n4_ := Aside0.mk (blk_below (bf BK147.out) hb); have n5_ := Aside0.mk (blk_below (bf BK148.out) hb); have n6_ := Aside0.mk (below_step (lb HB.out) hb); clear BK143; clear BK144; clear BK145; clear BK146; clear BK147; clear BK148; clear HB; have BK143 := n0_; have BK144 := n1_; have BK145 := n2_; have BK146 := n3_; have BK147 := n4_; have BK148 := n5_; have HB := n6_; clear n0_ n1_ n2_ n3_ n4_ n5_ n6_; (try clear hb); (try clear hb2); (try clear hk); (try clear hi); have hcz191_0 : w190.cell? ⟨gb143, 0, none⟩ = some (.int .i64 a0_0) := (blk_cell BK143.out 0).trans rfl; have hcz191_1 : w190.cell? ⟨gb143, 1, none⟩ = some (.int .i64 a0_1) := (blk_cell BK143.out 1).trans rfl; have hfz191_0 := blk_frozen BK143.out 0; have hfz191_1 := blk_frozen BK143.out 1; have hcz192_0 : w190.cell? ⟨gb144, 0, none⟩ = some (.int .i64 a1_0) := (blk_cell BK144.out 0).trans rfl; have hcz192_1 : w190.cell? ⟨gb144, 1, none⟩ = some (.int .i64 a1_1) := (blk_cell BK144.out 1).trans rfl; have hfz192_0 := blk_frozen BK144.out 0; have hfz192_1 := blk_frozen BK144.out 1) | ((with_reducible refine gate_callee (f := 10) rfl ?_); refine goesL_ (some 51) rfl rfl Try.func10 (by kernel_rfl) rfl #[.int .i64 (wrap64 ((wrap64 (a0_0 * t151)) + (wrap64 (t150 * (wrap64 (a1_0 - a0_0)))))), .int .i64 t151] rfl al ?_; (with_reducible refine (spec_QuoOf.calls k (wrap64 ((wrap64 (a0_0 * t151)) + (wrap64 (t150 * (wrap64 (a1_0 - a0_0)))))) t151 t152 t153 false _ A42.out).mono ?_); rintro e w193 ⟨rfl, hb⟩; refine ⟨_, rfl, ?_⟩; have n0_ := Aside0.mk (blk_below (bf BK143.out) hb); have n1_ := Aside0.mk (blk_below (bf BK144.out) hb); have n2_ := Aside0.mk (blk_below (bf BK145.out) hb); have n3_ := Aside0.mk (blk_below (bf BK146.out) hb); have n4_ := Aside0.mk (blk_below (bf BK147.out) hb); have n5_ := Aside0.mk (blk_below (bf BK148.out) hb); have n6_ := Aside0.mk (below_step (lb HB.out) hb); clear BK143; clear BK144; clear BK145; clear BK146; clear BK147; clear BK148; clear HB; have BK143 := n0_; have BK144 := n1_; have BK145 := n2_; have BK146 := n3_; have BK147 := n4_; have BK148 := n5_; have HB := n6_; clear n0_ n1_ n2_ n3_ n4_ n5_ n6_; (try clear hb); (try clear hb2); (try clear hk); (try clear hi)) | ((with_reducible refine gate_dst (N := 13) rfl ?_); refine bx_ 13 (cs := #[.int .i64 0, .int .i64 0]) (t := 25) ?_; intro gb155 hg w194 hbox hb; have n0_ := Aside0.mk (blk_below (bf BK143.out) hb); have n1_ := Aside0.mk (blk_below (bf BK144.out) hb); have n2_ := Aside0.mk (blk_below (bf BK145.out) hb); have n3_ := Aside0.mk (blk_below (bf BK146.out) hb); have n4_ := Aside0.mk (blk_below (bf BK147.out) hb); have n5_ := Aside0.mk (blk_below (bf BK148.out) hb); have n6_ := Aside0.mk (below_step (lb HB.out) hb); have n7_ := Aside0.mk (hbox); have n8_ := Aside0.mk ((by rw [hg]; exact (below_size (lb HB.out)) : w.heap.size ≤ gb155)); have n9_ := Aside0.mk ((by rw [hg]; exact (below_size (lb HB.out)) : w.heap.size ≤ gb155)); have n10_ := Aside0.mk ((by rw [hg]; exact Nat.ne_of_lt (blk_lt (bf BK143.out)) : gb143 ≠ gb155)); have n11_ := Aside0.mk ((by rw [hg]; exact Nat.ne_of_gt (blk_lt (bf BK143.out)) : gb155 ≠ gb143)); have n12_ := Aside0.mk ((by rw [hg]; exact Nat.ne_of_lt (blk_lt (bf BK144.out)) : gb144 ≠ gb155)); have n13_ := Aside0.mk ((by rw [hg]; exact Nat.ne_of_gt (blk_lt (bf BK144.out)) : gb155 ≠ gb144)); have n14_ := Aside0.mk ((by rw [hg]; exact Nat.ne_of_lt (blk_lt (bf BK145.out)) : gb145 ≠ gb155)); have n15_ := Aside0.mk ((by rw [hg]; exact Nat.ne_of_gt (blk_lt (bf BK145.out)) : gb155 ≠ gb145)); have n16_ := Aside0.mk ((by rw [hg]; exact Nat.ne_of_lt (blk_lt (bf BK146.out)) : gb146 ≠ gb155)); have n17_ := Aside0.mk ((by rw [hg]; exact Nat.ne_of_gt (blk_lt (bf BK146.out)) : gb155 ≠ gb146)); have n18_ := Aside0.mk ((by rw [hg]; exact Nat.ne_of_lt (blk_lt (bf BK147.out)) : gb147 ≠ gb155)); have n19_ := Aside0.mk ((by rw [hg]; exact Nat.ne_of_gt (blk_lt (bf BK147.out)) : gb155 ≠ gb147)); have n20_ := Aside0.mk ((by rw [hg]; exact Nat.ne_of_lt (blk_lt (bf BK148.out)) : gb148 ≠ gb155)); have n21_ := Aside0.mk ((by rw [hg]; exact Nat.ne_of_gt (blk_lt (bf BK148.out)) : gb155 ≠ gb148)); clear BK143; clear BK144; clear BK145; clear BK146; clear BK147; clear BK148; clear HB; have BK143 := n0_; have BK144 := n1_; have BK145 := n2_; have BK146 := n3_; have BK147 := n4_; have BK148 := n5_; have HB := n6_; have BK155 := n7_; have GW155 := n8_; have GE155 := n9_; have NB143_155 := n10_; have NB155_143 := n11_; have NB144_155 := n12_; have NB155_144 := n13_; have NB145_155 := n14_; have NB155_145 := n15_; have NB146_155 := n16_; have NB155_146 := n17_; have NB147_155 := n18_; have NB155_147 := n19_; have NB148_155 := n20_; have NB155_148 := n21_; clear n0_ n1_ n2_ n3_ n4_ n5_ n6_ n7_ n8_ n9_ n10_ n11_ n12_ n13_ n14_ n15_ n16_ n17_ n18_ n19_ n20_ n21_; clear hb hbox hg; have hnb195 := NB155_143.out; have hnc195 := NB143_155.out; have hnb196 := NB155_144.out; have hnc196 := NB144_155.out; have hnb197 := NB155_145.out; have hnc197 := NB145_155.out; have hnb198 := NB155_146.out; have hnc198 := NB146_155.out; have hnb199 := NB155_147.out; have hnc199 := NB147_155.out; have hnb200 := NB155_148.out; have hnc200 := NB148_155.out; have hcz201_0 : w194.cell? ⟨gb155, 0, none⟩ = some (.int .i64 0) := (blk_cell BK155.out 0).trans rfl; have hcz201_1 : w194.cell? ⟨gb155, 1, none⟩ = some (.int .i64 0) := (blk_cell BK155.out 1).trans rfl; have hfz201_0 := blk_frozen BK155.out 0; have hfz201_1 := blk_frozen BK155.out 1; have hcz202_0 : w194.cell? ⟨gb143, 0, none⟩ = some (.int .i64 a0_0) := (blk_cell BK143.out 0).trans rfl; have hcz202_1 : w194.cell? ⟨gb143, 1, none⟩ = some (.int .i64 a0_1) := (blk_cell BK143.out 1).trans rfl; have hfz202_0 := blk_frozen BK143.out 0; have hfz202_1 := blk_frozen BK143.out 1; have hcz203_0 : w194.cell? ⟨gb144, 0, none⟩ = some (.int .i64 a1_0) := (blk_cell BK144.out 0).trans rfl; have hcz203_1 : w194.cell? ⟨gb144, 1, none⟩ = some (.int .i64 a1_1) := (blk_cell BK144.out 1).trans rfl; have hfz203_0 := blk_frozen BK144.out 0; have hfz203_1 := blk_frozen BK144.out 1) | ((with_reducible refine gate_callee (f := 10) rfl ?_); refine goesL_ (some 68) rfl rfl Try.func10 (by kernel_rfl) rfl #[.int .i64 (wrap64 ((wrap64 (a0_1 * t151)) + (wrap64 (t150 * (wrap64 (a1_1 - a0_1)))))), .int .i64 t151] rfl al ?_; (with_reducible refine (spec_QuoOf.calls k (wrap64 ((wrap64 (a0_1 * t151)) + (wrap64 (t150 * (wrap64 (a1_1 - a0_1)))))) t151 t156 t157 t158 _ A43.out).mono ?_); rintro e w204 ⟨rfl, hb⟩; refine ⟨_, rfl, ?_⟩; have n0_ := Aside0.mk (blk_below (bf BK143.out) hb); have n1_ := Aside0.mk (blk_below (bf BK144.out) hb); have n2_ := Aside0.mk (blk_below (bf BK145.out) hb); have n3_ := Aside0.mk (blk_below (bf BK146.out) hb); have n4_ := Aside0.mk (blk_below (bf BK147.out) hb); have n5_ := Aside0.mk (blk_below (bf BK148.out) hb); have n6_ := Aside0.mk (blk_below (bp BK155.out) hb); have n7_ := Aside0.mk (below_step (lb HB.out) hb); clear BK143; clear BK144; clear BK145; clear BK146; clear BK147; clear BK148; clear BK155; clear HB; have BK143 := n0_; have BK144 := n1_; have BK145 := n2_; have BK146 := n3_; have BK147 := n4_; have BK148 := n5_; have BK155 := n6_; have HB := n7_; clear n0_ n1_ n2_ n3_ n4_ n5_ n6_ n7_; (try clear hb); (try clear hb2); (try clear hk); (try clear hi)) | ((with_reducible refine gate_dst (N := 15) rfl ?_); refine bx_ 15 (cs := #[.int .i64 0, .int .i64 0]) (t := 25) ?_; intro gb159 hg w205 hbox hb; have n0_ := Aside0.mk (blk_below (bf BK143.out) hb); have n1_ := Aside0.mk (blk_below (bf BK144.out) hb); have n2_ := Aside0.mk (blk_below (bf BK145.out) hb); have n3_ := Aside0.mk (blk_below (bf BK146.out) hb); have n4_ := Aside0.mk (blk_below (bf BK147.out) hb); have n5_ := Aside0.mk (blk_below (bf BK148.out) hb); have n6_ := Aside0.mk (blk_below (bf BK155.out) hb); have n7_ := Aside0.mk (below_step (lb HB.out) hb); have n8_ := Aside0.mk (hbox); have n9_ := Aside0.mk ((by rw [hg]; exact (below_size (lb HB.out)) : w.heap.size ≤ gb159)); have n10_ := Aside0.mk ((by rw [hg]; exact (below_size (lb HB.out)) : w.heap.size ≤ gb159)); have n11_ := Aside0.mk ((by rw [hg]; exact Nat.ne_of_lt (blk_lt (bf BK143.out)) : gb143 ≠ gb159)); have n12_ := Aside0.mk ((by rw [hg]; exact Nat.ne_of_gt (blk_lt (bf BK143.out)) : gb159 ≠ gb143)); have n13_ := Aside0.mk ((by rw [hg]; exact Nat.ne_of_lt (blk_lt (bf BK144.out)) : gb144 ≠ gb159)); have n14_ := Aside0.mk ((by rw [hg]; exact Nat.ne_of_gt (blk_lt (bf BK144.out)) : gb159 ≠ gb144)); have n15_ := Aside0.mk ((by rw [hg]; exact Nat.ne_of_lt (blk_lt (bf BK145.out)) : gb145 ≠ gb159)); have n16_ := Aside0.mk ((by rw [hg]; exact Nat.ne_of_gt (blk_lt (bf BK145.out)) : gb159 ≠ gb145)); have n17_ := Aside0.mk ((by rw [hg]; exact Nat.ne_of_lt (blk_lt (bf BK146.out)) : gb146 ≠ gb159)); have n18_ := Aside0.mk ((by rw [hg]; exact Nat.ne_of_gt (blk_lt (bf BK146.out)) : gb159 ≠ gb146)); have n19_ := Aside0.mk ((by rw [hg]; exact Nat.ne_of_lt (blk_lt (bf BK147.out)) : gb147 ≠ gb159)); have n20_ := Aside0.mk ((by rw [hg]; exact Nat.ne_of_gt (blk_lt (bf BK147.out)) : gb159 ≠ gb147)); have n21_ := Aside0.mk ((by rw [hg]; exact Nat.ne_of_lt (blk_lt (bf BK148.out)) : gb148 ≠ gb159)); have n22_ := Aside0.mk ((by rw [hg]; exact Nat.ne_of_gt (blk_lt (bf BK148.out)) : gb159 ≠ gb148)); have n23_ := Aside0.mk ((by rw [hg]; exact Nat.ne_of_lt (blk_lt (bf BK155.out)) : gb155 ≠ gb159)); have n24_ := Aside0.mk ((by rw [hg]; exact Nat.ne_of_gt (blk_lt (bf BK155.out)) : gb159 ≠ gb155)); clear BK143; clear BK144; clear BK145; clear BK146; clear BK147; clear BK148; clear BK155; clear HB; have BK143 := n0_; have BK144 := n1_; have BK145 := n2_; have BK146 := n3_; have BK147 := n4_; have BK148 := n5_; have BK155 := n6_; have HB := n7_; have BK159 := n8_; have GW159 := n9_; have GE159 := n10_; have NB143_159 := n11_; have NB159_143 := n12_; have NB144_159 := n13_; have NB159_144 := n14_; have NB145_159 := n15_; have NB159_145 := n16_; have NB146_159 := n17_; have NB159_146 := n18_; have NB147_159 := n19_; have NB159_147 := n20_; have NB148_159 := n21_; have NB159_148 := n22_; have NB155_159 := n23_; have NB159_155 := n24_; clear n0_ n1_ n2_ n3_ n4_ n5_ n6_ n7_ n8_ n9_ n10_ n11_ n12_ n13_ n14_ n15_ n16_ n17_ n18_ n19_ n20_ n21_ n22_ n23_ n24_; clear hb hbox hg; have hnb206 := NB159_143.out; have hnc206 := NB143_159.out; have hnb207 := NB159_144.out; have hnc207 := NB144_159.out; have hnb208 := NB159_145.out; have hnc208 := NB145_159.out; have hnb209 := NB159_146.out; have hnc209 := NB146_159.out; have hnb210 := NB159_147.out; have hnc210 := NB147_159.out; have hnb211 := NB159_148.out; have hnc211 := NB148_159.out; have hnb212 := NB159_155.out; have hnc212 := NB155_159.out; have hcz213_0 : w205.cell? ⟨gb159, 0, none⟩ = some (.int .i64 0) := (blk_cell BK159.out 0).trans rfl; have hcz213_1 : w205.cell? ⟨gb159, 1, none⟩ = some (.int .i64 0) := (blk_cell BK159.out 1).trans rfl; have hfz213_0 := blk_frozen BK159.out 0; have hfz213_1 := blk_frozen BK159.out 1; have hnb214 := NB147_148.out; have hnc214 := NB148_147.out; have hcz215_0 : w205.cell? ⟨gb147, 0, none⟩ = some (.int .i64 0) := (blk_cell BK147.out 0).trans rfl; have hcz215_1 : w205.cell? ⟨gb147, 1, none⟩ = some (.int .i64 0) := (blk_cell BK147.out 1).trans rfl; have hfz215_0 := blk_frozen BK147.out 0; have hfz215_1 := blk_frozen BK147.out 1; have hcz216_0 : w205.cell? ⟨gb148, 0, none⟩ = some (.int .i64 0) := (blk_cell BK148.out 0).trans rfl; have hcz216_1 : w205.cell? ⟨gb148, 1, none⟩ = some (.int .i64 0) := (blk_cell BK148.out 1).trans rfl; have hfz216_0 := blk_frozen BK148.out 0; have hfz216_1 := blk_frozen BK148.out 1))
    refine bodyPost_ret (results_list (rs := [.cell 8 25, .cell 9 25, .tmp 10]) rfl (by simp) (.cell gb147 25 #[.int .i64 0, .int .i64 0] (0, 0) _ rfl (by (with_reducible repeat (first | refine blk_drewN ?_ _ | refine blk_drew ?_ | refine blk_alloc ?_ _)); refine blk_far ?_ NB147_148.out _; (with_reducible repeat (first | refine blk_drewN ?_ _ | refine blk_drew ?_ | refine blk_alloc ?_ _)); refine blk_far ?_ NB147_148.out _; (with_reducible repeat (first | refine blk_drewN ?_ _ | refine blk_drew ?_ | refine blk_alloc ?_ _)); refine blk_put (cs := #[.int .i64 0, .int .i64 0]) ?_ 1 _ rfl; (with_reducible repeat (first | refine blk_drewN ?_ _ | refine blk_drew ?_ | refine blk_alloc ?_ _)); refine blk_put (cs := #[.int .i64 0, .int .i64 0]) ?_ 0 _ rfl; (with_reducible repeat (first | refine blk_drewN ?_ _ | refine blk_drew ?_ | refine blk_alloc ?_ _)); refine blk_far ?_ NB147_159.out _; (with_reducible repeat (first | refine blk_drewN ?_ _ | refine blk_drew ?_ | refine blk_alloc ?_ _)); refine blk_far ?_ NB147_159.out _; (with_reducible repeat (first | refine blk_drewN ?_ _ | refine blk_drew ?_ | refine blk_alloc ?_ _)); exact BK147.out) Try.underlying25 rfl (by kernel_rfl) (.cell gb148 25 #[.int .i64 0, .int .i64 0] (0, 0) _ rfl (by (with_reducible repeat (first | refine blk_drewN ?_ _ | refine blk_drew ?_ | refine blk_alloc ?_ _)); refine blk_put (cs := #[.int .i64 0, .int .i64 0]) ?_ 1 _ rfl; (with_reducible repeat (first | refine blk_drewN ?_ _ | refine blk_drew ?_ | refine blk_alloc ?_ _)); refine blk_put (cs := #[.int .i64 0, .int .i64 0]) ?_ 0 _ rfl; (with_reducible repeat (first | refine blk_drewN ?_ _ | refine blk_drew ?_ | refine blk_alloc ?_ _)); refine blk_far ?_ NB148_147.out _; (with_reducible repeat (first | refine blk_drewN ?_ _ | refine blk_drew ?_ | refine blk_alloc ?_ _)); refine blk_far ?_ NB148_147.out _; (with_reducible repeat (first | refine blk_drewN ?_ _ | refine blk_drew ?_ | refine blk_alloc ?_ _)); refine blk_far ?_ NB148_159.out _; (with_reducible repeat (first | refine blk_drewN ?_ _ | refine blk_drew ?_ | refine blk_alloc ?_ _)); refine blk_far ?_ NB148_159.out _; (with_reducible repeat (first | refine blk_drewN ?_ _ | refine blk_drew ?_ | refine blk_alloc ?_ _)); exact BK148.out) Try.underlying25 rfl (by kernel_rfl) (.tmp .nil)))) rfl ?_
    exact ⟨er, lb HB.out⟩
 ·replace c6 := Bool.eq_false_iff.mpr c6
  subst c6
  have H1 : (some (0, 0, 0, 0, false)) = some (r1, r2, r3, r4, r5) := by rw [if_neg (show ¬ (false = true) by decide)] at H; exact H
  clear H
  have H := H1
  clear H1
  simp only [Option.some.injEq, Prod.mk.injEq] at H
  obtain ⟨rfl, rfl, rfl, rfl, rfl⟩ := H
  go_enter Try.func4, Try.ntmps4
  go_wp2_with (first | ((with_reducible refine gate_dst (N := 4) rfl ?_); refine bx_ 4 (cs := #[.int .i64 a0_0, .int .i64 a0_1]) (t := 28) ?_; intro gb143 hg w217 hbox hb; have n0_ := Aside0.mk (below_step (lb HB.out) hb); have n1_ := Aside0.mk (hbox); have n2_ := Aside0.mk ((by rw [hg]; exact (below_size (lb HB.out)) : w.heap.size ≤ gb143)); have n3_ := Aside0.mk ((by rw [hg]; exact (below_size (lb HB.out)) : w.heap.size ≤ gb143)); clear HB; have HB := n0_; have BK143 := n1_; have GW143 := n2_; have GE143 := n3_; clear n0_ n1_ n2_ n3_; clear hb hbox hg) | ((with_reducible refine gate_dst (N := 5) rfl ?_); refine bx_ 5 (cs := #[.int .i64 a1_0, .int .i64 a1_1]) (t := 28) ?_; intro gb144 hg w218 hbox hb; have n0_ := Aside0.mk (blk_below (bf BK143.out) hb); have n1_ := Aside0.mk (below_step (lb HB.out) hb); have n2_ := Aside0.mk (hbox); have n3_ := Aside0.mk ((by rw [hg]; exact (below_size (lb HB.out)) : w.heap.size ≤ gb144)); have n4_ := Aside0.mk ((by rw [hg]; exact (below_size (lb HB.out)) : w.heap.size ≤ gb144)); have n5_ := Aside0.mk ((by rw [hg]; exact Nat.ne_of_lt (blk_lt (bf BK143.out)) : gb143 ≠ gb144)); have n6_ := Aside0.mk ((by rw [hg]; exact Nat.ne_of_gt (blk_lt (bf BK143.out)) : gb144 ≠ gb143)); clear BK143; clear HB; have BK143 := n0_; have HB := n1_; have BK144 := n2_; have GW144 := n3_; have GE144 := n4_; have NB143_144 := n5_; have NB144_143 := n6_; clear n0_ n1_ n2_ n3_ n4_ n5_ n6_; clear hb hbox hg) | ((with_reducible refine gate_dst (N := 6) rfl ?_); refine bx_ 6 (cs := #[.int .i64 a2_0, .int .i64 a2_1]) (t := 28) ?_; intro gb145 hg w219 hbox hb; have n0_ := Aside0.mk (blk_below (bf BK143.out) hb); have n1_ := Aside0.mk (blk_below (bf BK144.out) hb); have n2_ := Aside0.mk (below_step (lb HB.out) hb); have n3_ := Aside0.mk (hbox); have n4_ := Aside0.mk ((by rw [hg]; exact (below_size (lb HB.out)) : w.heap.size ≤ gb145)); have n5_ := Aside0.mk ((by rw [hg]; exact (below_size (lb HB.out)) : w.heap.size ≤ gb145)); have n6_ := Aside0.mk ((by rw [hg]; exact Nat.ne_of_lt (blk_lt (bf BK143.out)) : gb143 ≠ gb145)); have n7_ := Aside0.mk ((by rw [hg]; exact Nat.ne_of_gt (blk_lt (bf BK143.out)) : gb145 ≠ gb143)); have n8_ := Aside0.mk ((by rw [hg]; exact Nat.ne_of_lt (blk_lt (bf BK144.out)) : gb144 ≠ gb145)); have n9_ := Aside0.mk ((by rw [hg]; exact Nat.ne_of_gt (blk_lt (bf BK144.out)) : gb145 ≠ gb144)); clear BK143; clear BK144; clear HB; have BK143 := n0_; have BK144 := n1_; have HB := n2_; have BK145 := n3_; have GW145 := n4_; have GE145 := n5_; have NB143_145 := n6_; have NB145_143 := n7_; have NB144_145 := n8_; have NB145_144 := n9_; clear n0_ n1_ n2_ n3_ n4_ n5_ n6_ n7_ n8_ n9_; clear hb hbox hg) | ((with_reducible refine gate_dst (N := 7) rfl ?_); refine bx_ 7 (cs := #[.int .i64 a3_0, .int .i64 a3_1]) (t := 28) ?_; intro gb146 hg w220 hbox hb; have n0_ := Aside0.mk (blk_below (bf BK143.out) hb); have n1_ := Aside0.mk (blk_below (bf BK144.out) hb); have n2_ := Aside0.mk (blk_below (bf BK145.out) hb); have n3_ := Aside0.mk (below_step (lb HB.out) hb); have n4_ := Aside0.mk (hbox); have n5_ := Aside0.mk ((by rw [hg]; exact (below_size (lb HB.out)) : w.heap.size ≤ gb146)); have n6_ := Aside0.mk ((by rw [hg]; exact (below_size (lb HB.out)) : w.heap.size ≤ gb146)); have n7_ := Aside0.mk ((by rw [hg]; exact Nat.ne_of_lt (blk_lt (bf BK143.out)) : gb143 ≠ gb146)); have n8_ := Aside0.mk ((by rw [hg]; exact Nat.ne_of_gt (blk_lt (bf BK143.out)) : gb146 ≠ gb143)); have n9_ := Aside0.mk ((by rw [hg]; exact Nat.ne_of_lt (blk_lt (bf BK144.out)) : gb144 ≠ gb146)); have n10_ := Aside0.mk ((by rw [hg]; exact Nat.ne_of_gt (blk_lt (bf BK144.out)) : gb146 ≠ gb144)); have n11_ := Aside0.mk ((by rw [hg]; exact Nat.ne_of_lt (blk_lt (bf BK145.out)) : gb145 ≠ gb146)); have n12_ := Aside0.mk ((by rw [hg]; exact Nat.ne_of_gt (blk_lt (bf BK145.out)) : gb146 ≠ gb145)); clear BK143; clear BK144; clear BK145; clear HB; have BK143 := n0_; have BK144 := n1_; have BK145 := n2_; have HB := n3_; have BK146 := n4_; have GW146 := n5_; have GE146 := n6_; have NB143_146 := n7_; have NB146_143 := n8_; have NB144_146 := n9_; have NB146_144 := n10_; have NB145_146 := n11_; have NB146_145 := n12_; clear n0_ n1_ n2_ n3_ n4_ n5_ n6_ n7_ n8_ n9_ n10_ n11_ n12_; clear hb hbox hg) | ((with_reducible refine gate_dst (N := 8) rfl ?_); refine bx_ 8 (cs := #[.int .i64 0, .int .i64 0]) (t := 25) ?_; intro gb147 hg w221 hbox hb; have n0_ := Aside0.mk (blk_below (bf BK143.out) hb); have n1_ := Aside0.mk (blk_below (bf BK144.out) hb); have n2_ := Aside0.mk (blk_below (bf BK145.out) hb); have n3_ := Aside0.mk (blk_below (bf BK146.out) hb); have n4_ := Aside0.mk (below_step (lb HB.out) hb); have n5_ := Aside0.mk (hbox); have n6_ := Aside0.mk ((by rw [hg]; exact (below_size (lb HB.out)) : w.heap.size ≤ gb147)); have n7_ := Aside0.mk ((by rw [hg]; exact (below_size (lb HB.out)) : w.heap.size ≤ gb147)); have n8_ := Aside0.mk ((by rw [hg]; exact Nat.ne_of_lt (blk_lt (bf BK143.out)) : gb143 ≠ gb147)); have n9_ := Aside0.mk ((by rw [hg]; exact Nat.ne_of_gt (blk_lt (bf BK143.out)) : gb147 ≠ gb143)); have n10_ := Aside0.mk ((by rw [hg]; exact Nat.ne_of_lt (blk_lt (bf BK144.out)) : gb144 ≠ gb147)); have n11_ := Aside0.mk ((by rw [hg]; exact Nat.ne_of_gt (blk_lt (bf BK144.out)) : gb147 ≠ gb144)); have n12_ := Aside0.mk ((by rw [hg]; exact Nat.ne_of_lt (blk_lt (bf BK145.out)) : gb145 ≠ gb147)); have n13_ := Aside0.mk ((by rw [hg]; exact Nat.ne_of_gt (blk_lt (bf BK145.out)) : gb147 ≠ gb145)); have n14_ := Aside0.mk ((by rw [hg]; exact Nat.ne_of_lt (blk_lt (bf BK146.out)) : gb146 ≠ gb147)); have n15_ := Aside0.mk ((by rw [hg]; exact Nat.ne_of_gt (blk_lt (bf BK146.out)) : gb147 ≠ gb146)); clear BK143; clear BK144; clear BK145; clear BK146; clear HB; have BK143 := n0_; have BK144 := n1_; have BK145 := n2_; have BK146 := n3_; have HB := n4_; have BK147 := n5_; have GW147 := n6_; have GE147 := n7_; have NB143_147 := n8_; have NB147_143 := n9_; have NB144_147 := n10_; have NB147_144 := n11_; have NB145_147 := n12_; have NB147_145 := n13_; have NB146_147 := n14_; have NB147_146 := n15_; clear n0_ n1_ n2_ n3_ n4_ n5_ n6_ n7_ n8_ n9_ n10_ n11_ n12_ n13_ n14_ n15_; clear hb hbox hg) | ((with_reducible refine gate_dst (N := 9) rfl ?_); refine bx_ 9 (cs := #[.int .i64 0, .int .i64 0]) (t := 25) ?_; intro gb148 hg w222 hbox hb; have n0_ := Aside0.mk (blk_below (bf BK143.out) hb); have n1_ := Aside0.mk (blk_below (bf BK144.out) hb); have n2_ := Aside0.mk (blk_below (bf BK145.out) hb); have n3_ := Aside0.mk (blk_below (bf BK146.out) hb); have n4_ := Aside0.mk (blk_below (bf BK147.out) hb); have n5_ := Aside0.mk (below_step (lb HB.out) hb); have n6_ := Aside0.mk (hbox); have n7_ := Aside0.mk ((by rw [hg]; exact (below_size (lb HB.out)) : w.heap.size ≤ gb148)); have n8_ := Aside0.mk ((by rw [hg]; exact (below_size (lb HB.out)) : w.heap.size ≤ gb148)); have n9_ := Aside0.mk ((by rw [hg]; exact Nat.ne_of_lt (blk_lt (bf BK143.out)) : gb143 ≠ gb148)); have n10_ := Aside0.mk ((by rw [hg]; exact Nat.ne_of_gt (blk_lt (bf BK143.out)) : gb148 ≠ gb143)); have n11_ := Aside0.mk ((by rw [hg]; exact Nat.ne_of_lt (blk_lt (bf BK144.out)) : gb144 ≠ gb148)); have n12_ := Aside0.mk ((by rw [hg]; exact Nat.ne_of_gt (blk_lt (bf BK144.out)) : gb148 ≠ gb144)); have n13_ := Aside0.mk ((by rw [hg]; exact Nat.ne_of_lt (blk_lt (bf BK145.out)) : gb145 ≠ gb148)); have n14_ := Aside0.mk ((by rw [hg]; exact Nat.ne_of_gt (blk_lt (bf BK145.out)) : gb148 ≠ gb145)); have n15_ := Aside0.mk ((by rw [hg]; exact Nat.ne_of_lt (blk_lt (bf BK146.out)) : gb146 ≠ gb148)); have n16_ := Aside0.mk ((by rw [hg]; exact Nat.ne_of_gt (blk_lt (bf BK146.out)) : gb148 ≠ gb146)); have n17_ := Aside0.mk ((by rw [hg]; exact Nat.ne_of_lt (blk_lt (bf BK147.out)) : gb147 ≠ gb148)); have n18_ := Aside0.mk ((by rw [hg]; exact Nat.ne_of_gt (blk_lt (bf BK147.out)) : gb148 ≠ gb147)); clear BK143; clear BK144; clear BK145; clear BK146; clear BK147; clear HB; have BK143 := n0_; have BK144 := n1_; have BK145 := n2_; have BK146 := n3_; have BK147 := n4_; have HB := n5_; have BK148 := n6_; have GW148 := n7_; have GE148 := n8_; have NB143_148 := n9_; have NB148_143 := n10_; have NB144_148 := n11_; have NB148_144 := n12_; have NB145_148 := n13_; have NB148_145 := n14_; have NB146_148 := n15_; have NB148_146 := n16_; have NB147_148 := n17_; have NB148_147 := n18_; clear n0_ n1_ n2_ n3_ n4_ n5_ n6_ n7_ n8_ n9_ n10_ n11_ n12_ n13_ n14_ n15_ n16_ n17_ n18_; clear hb hbox hg; have hnb223 := NB143_144.out; have hnc223 := NB144_143.out; have hnb224 := NB143_145.out; have hnc224 := NB145_143.out; have hnb225 := NB143_146.out; have hnc225 := NB146_143.out; have hnb226 := NB143_147.out; have hnc226 := NB147_143.out; have hnb227 := NB143_148.out; have hnc227 := NB148_143.out; have hcz228_0 : w222.cell? ⟨gb143, 0, none⟩ = some (.int .i64 a0_0) := (blk_cell BK143.out 0).trans rfl; have hcz228_1 : w222.cell? ⟨gb143, 1, none⟩ = some (.int .i64 a0_1) := (blk_cell BK143.out 1).trans rfl; have hfz228_0 := blk_frozen BK143.out 0; have hfz228_1 := blk_frozen BK143.out 1; have hnb229 := NB144_145.out; have hnc229 := NB145_144.out; have hnb230 := NB144_146.out; have hnc230 := NB146_144.out; have hnb231 := NB144_147.out; have hnc231 := NB147_144.out; have hnb232 := NB144_148.out; have hnc232 := NB148_144.out; have hcz233_0 : w222.cell? ⟨gb144, 0, none⟩ = some (.int .i64 a1_0) := (blk_cell BK144.out 0).trans rfl; have hcz233_1 : w222.cell? ⟨gb144, 1, none⟩ = some (.int .i64 a1_1) := (blk_cell BK144.out 1).trans rfl; have hfz233_0 := blk_frozen BK144.out 0; have hfz233_1 := blk_frozen BK144.out 1; have hnb234 := NB145_146.out; have hnc234 := NB146_145.out; have hnb235 := NB145_147.out; have hnc235 := NB147_145.out; have hnb236 := NB145_148.out; have hnc236 := NB148_145.out; have hcz237_0 : w222.cell? ⟨gb145, 0, none⟩ = some (.int .i64 a2_0) := (blk_cell BK145.out 0).trans rfl; have hcz237_1 : w222.cell? ⟨gb145, 1, none⟩ = some (.int .i64 a2_1) := (blk_cell BK145.out 1).trans rfl; have hfz237_0 := blk_frozen BK145.out 0; have hfz237_1 := blk_frozen BK145.out 1; have hnb238 := NB146_147.out; have hnc238 := NB147_146.out; have hnb239 := NB146_148.out; have hnc239 := NB148_146.out; have hcz240_0 : w222.cell? ⟨gb146, 0, none⟩ = some (.int .i64 a3_0) := (blk_cell BK146.out 0).trans rfl; have hcz240_1 : w222.cell? ⟨gb146, 1, none⟩ = some (.int .i64 a3_1) := (blk_cell BK146.out 1).trans rfl; have hfz240_0 := blk_frozen BK146.out 0; have hfz240_1 := blk_frozen BK146.out 1) | ((with_reducible refine gate_callee (f := 8) rfl ?_); refine goesL_ (some 21) rfl rfl Try.func8 (by kernel_rfl) rfl #[.agg #[.int .i64 a0_0, .int .i64 a0_1], .agg #[.int .i64 a1_0, .int .i64 a1_1], .agg #[.int .i64 a2_0, .int .i64 a2_1], .agg #[.int .i64 a3_0, .int .i64 a3_1]] rfl al ?_; (with_reducible refine (spec_l34Ok.calls a0_0 a0_1 a1_0 a1_1 a2_0 a2_1 a3_0 a3_1 false _ A5.out).mono ?_); rintro e w241 ⟨rfl, hb⟩; refine ⟨_, rfl, ?_⟩; have n0_ := Aside0.mk (blk_below (bf BK143.out) hb); have n1_ := Aside0.mk (blk_below (bf BK144.out) hb); have n2_ := Aside0.mk (blk_below (bf BK145.out) hb); have n3_ := Aside0.mk (blk_below (bf BK146.out) hb); have n4_ := Aside0.mk (blk_below (bf BK147.out) hb); have n5_ := Aside0.mk (blk_below (bf BK148.out) hb); have n6_ := Aside0.mk (below_step (lb HB.out) hb); clear BK143; clear BK144; clear BK145; clear BK146; clear BK147; clear BK148; clear HB; have BK143 := n0_; have BK144 := n1_; have BK145 := n2_; have BK146 := n3_; have BK147 := n4_; have BK148 := n5_; have HB := n6_; clear n0_ n1_ n2_ n3_ n4_ n5_ n6_; (try clear hb); (try clear hb2); (try clear hk); (try clear hi); have hnb242 := NB147_148.out; have hnc242 := NB148_147.out; have hcz243_0 : w241.cell? ⟨gb147, 0, none⟩ = some (.int .i64 0) := (blk_cell BK147.out 0).trans rfl; have hcz243_1 : w241.cell? ⟨gb147, 1, none⟩ = some (.int .i64 0) := (blk_cell BK147.out 1).trans rfl; have hfz243_0 := blk_frozen BK147.out 0; have hfz243_1 := blk_frozen BK147.out 1; have hcz244_0 : w241.cell? ⟨gb148, 0, none⟩ = some (.int .i64 0) := (blk_cell BK148.out 0).trans rfl; have hcz244_1 : w241.cell? ⟨gb148, 1, none⟩ = some (.int .i64 0) := (blk_cell BK148.out 1).trans rfl; have hfz244_0 := blk_frozen BK148.out 0; have hfz244_1 := blk_frozen BK148.out 1))
  refine bodyPost_ret (results_list (rs := [.cell 8 25, .cell 9 25, .tmp 10]) rfl (by simp) (.cell gb147 25 #[.int .i64 0, .int .i64 0] (0, 0) _ rfl (by (with_reducible repeat (first | refine blk_drewN ?_ _ | refine blk_drew ?_ | refine blk_alloc ?_ _)); refine blk_far ?_ NB147_148.out _; (with_reducible repeat (first | refine blk_drewN ?_ _ | refine blk_drew ?_ | refine blk_alloc ?_ _)); refine blk_far ?_ NB147_148.out _; (with_reducible repeat (first | refine blk_drewN ?_ _ | refine blk_drew ?_ | refine blk_alloc ?_ _)); refine blk_put (cs := #[.int .i64 0, .int .i64 0]) ?_ 1 _ rfl; (with_reducible repeat (first | refine blk_drewN ?_ _ | refine blk_drew ?_ | refine blk_alloc ?_ _)); refine blk_put (cs := #[.int .i64 0, .int .i64 0]) ?_ 0 _ rfl; (with_reducible repeat (first | refine blk_drewN ?_ _ | refine blk_drew ?_ | refine blk_alloc ?_ _)); exact BK147.out) Try.underlying25 rfl (by kernel_rfl) (.cell gb148 25 #[.int .i64 0, .int .i64 0] (0, 0) _ rfl (by (with_reducible repeat (first | refine blk_drewN ?_ _ | refine blk_drew ?_ | refine blk_alloc ?_ _)); refine blk_put (cs := #[.int .i64 0, .int .i64 0]) ?_ 1 _ rfl; (with_reducible repeat (first | refine blk_drewN ?_ _ | refine blk_drew ?_ | refine blk_alloc ?_ _)); refine blk_put (cs := #[.int .i64 0, .int .i64 0]) ?_ 0 _ rfl; (with_reducible repeat (first | refine blk_drewN ?_ _ | refine blk_drew ?_ | refine blk_alloc ?_ _)); refine blk_far ?_ NB148_147.out _; (with_reducible repeat (first | refine blk_drewN ?_ _ | refine blk_drew ?_ | refine blk_alloc ?_ _)); refine blk_far ?_ NB148_147.out _; (with_reducible repeat (first | refine blk_drewN ?_ _ | refine blk_drew ?_ | refine blk_alloc ?_ _)); exact BK148.out) Try.underlying25 rfl (by kernel_rfl) (.tmp .nil)))) rfl ?_
  exact ⟨er, lb HB.out⟩
def laws_toPoint.f (a0_0 : Int) (a0_1 : Int) : Option (Int × Int) := some (a0_0, a0_1)
set_option maxHeartbeats 8000000 in
set_option maxRecDepth 100000 in
theorem laws_toPoint.calls (a0_0 : Int) (a0_1 : Int) (r1 : Int) (r2 : Int) (w : World) (h : laws_toPoint.f a0_0 a0_1 = some (r1, r2)) :
  Calls Try.prog 5 #[.agg #[.int .i64 a0_0, .int .i64 a0_1]] w fun e w' => e = .returned (.agg #[.int .i64 r1, .int .i64 r2]) ∧ Below w.heap.size w w' := by
 have hu23 := Try.underlying23
 have hu28 := Try.underlying28
 have HB := Aside0.mk (Below.refl w.heap.size w)
 have H : (some (a0_0, a0_1)) = some (r1, r2) := h
 clear h
 simp only [Option.some.injEq, Prod.mk.injEq] at H
 obtain ⟨rfl, rfl⟩ := H
 go_enter Try.func5, Try.ntmps5
 go_wp2_with (first | ((with_reducible refine gate_dst (N := 1) rfl ?_); refine bx_ 1 (cs := #[.int .i64 a0_0, .int .i64 a0_1]) (t := 23) ?_; intro gb160 hg w2 hbox hb; have n0_ := Aside0.mk (below_step (lb HB.out) hb); have n1_ := Aside0.mk (hbox); have n2_ := Aside0.mk ((by rw [hg]; exact (below_size (lb HB.out)) : w.heap.size ≤ gb160)); have n3_ := Aside0.mk ((by rw [hg]; exact (below_size (lb HB.out)) : w.heap.size ≤ gb160)); clear HB; have HB := n0_; have BK160 := n1_; have GW160 := n2_; have GE160 := n3_; clear n0_ n1_ n2_ n3_; clear hb hbox hg) | ((with_reducible refine gate_dst (N := 2) rfl ?_); refine bx_ 2 (cs := #[.int .i64 0, .int .i64 0]) (t := 28) ?_; intro gb161 hg w3 hbox hb; have n0_ := Aside0.mk (blk_below (bf BK160.out) hb); have n1_ := Aside0.mk (below_step (lb HB.out) hb); have n2_ := Aside0.mk (hbox); have n3_ := Aside0.mk ((by rw [hg]; exact (below_size (lb HB.out)) : w.heap.size ≤ gb161)); have n4_ := Aside0.mk ((by rw [hg]; exact (below_size (lb HB.out)) : w.heap.size ≤ gb161)); have n5_ := Aside0.mk ((by rw [hg]; exact Nat.ne_of_lt (blk_lt (bf BK160.out)) : gb160 ≠ gb161)); have n6_ := Aside0.mk ((by rw [hg]; exact Nat.ne_of_gt (blk_lt (bf BK160.out)) : gb161 ≠ gb160)); clear BK160; clear HB; have BK160 := n0_; have HB := n1_; have BK161 := n2_; have GW161 := n3_; have GE161 := n4_; have NB160_161 := n5_; have NB161_160 := n6_; clear n0_ n1_ n2_ n3_ n4_ n5_ n6_; clear hb hbox hg) | ((with_reducible refine gate_dst (N := 3) rfl ?_); refine bx_ 3 (cs := #[.int .i64 0, .int .i64 0]) (t := 28) ?_; intro gb162 hg w4 hbox hb; have n0_ := Aside0.mk (blk_below (bf BK160.out) hb); have n1_ := Aside0.mk (blk_below (bf BK161.out) hb); have n2_ := Aside0.mk (below_step (lb HB.out) hb); have n3_ := Aside0.mk (hbox); have n4_ := Aside0.mk ((by rw [hg]; exact (below_size (lb HB.out)) : w.heap.size ≤ gb162)); have n5_ := Aside0.mk ((by rw [hg]; exact (below_size (lb HB.out)) : w.heap.size ≤ gb162)); have n6_ := Aside0.mk ((by rw [hg]; exact Nat.ne_of_lt (blk_lt (bf BK160.out)) : gb160 ≠ gb162)); have n7_ := Aside0.mk ((by rw [hg]; exact Nat.ne_of_gt (blk_lt (bf BK160.out)) : gb162 ≠ gb160)); have n8_ := Aside0.mk ((by rw [hg]; exact Nat.ne_of_lt (blk_lt (bf BK161.out)) : gb161 ≠ gb162)); have n9_ := Aside0.mk ((by rw [hg]; exact Nat.ne_of_gt (blk_lt (bf BK161.out)) : gb162 ≠ gb161)); clear BK160; clear BK161; clear HB; have BK160 := n0_; have BK161 := n1_; have HB := n2_; have BK162 := n3_; have GW162 := n4_; have GE162 := n5_; have NB160_162 := n6_; have NB162_160 := n7_; have NB161_162 := n8_; have NB162_161 := n9_; clear n0_ n1_ n2_ n3_ n4_ n5_ n6_ n7_ n8_ n9_; clear hb hbox hg; have hnb5 := NB160_161.out; have hnc5 := NB161_160.out; have hnb6 := NB160_162.out; have hnc6 := NB162_160.out; have hcz7_0 : w4.cell? ⟨gb160, 0, none⟩ = some (.int .i64 a0_0) := (blk_cell BK160.out 0).trans rfl; have hcz7_1 : w4.cell? ⟨gb160, 1, none⟩ = some (.int .i64 a0_1) := (blk_cell BK160.out 1).trans rfl; have hfz7_0 := blk_frozen BK160.out 0; have hfz7_1 := blk_frozen BK160.out 1; have hnb8 := NB162_161.out; have hnc8 := NB161_162.out; have hcz9_0 : w4.cell? ⟨gb162, 0, none⟩ = some (.int .i64 0) := (blk_cell BK162.out 0).trans rfl; have hcz9_1 : w4.cell? ⟨gb162, 1, none⟩ = some (.int .i64 0) := (blk_cell BK162.out 1).trans rfl; have hfz9_0 := blk_frozen BK162.out 0; have hfz9_1 := blk_frozen BK162.out 1; have hcz10_0 : w4.cell? ⟨gb161, 0, none⟩ = some (.int .i64 0) := (blk_cell BK161.out 0).trans rfl; have hcz10_1 : w4.cell? ⟨gb161, 1, none⟩ = some (.int .i64 0) := (blk_cell BK161.out 1).trans rfl; have hfz10_0 := blk_frozen BK161.out 0; have hfz10_1 := blk_frozen BK161.out 1))
 refine bodyPost_ret (results_cell_row rfl _ _ gb161 28 #[.int .i64 a0_0, .int .i64 a0_1] (0, 0) _ rfl (by (with_reducible repeat (first | refine blk_drewN ?_ _ | refine blk_drew ?_ | refine blk_alloc ?_ _)); refine blk_put (cs := #[.int .i64 a0_0, .int .i64 0]) ?_ 1 _ rfl; (with_reducible repeat (first | refine blk_drewN ?_ _ | refine blk_drew ?_ | refine blk_alloc ?_ _)); refine blk_put (cs := #[.int .i64 0, .int .i64 0]) ?_ 0 _ rfl; (with_reducible repeat (first | refine blk_drewN ?_ _ | refine blk_drew ?_ | refine blk_alloc ?_ _)); refine blk_far ?_ NB161_162.out _; (with_reducible repeat (first | refine blk_drewN ?_ _ | refine blk_drew ?_ | refine blk_alloc ?_ _)); refine blk_far ?_ NB161_162.out _; (with_reducible repeat (first | refine blk_drewN ?_ _ | refine blk_drew ?_ | refine blk_alloc ?_ _)); exact BK161.out) Try.underlying28 rfl (by kernel_rfl)) rfl ?_
 exact ⟨er, lb HB.out⟩
def impl_within.f (a0 : Int) (a1 : Int) : Option (Bool) := if (wrap64 (-a1)) ≤ a0 then (some (decide (a0 ≤ a1))) else (some false)
set_option maxHeartbeats 8000000 in
set_option maxRecDepth 100000 in
theorem impl_within.calls (a0 : Int) (a1 : Int) (r : Bool) (w : World) (h : impl_within.f a0 a1 = some r) :
  Calls Try.prog 25 #[.int .i64 a0, .int .i64 a1] w fun e w' => e = .returned (.bool r) ∧ Drawn0 w w' := by
 have H : (if (wrap64 (-a1)) ≤ a0 then (some (decide (a0 ≤ a1))) else (some false)) = some r := h
 clear h
 by_cases c3 : (wrap64 (-a1)) ≤ a0
 ·rw [if_pos c3] at H
  have c3b0 : decide ((wrap64 (-a1)) ≤ a0) = true := decide_eq_true c3
  clear c3
  obtain rfl := Option.some.inj H
  go_enter Try.func25, Try.ntmps25
  go_wp2
  go_ret
  exact ⟨by first | rfl | (simp; done) | (simp [*]; done), by repeat (first | exact Drawn0.refl _ | apply Drawn0.step)⟩
 ·rw [if_neg c3] at H
  have c3b0 : decide ((wrap64 (-a1)) ≤ a0) = false := decide_eq_false c3
  clear c3
  obtain rfl := Option.some.inj H
  go_enter Try.func25, Try.ntmps25
  go_wp2
  go_ret
  exact ⟨by first | rfl | (simp; done) | (simp [*]; done), by repeat (first | exact Drawn0.refl _ | apply Drawn0.step)⟩
def impl_PointValid.f (a0_0 : Int) (a0_1 : Int) : Option (Bool) := some (inR a0_0 a0_1 10000)
theorem impl_PointValid.calls (a0_0 : Int) (a0_1 : Int) (r : Bool) (w : World) (h : impl_PointValid.f a0_0 a0_1 = some r) :
  Calls Try.prog 21 #[.agg #[.int .i64 a0_0, .int .i64 a0_1]] w fun e w' => e = .returned (.bool r) ∧ Below w.heap.size w w' := by
 have h := Option.some.inj h
 have h0 := PointValid_calls a0_0 a0_1 w
 rw [h] at h0
 exact h0
def lnOk (ax ay bx by_ cx cy dx dy : Int) : Bool := inR ax ay 10000 && (inR bx by_ 10000 && (inR cx cy 10000 && (inR dx dy 10000 && (!(ax == bx && (ay == by_)) && !(cx == dx && (cy == dy))))))
section
attribute [local go_sem high] eqA28
set_option maxHeartbeats 4000000 in
theorem lines_no1 (ax ay bx by_ cx cy dx dy : Int) (h1 : inR ax ay 10000 = false) (w : World) :
  Calls Try.prog 11 #[.agg #[.int .i64 ax, .int .i64 ay], .agg #[.int .i64 bx, .int .i64 by_], .agg #[.int .i64 cx, .int .i64 cy], .agg #[.int .i64 dx, .int .i64 dy]] w fun e w' => e = .returned (.tuple #[.pointer none, .pointer none, .bool false]) ∧ Below w.heap.size w w' := by
 have H1 := Aside0.mk h1
 have HM := Aside0.mk (Hd.nil w)
 clear h1
 go_enter Try.func11, Try.ntmps11
 go_wp2_with (first
  | ((with_reducible refine gate_dst (N := 4) rfl ?_); refine bx_ 4 (cs := #[.int .i64 ax, .int .i64 ay]) (t := 28) ?_; intro g4 e_ w_ b_ hb; replace HM := Aside0.mk (HM.out.box hb b_ e_); clear e_ b_ hb)
  | ((with_reducible refine gate_dst (N := 5) rfl ?_); refine bx_ 5 (cs := #[.int .i64 bx, .int .i64 by_]) (t := 28) ?_; intro g5 e_ w_ b_ hb; replace HM := Aside0.mk (HM.out.box hb b_ e_); clear e_ b_ hb)
  | ((with_reducible refine gate_dst (N := 6) rfl ?_); refine bx_ 6 (cs := #[.int .i64 cx, .int .i64 cy]) (t := 28) ?_; intro g6 e_ w_ b_ hb; replace HM := Aside0.mk (HM.out.box hb b_ e_); clear e_ b_ hb)
  | ((with_reducible refine gate_dst (N := 7) rfl ?_); refine bx_ 7 (cs := #[.int .i64 dx, .int .i64 dy]) (t := 28) ?_; intro g7 e_ w_ b_ hb; replace HM := Aside0.mk (HM.out.box hb b_ e_); clear e_ b_ hb; have ka0 := blk_cell HM.out.a3 0; have ka1 := blk_cell HM.out.a3 1; have kb0 := blk_cell HM.out.a2 0; have kb1 := blk_cell HM.out.a2 1; have kc0 := blk_cell HM.out.a1 0; have kc1 := blk_cell HM.out.a1 1; have kd0 := blk_cell HM.out.a0 0; have kd1 := blk_cell HM.out.a0 1)
  | (go_at_call 21; (with_reducible refine (PointValid_calls ax ay _).mono ?_); rintro e w_ ⟨rfl, hb⟩; rw [H1.out]; replace HM := Aside0.mk (HM.out.keep hb); clear hb; (try clear ka0 ka1 kb0 kb1 kc0 kc1 kd0 kd1); have ka0 := blk_cell HM.out.a3 0; have ka1 := blk_cell HM.out.a3 1; have kb0 := blk_cell HM.out.a2 0; have kb1 := blk_cell HM.out.a2 1; have kc0 := blk_cell HM.out.a1 0; have kc1 := blk_cell HM.out.a1 1; have kd0 := blk_cell HM.out.a0 0; have kd1 := blk_cell HM.out.a0 1))
 go_ret3
 exact ⟨rfl, HM.out.1⟩
set_option maxHeartbeats 4000000 in
theorem lines_no2 (ax ay bx by_ cx cy dx dy : Int) (h1 : inR ax ay 10000 = true) (h2 : inR bx by_ 10000 = false) (w : World) :
  Calls Try.prog 11 #[.agg #[.int .i64 ax, .int .i64 ay], .agg #[.int .i64 bx, .int .i64 by_], .agg #[.int .i64 cx, .int .i64 cy], .agg #[.int .i64 dx, .int .i64 dy]] w fun e w' => e = .returned (.tuple #[.pointer none, .pointer none, .bool false]) ∧ Below w.heap.size w w' := by
 have H1 := Aside0.mk h1
 have H2 := Aside0.mk h2
 have HM := Aside0.mk (Hd.nil w)
 clear h1 h2
 go_enter Try.func11, Try.ntmps11
 go_wp2_with (first
  | ((with_reducible refine gate_dst (N := 4) rfl ?_); refine bx_ 4 (cs := #[.int .i64 ax, .int .i64 ay]) (t := 28) ?_; intro g4 e_ w_ b_ hb; replace HM := Aside0.mk (HM.out.box hb b_ e_); clear e_ b_ hb)
  | ((with_reducible refine gate_dst (N := 5) rfl ?_); refine bx_ 5 (cs := #[.int .i64 bx, .int .i64 by_]) (t := 28) ?_; intro g5 e_ w_ b_ hb; replace HM := Aside0.mk (HM.out.box hb b_ e_); clear e_ b_ hb)
  | ((with_reducible refine gate_dst (N := 6) rfl ?_); refine bx_ 6 (cs := #[.int .i64 cx, .int .i64 cy]) (t := 28) ?_; intro g6 e_ w_ b_ hb; replace HM := Aside0.mk (HM.out.box hb b_ e_); clear e_ b_ hb)
  | ((with_reducible refine gate_dst (N := 7) rfl ?_); refine bx_ 7 (cs := #[.int .i64 dx, .int .i64 dy]) (t := 28) ?_; intro g7 e_ w_ b_ hb; replace HM := Aside0.mk (HM.out.box hb b_ e_); clear e_ b_ hb; have ka0 := blk_cell HM.out.a3 0; have ka1 := blk_cell HM.out.a3 1; have kb0 := blk_cell HM.out.a2 0; have kb1 := blk_cell HM.out.a2 1; have kc0 := blk_cell HM.out.a1 0; have kc1 := blk_cell HM.out.a1 1; have kd0 := blk_cell HM.out.a0 0; have kd1 := blk_cell HM.out.a0 1)
  | (go_at_call 21; (with_reducible refine (PointValid_calls ax ay _).mono ?_); rintro e w_ ⟨rfl, hb⟩; rw [H1.out]; replace HM := Aside0.mk (HM.out.keep hb); clear hb; (try clear ka0 ka1 kb0 kb1 kc0 kc1 kd0 kd1); have ka0 := blk_cell HM.out.a3 0; have ka1 := blk_cell HM.out.a3 1; have kb0 := blk_cell HM.out.a2 0; have kb1 := blk_cell HM.out.a2 1; have kc0 := blk_cell HM.out.a1 0; have kc1 := blk_cell HM.out.a1 1; have kd0 := blk_cell HM.out.a0 0; have kd1 := blk_cell HM.out.a0 1)
  | (go_at_call 21; (with_reducible refine (PointValid_calls bx by_ _).mono ?_); rintro e w_ ⟨rfl, hb⟩; rw [H2.out]; replace HM := Aside0.mk (HM.out.keep hb); clear hb; (try clear ka0 ka1 kb0 kb1 kc0 kc1 kd0 kd1); have ka0 := blk_cell HM.out.a3 0; have ka1 := blk_cell HM.out.a3 1; have kb0 := blk_cell HM.out.a2 0; have kb1 := blk_cell HM.out.a2 1; have kc0 := blk_cell HM.out.a1 0; have kc1 := blk_cell HM.out.a1 1; have kd0 := blk_cell HM.out.a0 0; have kd1 := blk_cell HM.out.a0 1))
 go_ret3
 exact ⟨rfl, HM.out.1⟩
set_option maxHeartbeats 4000000 in
theorem lines_no3 (ax ay bx by_ cx cy dx dy : Int) (h1 : inR ax ay 10000 = true) (h2 : inR bx by_ 10000 = true) (h3 : inR cx cy 10000 = false) (w : World) :
  Calls Try.prog 11 #[.agg #[.int .i64 ax, .int .i64 ay], .agg #[.int .i64 bx, .int .i64 by_], .agg #[.int .i64 cx, .int .i64 cy], .agg #[.int .i64 dx, .int .i64 dy]] w fun e w' => e = .returned (.tuple #[.pointer none, .pointer none, .bool false]) ∧ Below w.heap.size w w' := by
 have H1 := Aside0.mk h1
 have H2 := Aside0.mk h2
 have H3 := Aside0.mk h3
 have HM := Aside0.mk (Hd.nil w)
 clear h1 h2 h3
 go_enter Try.func11, Try.ntmps11
 go_wp2_with (first
  | ((with_reducible refine gate_dst (N := 4) rfl ?_); refine bx_ 4 (cs := #[.int .i64 ax, .int .i64 ay]) (t := 28) ?_; intro g4 e_ w_ b_ hb; replace HM := Aside0.mk (HM.out.box hb b_ e_); clear e_ b_ hb)
  | ((with_reducible refine gate_dst (N := 5) rfl ?_); refine bx_ 5 (cs := #[.int .i64 bx, .int .i64 by_]) (t := 28) ?_; intro g5 e_ w_ b_ hb; replace HM := Aside0.mk (HM.out.box hb b_ e_); clear e_ b_ hb)
  | ((with_reducible refine gate_dst (N := 6) rfl ?_); refine bx_ 6 (cs := #[.int .i64 cx, .int .i64 cy]) (t := 28) ?_; intro g6 e_ w_ b_ hb; replace HM := Aside0.mk (HM.out.box hb b_ e_); clear e_ b_ hb)
  | ((with_reducible refine gate_dst (N := 7) rfl ?_); refine bx_ 7 (cs := #[.int .i64 dx, .int .i64 dy]) (t := 28) ?_; intro g7 e_ w_ b_ hb; replace HM := Aside0.mk (HM.out.box hb b_ e_); clear e_ b_ hb; have ka0 := blk_cell HM.out.a3 0; have ka1 := blk_cell HM.out.a3 1; have kb0 := blk_cell HM.out.a2 0; have kb1 := blk_cell HM.out.a2 1; have kc0 := blk_cell HM.out.a1 0; have kc1 := blk_cell HM.out.a1 1; have kd0 := blk_cell HM.out.a0 0; have kd1 := blk_cell HM.out.a0 1)
  | (go_at_call 21; (with_reducible refine (PointValid_calls ax ay _).mono ?_); rintro e w_ ⟨rfl, hb⟩; rw [H1.out]; replace HM := Aside0.mk (HM.out.keep hb); clear hb; (try clear ka0 ka1 kb0 kb1 kc0 kc1 kd0 kd1); have ka0 := blk_cell HM.out.a3 0; have ka1 := blk_cell HM.out.a3 1; have kb0 := blk_cell HM.out.a2 0; have kb1 := blk_cell HM.out.a2 1; have kc0 := blk_cell HM.out.a1 0; have kc1 := blk_cell HM.out.a1 1; have kd0 := blk_cell HM.out.a0 0; have kd1 := blk_cell HM.out.a0 1)
  | (go_at_call 21; (with_reducible refine (PointValid_calls bx by_ _).mono ?_); rintro e w_ ⟨rfl, hb⟩; rw [H2.out]; replace HM := Aside0.mk (HM.out.keep hb); clear hb; (try clear ka0 ka1 kb0 kb1 kc0 kc1 kd0 kd1); have ka0 := blk_cell HM.out.a3 0; have ka1 := blk_cell HM.out.a3 1; have kb0 := blk_cell HM.out.a2 0; have kb1 := blk_cell HM.out.a2 1; have kc0 := blk_cell HM.out.a1 0; have kc1 := blk_cell HM.out.a1 1; have kd0 := blk_cell HM.out.a0 0; have kd1 := blk_cell HM.out.a0 1)
  | (go_at_call 21; (with_reducible refine (PointValid_calls cx cy _).mono ?_); rintro e w_ ⟨rfl, hb⟩; rw [H3.out]; replace HM := Aside0.mk (HM.out.keep hb); clear hb; (try clear ka0 ka1 kb0 kb1 kc0 kc1 kd0 kd1); have ka0 := blk_cell HM.out.a3 0; have ka1 := blk_cell HM.out.a3 1; have kb0 := blk_cell HM.out.a2 0; have kb1 := blk_cell HM.out.a2 1; have kc0 := blk_cell HM.out.a1 0; have kc1 := blk_cell HM.out.a1 1; have kd0 := blk_cell HM.out.a0 0; have kd1 := blk_cell HM.out.a0 1))
 go_ret3
 exact ⟨rfl, HM.out.1⟩
set_option maxHeartbeats 4000000 in
theorem lines_no4 (ax ay bx by_ cx cy dx dy : Int) (h1 : inR ax ay 10000 = true) (h2 : inR bx by_ 10000 = true) (h3 : inR cx cy 10000 = true) (h4 : inR dx dy 10000 = false) (w : World) :
  Calls Try.prog 11 #[.agg #[.int .i64 ax, .int .i64 ay], .agg #[.int .i64 bx, .int .i64 by_], .agg #[.int .i64 cx, .int .i64 cy], .agg #[.int .i64 dx, .int .i64 dy]] w fun e w' => e = .returned (.tuple #[.pointer none, .pointer none, .bool false]) ∧ Below w.heap.size w w' := by
 have H1 := Aside0.mk h1
 have H2 := Aside0.mk h2
 have H3 := Aside0.mk h3
 have H4 := Aside0.mk h4
 have HM := Aside0.mk (Hd.nil w)
 clear h1 h2 h3 h4
 go_enter Try.func11, Try.ntmps11
 go_wp2_with (first
  | ((with_reducible refine gate_dst (N := 4) rfl ?_); refine bx_ 4 (cs := #[.int .i64 ax, .int .i64 ay]) (t := 28) ?_; intro g4 e_ w_ b_ hb; replace HM := Aside0.mk (HM.out.box hb b_ e_); clear e_ b_ hb)
  | ((with_reducible refine gate_dst (N := 5) rfl ?_); refine bx_ 5 (cs := #[.int .i64 bx, .int .i64 by_]) (t := 28) ?_; intro g5 e_ w_ b_ hb; replace HM := Aside0.mk (HM.out.box hb b_ e_); clear e_ b_ hb)
  | ((with_reducible refine gate_dst (N := 6) rfl ?_); refine bx_ 6 (cs := #[.int .i64 cx, .int .i64 cy]) (t := 28) ?_; intro g6 e_ w_ b_ hb; replace HM := Aside0.mk (HM.out.box hb b_ e_); clear e_ b_ hb)
  | ((with_reducible refine gate_dst (N := 7) rfl ?_); refine bx_ 7 (cs := #[.int .i64 dx, .int .i64 dy]) (t := 28) ?_; intro g7 e_ w_ b_ hb; replace HM := Aside0.mk (HM.out.box hb b_ e_); clear e_ b_ hb; have ka0 := blk_cell HM.out.a3 0; have ka1 := blk_cell HM.out.a3 1; have kb0 := blk_cell HM.out.a2 0; have kb1 := blk_cell HM.out.a2 1; have kc0 := blk_cell HM.out.a1 0; have kc1 := blk_cell HM.out.a1 1; have kd0 := blk_cell HM.out.a0 0; have kd1 := blk_cell HM.out.a0 1)
  | (go_at_call 21; (with_reducible refine (PointValid_calls ax ay _).mono ?_); rintro e w_ ⟨rfl, hb⟩; rw [H1.out]; replace HM := Aside0.mk (HM.out.keep hb); clear hb; (try clear ka0 ka1 kb0 kb1 kc0 kc1 kd0 kd1); have ka0 := blk_cell HM.out.a3 0; have ka1 := blk_cell HM.out.a3 1; have kb0 := blk_cell HM.out.a2 0; have kb1 := blk_cell HM.out.a2 1; have kc0 := blk_cell HM.out.a1 0; have kc1 := blk_cell HM.out.a1 1; have kd0 := blk_cell HM.out.a0 0; have kd1 := blk_cell HM.out.a0 1)
  | (go_at_call 21; (with_reducible refine (PointValid_calls bx by_ _).mono ?_); rintro e w_ ⟨rfl, hb⟩; rw [H2.out]; replace HM := Aside0.mk (HM.out.keep hb); clear hb; (try clear ka0 ka1 kb0 kb1 kc0 kc1 kd0 kd1); have ka0 := blk_cell HM.out.a3 0; have ka1 := blk_cell HM.out.a3 1; have kb0 := blk_cell HM.out.a2 0; have kb1 := blk_cell HM.out.a2 1; have kc0 := blk_cell HM.out.a1 0; have kc1 := blk_cell HM.out.a1 1; have kd0 := blk_cell HM.out.a0 0; have kd1 := blk_cell HM.out.a0 1)
  | (go_at_call 21; (with_reducible refine (PointValid_calls cx cy _).mono ?_); rintro e w_ ⟨rfl, hb⟩; rw [H3.out]; replace HM := Aside0.mk (HM.out.keep hb); clear hb; (try clear ka0 ka1 kb0 kb1 kc0 kc1 kd0 kd1); have ka0 := blk_cell HM.out.a3 0; have ka1 := blk_cell HM.out.a3 1; have kb0 := blk_cell HM.out.a2 0; have kb1 := blk_cell HM.out.a2 1; have kc0 := blk_cell HM.out.a1 0; have kc1 := blk_cell HM.out.a1 1; have kd0 := blk_cell HM.out.a0 0; have kd1 := blk_cell HM.out.a0 1)
  | (go_at_call 21; (with_reducible refine (PointValid_calls dx dy _).mono ?_); rintro e w_ ⟨rfl, hb⟩; rw [H4.out]; replace HM := Aside0.mk (HM.out.keep hb); clear hb; (try clear ka0 ka1 kb0 kb1 kc0 kc1 kd0 kd1); have ka0 := blk_cell HM.out.a3 0; have ka1 := blk_cell HM.out.a3 1; have kb0 := blk_cell HM.out.a2 0; have kb1 := blk_cell HM.out.a2 1; have kc0 := blk_cell HM.out.a1 0; have kc1 := blk_cell HM.out.a1 1; have kd0 := blk_cell HM.out.a0 0; have kd1 := blk_cell HM.out.a0 1))
 go_ret3
 exact ⟨rfl, HM.out.1⟩
set_option maxHeartbeats 4000000 in
theorem lines_no5 (ax ay bx by_ cx cy dx dy : Int) (h1 : inR ax ay 10000 = true) (h2 : inR bx by_ 10000 = true) (h3 : inR cx cy 10000 = true) (h4 : inR dx dy 10000 = true) (h5 : (ax == bx && (ay == by_)) = true) (w : World) :
  Calls Try.prog 11 #[.agg #[.int .i64 ax, .int .i64 ay], .agg #[.int .i64 bx, .int .i64 by_], .agg #[.int .i64 cx, .int .i64 cy], .agg #[.int .i64 dx, .int .i64 dy]] w fun e w' => e = .returned (.tuple #[.pointer none, .pointer none, .bool false]) ∧ Below w.heap.size w w' := by
 have H1 := Aside0.mk h1
 have H2 := Aside0.mk h2
 have H3 := Aside0.mk h3
 have H4 := Aside0.mk h4
 have HM := Aside0.mk (Hd.nil w)
 clear h1 h2 h3 h4
 go_enter Try.func11, Try.ntmps11
 go_wp2_with (first
  | ((with_reducible refine gate_dst (N := 4) rfl ?_); refine bx_ 4 (cs := #[.int .i64 ax, .int .i64 ay]) (t := 28) ?_; intro g4 e_ w_ b_ hb; replace HM := Aside0.mk (HM.out.box hb b_ e_); clear e_ b_ hb)
  | ((with_reducible refine gate_dst (N := 5) rfl ?_); refine bx_ 5 (cs := #[.int .i64 bx, .int .i64 by_]) (t := 28) ?_; intro g5 e_ w_ b_ hb; replace HM := Aside0.mk (HM.out.box hb b_ e_); clear e_ b_ hb)
  | ((with_reducible refine gate_dst (N := 6) rfl ?_); refine bx_ 6 (cs := #[.int .i64 cx, .int .i64 cy]) (t := 28) ?_; intro g6 e_ w_ b_ hb; replace HM := Aside0.mk (HM.out.box hb b_ e_); clear e_ b_ hb)
  | ((with_reducible refine gate_dst (N := 7) rfl ?_); refine bx_ 7 (cs := #[.int .i64 dx, .int .i64 dy]) (t := 28) ?_; intro g7 e_ w_ b_ hb; replace HM := Aside0.mk (HM.out.box hb b_ e_); clear e_ b_ hb; have ka0 := blk_cell HM.out.a3 0; have ka1 := blk_cell HM.out.a3 1; have kb0 := blk_cell HM.out.a2 0; have kb1 := blk_cell HM.out.a2 1; have kc0 := blk_cell HM.out.a1 0; have kc1 := blk_cell HM.out.a1 1; have kd0 := blk_cell HM.out.a0 0; have kd1 := blk_cell HM.out.a0 1)
  | (go_at_call 21; (with_reducible refine (PointValid_calls ax ay _).mono ?_); rintro e w_ ⟨rfl, hb⟩; rw [H1.out]; replace HM := Aside0.mk (HM.out.keep hb); clear hb; (try clear ka0 ka1 kb0 kb1 kc0 kc1 kd0 kd1); have ka0 := blk_cell HM.out.a3 0; have ka1 := blk_cell HM.out.a3 1; have kb0 := blk_cell HM.out.a2 0; have kb1 := blk_cell HM.out.a2 1; have kc0 := blk_cell HM.out.a1 0; have kc1 := blk_cell HM.out.a1 1; have kd0 := blk_cell HM.out.a0 0; have kd1 := blk_cell HM.out.a0 1)
  | (go_at_call 21; (with_reducible refine (PointValid_calls bx by_ _).mono ?_); rintro e w_ ⟨rfl, hb⟩; rw [H2.out]; replace HM := Aside0.mk (HM.out.keep hb); clear hb; (try clear ka0 ka1 kb0 kb1 kc0 kc1 kd0 kd1); have ka0 := blk_cell HM.out.a3 0; have ka1 := blk_cell HM.out.a3 1; have kb0 := blk_cell HM.out.a2 0; have kb1 := blk_cell HM.out.a2 1; have kc0 := blk_cell HM.out.a1 0; have kc1 := blk_cell HM.out.a1 1; have kd0 := blk_cell HM.out.a0 0; have kd1 := blk_cell HM.out.a0 1)
  | (go_at_call 21; (with_reducible refine (PointValid_calls cx cy _).mono ?_); rintro e w_ ⟨rfl, hb⟩; rw [H3.out]; replace HM := Aside0.mk (HM.out.keep hb); clear hb; (try clear ka0 ka1 kb0 kb1 kc0 kc1 kd0 kd1); have ka0 := blk_cell HM.out.a3 0; have ka1 := blk_cell HM.out.a3 1; have kb0 := blk_cell HM.out.a2 0; have kb1 := blk_cell HM.out.a2 1; have kc0 := blk_cell HM.out.a1 0; have kc1 := blk_cell HM.out.a1 1; have kd0 := blk_cell HM.out.a0 0; have kd1 := blk_cell HM.out.a0 1)
  | (go_at_call 21; (with_reducible refine (PointValid_calls dx dy _).mono ?_); rintro e w_ ⟨rfl, hb⟩; rw [H4.out]; replace HM := Aside0.mk (HM.out.keep hb); clear hb; (try clear ka0 ka1 kb0 kb1 kc0 kc1 kd0 kd1); have ka0 := blk_cell HM.out.a3 0; have ka1 := blk_cell HM.out.a3 1; have kb0 := blk_cell HM.out.a2 0; have kb1 := blk_cell HM.out.a2 1; have kc0 := blk_cell HM.out.a1 0; have kc1 := blk_cell HM.out.a1 1; have kd0 := blk_cell HM.out.a0 0; have kd1 := blk_cell HM.out.a0 1))
 go_ret3
 exact ⟨rfl, HM.out.1⟩
set_option maxHeartbeats 4000000 in
theorem lines_no6 (ax ay bx by_ cx cy dx dy : Int) (h1 : inR ax ay 10000 = true) (h2 : inR bx by_ 10000 = true) (h3 : inR cx cy 10000 = true) (h4 : inR dx dy 10000 = true) (h5 : (ax == bx && (ay == by_)) = false) (h6 : (cx == dx && (cy == dy)) = true) (w : World) :
  Calls Try.prog 11 #[.agg #[.int .i64 ax, .int .i64 ay], .agg #[.int .i64 bx, .int .i64 by_], .agg #[.int .i64 cx, .int .i64 cy], .agg #[.int .i64 dx, .int .i64 dy]] w fun e w' => e = .returned (.tuple #[.pointer none, .pointer none, .bool false]) ∧ Below w.heap.size w w' := by
 have H1 := Aside0.mk h1
 have H2 := Aside0.mk h2
 have H3 := Aside0.mk h3
 have H4 := Aside0.mk h4
 have HM := Aside0.mk (Hd.nil w)
 clear h1 h2 h3 h4
 go_enter Try.func11, Try.ntmps11
 go_wp2_with (first
  | ((with_reducible refine gate_dst (N := 4) rfl ?_); refine bx_ 4 (cs := #[.int .i64 ax, .int .i64 ay]) (t := 28) ?_; intro g4 e_ w_ b_ hb; replace HM := Aside0.mk (HM.out.box hb b_ e_); clear e_ b_ hb)
  | ((with_reducible refine gate_dst (N := 5) rfl ?_); refine bx_ 5 (cs := #[.int .i64 bx, .int .i64 by_]) (t := 28) ?_; intro g5 e_ w_ b_ hb; replace HM := Aside0.mk (HM.out.box hb b_ e_); clear e_ b_ hb)
  | ((with_reducible refine gate_dst (N := 6) rfl ?_); refine bx_ 6 (cs := #[.int .i64 cx, .int .i64 cy]) (t := 28) ?_; intro g6 e_ w_ b_ hb; replace HM := Aside0.mk (HM.out.box hb b_ e_); clear e_ b_ hb)
  | ((with_reducible refine gate_dst (N := 7) rfl ?_); refine bx_ 7 (cs := #[.int .i64 dx, .int .i64 dy]) (t := 28) ?_; intro g7 e_ w_ b_ hb; replace HM := Aside0.mk (HM.out.box hb b_ e_); clear e_ b_ hb; have ka0 := blk_cell HM.out.a3 0; have ka1 := blk_cell HM.out.a3 1; have kb0 := blk_cell HM.out.a2 0; have kb1 := blk_cell HM.out.a2 1; have kc0 := blk_cell HM.out.a1 0; have kc1 := blk_cell HM.out.a1 1; have kd0 := blk_cell HM.out.a0 0; have kd1 := blk_cell HM.out.a0 1)
  | (go_at_call 21; (with_reducible refine (PointValid_calls ax ay _).mono ?_); rintro e w_ ⟨rfl, hb⟩; rw [H1.out]; replace HM := Aside0.mk (HM.out.keep hb); clear hb; (try clear ka0 ka1 kb0 kb1 kc0 kc1 kd0 kd1); have ka0 := blk_cell HM.out.a3 0; have ka1 := blk_cell HM.out.a3 1; have kb0 := blk_cell HM.out.a2 0; have kb1 := blk_cell HM.out.a2 1; have kc0 := blk_cell HM.out.a1 0; have kc1 := blk_cell HM.out.a1 1; have kd0 := blk_cell HM.out.a0 0; have kd1 := blk_cell HM.out.a0 1)
  | (go_at_call 21; (with_reducible refine (PointValid_calls bx by_ _).mono ?_); rintro e w_ ⟨rfl, hb⟩; rw [H2.out]; replace HM := Aside0.mk (HM.out.keep hb); clear hb; (try clear ka0 ka1 kb0 kb1 kc0 kc1 kd0 kd1); have ka0 := blk_cell HM.out.a3 0; have ka1 := blk_cell HM.out.a3 1; have kb0 := blk_cell HM.out.a2 0; have kb1 := blk_cell HM.out.a2 1; have kc0 := blk_cell HM.out.a1 0; have kc1 := blk_cell HM.out.a1 1; have kd0 := blk_cell HM.out.a0 0; have kd1 := blk_cell HM.out.a0 1)
  | (go_at_call 21; (with_reducible refine (PointValid_calls cx cy _).mono ?_); rintro e w_ ⟨rfl, hb⟩; rw [H3.out]; replace HM := Aside0.mk (HM.out.keep hb); clear hb; (try clear ka0 ka1 kb0 kb1 kc0 kc1 kd0 kd1); have ka0 := blk_cell HM.out.a3 0; have ka1 := blk_cell HM.out.a3 1; have kb0 := blk_cell HM.out.a2 0; have kb1 := blk_cell HM.out.a2 1; have kc0 := blk_cell HM.out.a1 0; have kc1 := blk_cell HM.out.a1 1; have kd0 := blk_cell HM.out.a0 0; have kd1 := blk_cell HM.out.a0 1)
  | (go_at_call 21; (with_reducible refine (PointValid_calls dx dy _).mono ?_); rintro e w_ ⟨rfl, hb⟩; rw [H4.out]; replace HM := Aside0.mk (HM.out.keep hb); clear hb; (try clear ka0 ka1 kb0 kb1 kc0 kc1 kd0 kd1); have ka0 := blk_cell HM.out.a3 0; have ka1 := blk_cell HM.out.a3 1; have kb0 := blk_cell HM.out.a2 0; have kb1 := blk_cell HM.out.a2 1; have kc0 := blk_cell HM.out.a1 0; have kc1 := blk_cell HM.out.a1 1; have kd0 := blk_cell HM.out.a0 0; have kd1 := blk_cell HM.out.a0 1))
 go_ret3
 exact ⟨rfl, HM.out.1⟩
set_option maxHeartbeats 8000000 in
theorem lines_yes (ax ay bx by_ cx cy dx dy : Int) (h1 : inR ax ay 10000 = true) (h2 : inR bx by_ 10000 = true) (h3 : inR cx cy 10000 = true) (h4 : inR dx dy 10000 = true) (h5 : (ax == bx && (ay == by_)) = false) (h6 : (cx == dx && (cy == dy)) = false) (w : World) :
  Calls Try.prog 11 #[.agg #[.int .i64 ax, .int .i64 ay], .agg #[.int .i64 bx, .int .i64 by_], .agg #[.int .i64 cx, .int .i64 cy], .agg #[.int .i64 dx, .int .i64 dy]] w fun e w' => ∃ g1 g2, e = .returned (.tuple #[.pointer (some ⟨g1, 0, none⟩), .pointer (some ⟨g2, 0, none⟩), .bool true]) ∧ Hd w w' [(g2, #[.int .i64 cx, .int .i64 cy, .int .i64 (wrap64 (dx - cx)), .int .i64 (wrap64 (dy - cy))], 44), (g1, #[.int .i64 ax, .int .i64 ay, .int .i64 (wrap64 (bx - ax)), .int .i64 (wrap64 (by_ - ay))], 44)] := by
 have H1 := Aside0.mk h1
 have H2 := Aside0.mk h2
 have H3 := Aside0.mk h3
 have H4 := Aside0.mk h4
 have HM := Aside0.mk (Hd.nil w)
 clear h1 h2 h3 h4
 go_enter Try.func11, Try.ntmps11
 go_wp2_with (first
  | ((with_reducible refine gate_dst (N := 4) rfl ?_); refine bx_ 4 (cs := #[.int .i64 ax, .int .i64 ay]) (t := 28) ?_; intro g4 e_ w_ b_ hb; replace HM := Aside0.mk (HM.out.box hb b_ e_); clear e_ b_ hb)
  | ((with_reducible refine gate_dst (N := 5) rfl ?_); refine bx_ 5 (cs := #[.int .i64 bx, .int .i64 by_]) (t := 28) ?_; intro g5 e_ w_ b_ hb; replace HM := Aside0.mk (HM.out.box hb b_ e_); clear e_ b_ hb)
  | ((with_reducible refine gate_dst (N := 6) rfl ?_); refine bx_ 6 (cs := #[.int .i64 cx, .int .i64 cy]) (t := 28) ?_; intro g6 e_ w_ b_ hb; replace HM := Aside0.mk (HM.out.box hb b_ e_); clear e_ b_ hb)
  | ((with_reducible refine gate_dst (N := 7) rfl ?_); refine bx_ 7 (cs := #[.int .i64 dx, .int .i64 dy]) (t := 28) ?_; intro g7 e_ w_ b_ hb; replace HM := Aside0.mk (HM.out.box hb b_ e_); clear e_ b_ hb; have ka0 := blk_cell HM.out.a3 0; have ka1 := blk_cell HM.out.a3 1; have kb0 := blk_cell HM.out.a2 0; have kb1 := blk_cell HM.out.a2 1; have kc0 := blk_cell HM.out.a1 0; have kc1 := blk_cell HM.out.a1 1; have kd0 := blk_cell HM.out.a0 0; have kd1 := blk_cell HM.out.a0 1)
  | (go_at_call 21; (with_reducible refine (PointValid_calls ax ay _).mono ?_); rintro e w_ ⟨rfl, hb⟩; rw [H1.out]; replace HM := Aside0.mk (HM.out.keep hb); clear hb; (try clear ka0 ka1 kb0 kb1 kc0 kc1 kd0 kd1); have ka0 := blk_cell HM.out.a3 0; have ka1 := blk_cell HM.out.a3 1; have kb0 := blk_cell HM.out.a2 0; have kb1 := blk_cell HM.out.a2 1; have kc0 := blk_cell HM.out.a1 0; have kc1 := blk_cell HM.out.a1 1; have kd0 := blk_cell HM.out.a0 0; have kd1 := blk_cell HM.out.a0 1)
  | (go_at_call 21; (with_reducible refine (PointValid_calls bx by_ _).mono ?_); rintro e w_ ⟨rfl, hb⟩; rw [H2.out]; replace HM := Aside0.mk (HM.out.keep hb); clear hb; (try clear ka0 ka1 kb0 kb1 kc0 kc1 kd0 kd1); have ka0 := blk_cell HM.out.a3 0; have ka1 := blk_cell HM.out.a3 1; have kb0 := blk_cell HM.out.a2 0; have kb1 := blk_cell HM.out.a2 1; have kc0 := blk_cell HM.out.a1 0; have kc1 := blk_cell HM.out.a1 1; have kd0 := blk_cell HM.out.a0 0; have kd1 := blk_cell HM.out.a0 1)
  | (go_at_call 21; (with_reducible refine (PointValid_calls cx cy _).mono ?_); rintro e w_ ⟨rfl, hb⟩; rw [H3.out]; replace HM := Aside0.mk (HM.out.keep hb); clear hb; (try clear ka0 ka1 kb0 kb1 kc0 kc1 kd0 kd1); have ka0 := blk_cell HM.out.a3 0; have ka1 := blk_cell HM.out.a3 1; have kb0 := blk_cell HM.out.a2 0; have kb1 := blk_cell HM.out.a2 1; have kc0 := blk_cell HM.out.a1 0; have kc1 := blk_cell HM.out.a1 1; have kd0 := blk_cell HM.out.a0 0; have kd1 := blk_cell HM.out.a0 1)
  | (go_at_call 21; (with_reducible refine (PointValid_calls dx dy _).mono ?_); rintro e w_ ⟨rfl, hb⟩; rw [H4.out]; replace HM := Aside0.mk (HM.out.keep hb); clear hb; (try clear ka0 ka1 kb0 kb1 kc0 kc1 kd0 kd1); have ka0 := blk_cell HM.out.a3 0; have ka1 := blk_cell HM.out.a3 1; have kb0 := blk_cell HM.out.a2 0; have kb1 := blk_cell HM.out.a2 1; have kc0 := blk_cell HM.out.a1 0; have kc1 := blk_cell HM.out.a1 1; have kd0 := blk_cell HM.out.a0 0; have kd1 := blk_cell HM.out.a0 1))
 ·clear H1 H2 H3 H4 h5 h6
  generalize hp : wrap64 (bx - ax) = p at *
  generalize hq : wrap64 (by_ - ay) = q at *
  generalize hr : wrap64 (dx - cx) = r at *
  generalize hs : wrap64 (dy - cy) = s at *
  have HP := Aside0.mk hp
  have HQ := Aside0.mk hq
  have HR := Aside0.mk hr
  have HS := Aside0.mk hs
  clear hp hq hr hs
  go_region_held3 (fun w' => w'.cell? ⟨g4, 0, none⟩ = some (.int .i64 ax) ∧ w'.cell? ⟨g4, 1, none⟩ = some (.int .i64 ay) ∧ w'.cell? ⟨g5, 0, none⟩ = some (.int .i64 bx) ∧ w'.cell? ⟨g5, 1, none⟩ = some (.int .i64 by_))
   (first
    | exact ⟨blk_cell HM.out.a3 0, blk_cell HM.out.a3 1, blk_cell HM.out.a2 0, blk_cell HM.out.a2 1⟩
    | exact ⟨blk_cell HM.out.drew.a3 0, blk_cell HM.out.drew.a3 1, blk_cell HM.out.drew.a2 0, blk_cell HM.out.drew.a2 1⟩
    | exact ⟨blk_cell (HM.out.alloc _ _).a4 0, blk_cell (HM.out.alloc _ _).a4 1, blk_cell (HM.out.alloc _ _).a3 0, blk_cell (HM.out.alloc _ _).a3 1⟩
    | go_keep)
   (first
    | (go_at_call 22; (with_reducible refine (pairOf_calls ax ay _).mono ?_); rintro e w_ ⟨rfl, hb⟩; (first | replace HM := Aside0.mk (HM.out.keep hb) | replace HM := Aside0.mk (HM.out.drew.keep hb)); clear hb; (try clear ka0); (try clear ka1); (try clear kb0); (try clear kb1); (try clear kc0); (try clear kc1); (try clear kd0); (try clear kd1); have ka0 := blk_cell HM.out.a3 0; have ka1 := blk_cell HM.out.a3 1; have kb0 := blk_cell HM.out.a2 0; have kb1 := blk_cell HM.out.a2 1; have kc0 := blk_cell HM.out.a1 0; have kc1 := blk_cell HM.out.a1 1; have kd0 := blk_cell HM.out.a0 0; have kd1 := blk_cell HM.out.a0 1)
    | (go_at_call 22; (with_reducible refine (pairOf_calls bx by_ _).mono ?_); rintro e w_ ⟨rfl, hb⟩; (first | replace HM := Aside0.mk (HM.out.keep hb) | replace HM := Aside0.mk (HM.out.drew.keep hb)); clear hb; (try clear ka0); (try clear ka1); (try clear kb0); (try clear kb1); (try clear kc0); (try clear kc1); (try clear kd0); (try clear kd1); have ka0 := blk_cell HM.out.a3 0; have ka1 := blk_cell HM.out.a3 1; have kb0 := blk_cell HM.out.a2 0; have kb1 := blk_cell HM.out.a2 1; have kc0 := blk_cell HM.out.a1 0; have kc1 := blk_cell HM.out.a1 1; have kd0 := blk_cell HM.out.a0 0; have kd1 := blk_cell HM.out.a0 1)
    | (go_at_call 23; (with_reducible refine (pairMinus_calls bx by_ ax ay _).mono ?_); rw [HP.out, HQ.out]; rintro e w_ ⟨rfl, hb⟩; (first | replace HM := Aside0.mk (HM.out.keep hb) | replace HM := Aside0.mk (HM.out.drew.keep hb)); clear hb; (try clear ka0); (try clear ka1); (try clear kb0); (try clear kb1); (try clear kc0); (try clear kc1); (try clear kd0); (try clear kd1); have ka0 := blk_cell HM.out.a3 0; have ka1 := blk_cell HM.out.a3 1; have kb0 := blk_cell HM.out.a2 0; have kb1 := blk_cell HM.out.a2 1; have kc0 := blk_cell HM.out.a1 0; have kc1 := blk_cell HM.out.a1 1; have kd0 := blk_cell HM.out.a0 0; have kd1 := blk_cell HM.out.a0 1))
  replace HM := Aside0.mk (HM.out.alloc #[.int .i64 ax, .int .i64 ay, .int .i64 p, .int .i64 q] 44)
  clear ka0 ka1 kb0 kb1 kc0 kc1 kd0 kd1
  generalize w_.alloc (.cells #[.int .i64 ax, .int .i64 ay, .int .i64 p, .int .i64 q] 44) = w11 at *
  generalize w_.heap.size = g11 at *
  have ka0 := blk_cell HM.out.a4 0
  have ka1 := blk_cell HM.out.a4 1
  have kb0 := blk_cell HM.out.a3 0
  have kb1 := blk_cell HM.out.a3 1
  have kc0 := blk_cell HM.out.a2 0
  have kc1 := blk_cell HM.out.a2 1
  have kd0 := blk_cell HM.out.a1 0
  have kd1 := blk_cell HM.out.a1 1
  go_wp2_with fail
  go_region_held3 (fun w' => w'.cell? ⟨g6, 0, none⟩ = some (.int .i64 cx) ∧ w'.cell? ⟨g6, 1, none⟩ = some (.int .i64 cy) ∧ w'.cell? ⟨g7, 0, none⟩ = some (.int .i64 dx) ∧ w'.cell? ⟨g7, 1, none⟩ = some (.int .i64 dy))
   (first
    | exact ⟨blk_cell HM.out.a2 0, blk_cell HM.out.a2 1, blk_cell HM.out.a1 0, blk_cell HM.out.a1 1⟩
    | exact ⟨blk_cell HM.out.drew.a2 0, blk_cell HM.out.drew.a2 1, blk_cell HM.out.drew.a1 0, blk_cell HM.out.drew.a1 1⟩
    | exact ⟨blk_cell (HM.out.alloc _ _).a3 0, blk_cell (HM.out.alloc _ _).a3 1, blk_cell (HM.out.alloc _ _).a2 0, blk_cell (HM.out.alloc _ _).a2 1⟩
    | go_keep)
   (first
    | (go_at_call 22; (with_reducible refine (pairOf_calls cx cy _).mono ?_); rintro e w_ ⟨rfl, hb⟩; (first | replace HM := Aside0.mk (HM.out.keep hb) | replace HM := Aside0.mk (HM.out.drew.keep hb)); clear hb; (try clear ka0); (try clear ka1); (try clear kb0); (try clear kb1); (try clear kc0); (try clear kc1); (try clear kd0); (try clear kd1); have ka0 := blk_cell HM.out.a4 0; have ka1 := blk_cell HM.out.a4 1; have kb0 := blk_cell HM.out.a3 0; have kb1 := blk_cell HM.out.a3 1; have kc0 := blk_cell HM.out.a2 0; have kc1 := blk_cell HM.out.a2 1; have kd0 := blk_cell HM.out.a1 0; have kd1 := blk_cell HM.out.a1 1)
    | (go_at_call 22; (with_reducible refine (pairOf_calls dx dy _).mono ?_); rintro e w_ ⟨rfl, hb⟩; (first | replace HM := Aside0.mk (HM.out.keep hb) | replace HM := Aside0.mk (HM.out.drew.keep hb)); clear hb; (try clear ka0); (try clear ka1); (try clear kb0); (try clear kb1); (try clear kc0); (try clear kc1); (try clear kd0); (try clear kd1); have ka0 := blk_cell HM.out.a4 0; have ka1 := blk_cell HM.out.a4 1; have kb0 := blk_cell HM.out.a3 0; have kb1 := blk_cell HM.out.a3 1; have kc0 := blk_cell HM.out.a2 0; have kc1 := blk_cell HM.out.a2 1; have kd0 := blk_cell HM.out.a1 0; have kd1 := blk_cell HM.out.a1 1)
    | (go_at_call 23; (with_reducible refine (pairMinus_calls dx dy cx cy _).mono ?_); rw [HR.out, HS.out]; rintro e w_ ⟨rfl, hb⟩; (first | replace HM := Aside0.mk (HM.out.keep hb) | replace HM := Aside0.mk (HM.out.drew.keep hb)); clear hb; (try clear ka0); (try clear ka1); (try clear kb0); (try clear kb1); (try clear kc0); (try clear kc1); (try clear kd0); (try clear kd1); have ka0 := blk_cell HM.out.a4 0; have ka1 := blk_cell HM.out.a4 1; have kb0 := blk_cell HM.out.a3 0; have kb1 := blk_cell HM.out.a3 1; have kc0 := blk_cell HM.out.a2 0; have kc1 := blk_cell HM.out.a2 1; have kd0 := blk_cell HM.out.a1 0; have kd1 := blk_cell HM.out.a1 1))
  replace HM := Aside0.mk (HM.out.alloc #[.int .i64 cx, .int .i64 cy, .int .i64 r, .int .i64 s] 44)
  clear ka0 ka1 kb0 kb1 kc0 kc1 kd0 kd1
  generalize w_.alloc (.cells #[.int .i64 cx, .int .i64 cy, .int .i64 r, .int .i64 s] 44) = w12 at *
  generalize w_.heap.size = g12 at *
  go_wp2_with fail
  go_ret3
  exact ⟨g11, g12, rfl, by rw [HP.out, HQ.out, HR.out, HS.out]; exact HM.out.two⟩
end
def Ln2 (w W : World) (g1 : Nat) (c1 : Array Value) (g2 : Nat) (c2 : Array Value) (t : TypeId) : Prop := Below w.heap.size w W ∧ W.heap[g1]? = some (.cells c1 t (0, 0)) ∧ W.heap[g2]? = some (.cells c2 t (0, 0))
theorem Ln2.keep {w W W' : World} {g1 g2 : Nat} {c1 c2 : Array Value} {t : TypeId} (h : Ln2 w W g1 c1 g2 c2 t) (hb : Below W.heap.size W W') : Ln2 w W' g1 c1 g2 c2 t := ⟨below_then h.1 h.1.size hb, blk_below h.2.1 hb, blk_below h.2.2 hb⟩
theorem Ln2.drew {w W : World} {g1 g2 : Nat} {c1 c2 : Array Value} {t : TypeId} (h : Ln2 w W g1 c1 g2 c2 t) : Ln2 w W.drew g1 c1 g2 c2 t := h.keep (below_drew1 (Below.refl _ _))
def alT (x1 y1 x2 y2 u2 v2 : Int) : Int := crI (wrap64 (x2 - x1)) (wrap64 (y2 - y1)) u2 v2
def alI (x1 y1 u1 v1 x2 y2 u2 v2 : Int) : Int × Int := if crI u1 v1 u2 v2 < 0 then (wrap64 (-alT x1 y1 x2 y2 u2 v2), wrap64 (-crI u1 v1 u2 v2)) else (alT x1 y1 x2 y2 u2 v2, crI u1 v1 u2 v2)
set_option maxHeartbeats 4000000 in
theorem along_calls (g1 g2 : Nat) (x1 y1 u1 v1 x2 y2 u2 v2 : Int) (w : World) (h1 : w.heap[g1]? = some (.cells #[.int .i64 x1, .int .i64 y1, .int .i64 u1, .int .i64 v1] 44 (0, 0))) (h2 : w.heap[g2]? = some (.cells #[.int .i64 x2, .int .i64 y2, .int .i64 u2, .int .i64 v2] 44 (0, 0))) :
  Calls Try.prog 12 #[.pointer (some ⟨g1, 0, none⟩), .pointer (some ⟨g2, 0, none⟩)] w fun e w' => e = .returned (.tuple #[.int .i64 (alI x1 y1 u1 v1 x2 y2 u2 v2).1, .int .i64 (alI x1 y1 u1 v1 x2 y2 u2 v2).2]) ∧ Below w.heap.size w w' := by
 have HM : Aside0 (Ln2 w w g1 #[.int .i64 x1, .int .i64 y1, .int .i64 u1, .int .i64 v1] g2 #[.int .i64 x2, .int .i64 y2, .int .i64 u2, .int .i64 v2] 44) := ⟨⟨Below.refl _ _, h1, h2⟩⟩
 clear h1 h2
 have k0 := blk_cell HM.out.2.1 0
 have k1 := blk_cell HM.out.2.1 1
 have k2 := blk_cell HM.out.2.1 2
 have k3 := blk_cell HM.out.2.1 3
 have k4 := blk_cell HM.out.2.2 0
 have k5 := blk_cell HM.out.2.2 1
 have k6 := blk_cell HM.out.2.2 2
 have k7 := blk_cell HM.out.2.2 3
 go_enter Try.func12, Try.ntmps12
 go_wp2_with fail
 generalize hp : wrap64 (x2 - x1) = p at *
 generalize hq : wrap64 (y2 - y1) = q at *
 have HP := Aside0.mk hp
 have HQ := Aside0.mk hq
 have HTT : Aside0 (alT x1 y1 x2 y2 u2 v2 = wrap64 (wrap64 (p * v2) - wrap64 (u2 * q))) := ⟨by unfold alT crI; rw [hp, hq]⟩
 clear hp hq
 generalize ht : wrap64 (wrap64 (p * v2) - wrap64 (u2 * q)) = tp at *
 have HT := Aside0.mk ht
 clear ht
 go_region_held3 (fun w' => w'.cell? ⟨g1, 0, none⟩ = some (.int .i64 x1) ∧ w'.cell? ⟨g1, 1, none⟩ = some (.int .i64 y1) ∧ w'.cell? ⟨g1, 2, none⟩ = some (.int .i64 u1) ∧ w'.cell? ⟨g1, 3, none⟩ = some (.int .i64 v1) ∧ w'.cell? ⟨g2, 0, none⟩ = some (.int .i64 x2) ∧ w'.cell? ⟨g2, 1, none⟩ = some (.int .i64 y2) ∧ w'.cell? ⟨g2, 2, none⟩ = some (.int .i64 u2) ∧ w'.cell? ⟨g2, 3, none⟩ = some (.int .i64 v2))
  (first
   | exact ⟨blk_cell HM.out.2.1 0, blk_cell HM.out.2.1 1, blk_cell HM.out.2.1 2, blk_cell HM.out.2.1 3, blk_cell HM.out.2.2 0, blk_cell HM.out.2.2 1, blk_cell HM.out.2.2 2, blk_cell HM.out.2.2 3⟩
   | exact ⟨blk_cell HM.out.drew.2.1 0, blk_cell HM.out.drew.2.1 1, blk_cell HM.out.drew.2.1 2, blk_cell HM.out.drew.2.1 3, blk_cell HM.out.drew.2.2 0, blk_cell HM.out.drew.2.2 1, blk_cell HM.out.drew.2.2 2, blk_cell HM.out.drew.2.2 3⟩
   | go_keep)
  (first
   | (go_at_call 23; (with_reducible refine (pairMinus_calls x2 y2 x1 y1 _).mono ?_); rw [HP.out, HQ.out]; rintro e w_ ⟨rfl, hb⟩; (first | replace HM := Aside0.mk (HM.out.keep hb) | replace HM := Aside0.mk (HM.out.drew.keep hb)); clear hb; (try clear k0); (try clear k1); (try clear k2); (try clear k3); (try clear k4); (try clear k5); (try clear k6); (try clear k7); have k0 := blk_cell HM.out.2.1 0; have k1 := blk_cell HM.out.2.1 1; have k2 := blk_cell HM.out.2.1 2; have k3 := blk_cell HM.out.2.1 3; have k4 := blk_cell HM.out.2.2 0; have k5 := blk_cell HM.out.2.2 1; have k6 := blk_cell HM.out.2.2 2; have k7 := blk_cell HM.out.2.2 3)
   | (go_at_call 24; (with_reducible refine (pairCross_calls p q u2 v2 _).mono ?_); rw [HT.out]; rintro e w_ ⟨rfl, hb⟩; (first | replace HM := Aside0.mk (HM.out.keep hb) | replace HM := Aside0.mk (HM.out.drew.keep hb)); clear hb; (try clear k0); (try clear k1); (try clear k2); (try clear k3); (try clear k4); (try clear k5); (try clear k6); (try clear k7); have k0 := blk_cell HM.out.2.1 0; have k1 := blk_cell HM.out.2.1 1; have k2 := blk_cell HM.out.2.1 2; have k3 := blk_cell HM.out.2.1 3; have k4 := blk_cell HM.out.2.2 0; have k5 := blk_cell HM.out.2.2 1; have k6 := blk_cell HM.out.2.2 2; have k7 := blk_cell HM.out.2.2 3))
 go_wp2_with fail
 generalize hl : wrap64 (wrap64 (u1 * v2) - wrap64 (u2 * v1)) = lo at *
 have HL := Aside0.mk hl
 have HLL : Aside0 (crI u1 v1 u2 v2 = lo) := ⟨by unfold crI; exact hl⟩
 clear hl
 go_region_held3 (fun w' => w'.cell? ⟨g1, 0, none⟩ = some (.int .i64 x1) ∧ w'.cell? ⟨g1, 1, none⟩ = some (.int .i64 y1) ∧ w'.cell? ⟨g1, 2, none⟩ = some (.int .i64 u1) ∧ w'.cell? ⟨g1, 3, none⟩ = some (.int .i64 v1) ∧ w'.cell? ⟨g2, 0, none⟩ = some (.int .i64 x2) ∧ w'.cell? ⟨g2, 1, none⟩ = some (.int .i64 y2) ∧ w'.cell? ⟨g2, 2, none⟩ = some (.int .i64 u2) ∧ w'.cell? ⟨g2, 3, none⟩ = some (.int .i64 v2))
  (first
   | exact ⟨blk_cell HM.out.2.1 0, blk_cell HM.out.2.1 1, blk_cell HM.out.2.1 2, blk_cell HM.out.2.1 3, blk_cell HM.out.2.2 0, blk_cell HM.out.2.2 1, blk_cell HM.out.2.2 2, blk_cell HM.out.2.2 3⟩
   | exact ⟨blk_cell HM.out.drew.2.1 0, blk_cell HM.out.drew.2.1 1, blk_cell HM.out.drew.2.1 2, blk_cell HM.out.drew.2.1 3, blk_cell HM.out.drew.2.2 0, blk_cell HM.out.drew.2.2 1, blk_cell HM.out.drew.2.2 2, blk_cell HM.out.drew.2.2 3⟩
   | go_keep)
  (first
   | (go_at_call 24; (with_reducible refine (pairCross_calls u1 v1 u2 v2 _).mono ?_); rw [HL.out]; rintro e w_ ⟨rfl, hb⟩; (first | replace HM := Aside0.mk (HM.out.keep hb) | replace HM := Aside0.mk (HM.out.drew.keep hb)); clear hb; (try clear k0); (try clear k1); (try clear k2); (try clear k3); (try clear k4); (try clear k5); (try clear k6); (try clear k7); have k0 := blk_cell HM.out.2.1 0; have k1 := blk_cell HM.out.2.1 1; have k2 := blk_cell HM.out.2.1 2; have k3 := blk_cell HM.out.2.1 3; have k4 := blk_cell HM.out.2.2 0; have k5 := blk_cell HM.out.2.2 1; have k6 := blk_cell HM.out.2.2 2; have k7 := blk_cell HM.out.2.2 3))
 by_cases hneg : lo < 0
 ·have HV : Aside0 (alI x1 y1 u1 v1 x2 y2 u2 v2 = (wrap64 (-tp), wrap64 (-lo))) := ⟨by unfold alI; rw [HLL.out, if_pos hneg, HTT.out]⟩
  go_wp2_with fail
  go_ret2
  exact ⟨by rw [HV.out]; rfl, HM.out.1⟩
 ·have HV : Aside0 (alI x1 y1 u1 v1 x2 y2 u2 v2 = (tp, lo)) := ⟨by unfold alI; rw [HLL.out, if_neg hneg, HTT.out]⟩
  go_wp2_with fail
  go_ret2
  exact ⟨by rw [HV.out]; rfl, HM.out.1⟩
def hdI (p : Int × Int) : Bool := p.2 != 0 && (decide (0 ≤ p.1) && decide (p.1 ≤ p.2))
theorem lnOk_t (ax ay bx by_ cx cy dx dy : Int) (h : lnOk ax ay bx by_ cx cy dx dy = true) : inR ax ay 10000 = true ∧ inR bx by_ 10000 = true ∧ inR cx cy 10000 = true ∧ inR dx dy 10000 = true ∧ (ax == bx && (ay == by_)) = false ∧ (cx == dx && (cy == dy)) = false := by
 unfold lnOk at h
 simp only [Bool.and_eq_true, Bool.not_eq_true'] at h
 exact h
theorem lines_t (ax ay bx by_ cx cy dx dy : Int) (h : lnOk ax ay bx by_ cx cy dx dy = true) (w : World) : Calls Try.prog 11 #[.agg #[.int .i64 ax, .int .i64 ay], .agg #[.int .i64 bx, .int .i64 by_], .agg #[.int .i64 cx, .int .i64 cy], .agg #[.int .i64 dx, .int .i64 dy]] w fun e w' => ∃ g1 g2, e = .returned (.tuple #[.pointer (some ⟨g1, 0, none⟩), .pointer (some ⟨g2, 0, none⟩), .bool true]) ∧ Hd w w' [(g2, #[.int .i64 cx, .int .i64 cy, .int .i64 (wrap64 (dx - cx)), .int .i64 (wrap64 (dy - cy))], 44), (g1, #[.int .i64 ax, .int .i64 ay, .int .i64 (wrap64 (bx - ax)), .int .i64 (wrap64 (by_ - ay))], 44)] := by
 obtain ⟨h1, h2, h3, h4, h5, h6⟩ := lnOk_t _ _ _ _ _ _ _ _ h
 exact lines_yes _ _ _ _ _ _ _ _ h1 h2 h3 h4 h5 h6 w
theorem lines_f (ax ay bx by_ cx cy dx dy : Int) (h : lnOk ax ay bx by_ cx cy dx dy = false) (w : World) : Calls Try.prog 11 #[.agg #[.int .i64 ax, .int .i64 ay], .agg #[.int .i64 bx, .int .i64 by_], .agg #[.int .i64 cx, .int .i64 cy], .agg #[.int .i64 dx, .int .i64 dy]] w fun e w' => e = .returned (.tuple #[.pointer none, .pointer none, .bool false]) ∧ Below w.heap.size w w' := by
 unfold lnOk at h
 cases h1 : inR ax ay 10000 with
 | false => exact lines_no1 _ _ _ _ _ _ _ _ h1 w
 | true =>
  cases h2 : inR bx by_ 10000 with
  | false => exact lines_no2 _ _ _ _ _ _ _ _ h1 h2 w
  | true =>
   cases h3 : inR cx cy 10000 with
   | false => exact lines_no3 _ _ _ _ _ _ _ _ h1 h2 h3 w
   | true =>
    cases h4 : inR dx dy 10000 with
    | false => exact lines_no4 _ _ _ _ _ _ _ _ h1 h2 h3 h4 w
    | true =>
     cases h5 : (ax == bx && (ay == by_)) with
     | true => exact lines_no5 _ _ _ _ _ _ _ _ h1 h2 h3 h4 h5 w
     | false =>
      cases h6 : (cx == dx && (cy == dy)) with
      | true => exact lines_no6 _ _ _ _ _ _ _ _ h1 h2 h3 h4 h5 h6 w
      | false => rw [h1, h2, h3, h4, h5, h6] at h; cases h
def impl_absInt.f (a0 : Int) : Option (Int) := if a0 < 0 then (some (wrap64 (-a0))) else (some a0)
set_option maxHeartbeats 8000000 in
set_option maxRecDepth 100000 in
theorem impl_absInt.calls (a0 : Int) (r : Int) (w : World) (h : impl_absInt.f a0 = some r) :
  Calls Try.prog 29 #[.int .i64 a0] w fun e w' => e = .returned (.int .i64 r) ∧ Drawn0 w w' := by
 have H : (if a0 < 0 then (some (wrap64 (-a0))) else (some a0)) = some r := h
 clear h
 by_cases c2 : a0 < 0
 ·rw [if_pos c2] at H
  have c2b0 : decide (a0 < 0) = true := decide_eq_true c2
  clear c2
  obtain rfl := Option.some.inj H
  go_enter Try.func29, Try.ntmps29
  go_wp2
  go_ret
  exact ⟨by first | rfl | (simp; done) | (simp [*]; done), by repeat (first | exact Drawn0.refl _ | apply Drawn0.step)⟩
 ·rw [if_neg c2] at H
  have c2b0 : decide (a0 < 0) = false := decide_eq_false c2
  clear c2
  obtain rfl := Option.some.inj H
  go_enter Try.func29, Try.ntmps29
  go_wp2
  go_ret
  exact ⟨by first | rfl | (simp; done) | (simp [*]; done), by repeat (first | exact Drawn0.refl _ | apply Drawn0.step)⟩
def impl_gcdInt.l0 : Nat → Int → Int → Option (Int)
 | 0, _, _ => none
 | k + 1, x0, x1 => if x1 = 0 then (some x0) else (impl_gcdInt.l0 k x1 (Int.tmod x0 x1))
def impl_gcdInt.f (k : Nat) (a0 : Int) (a1 : Int) : Option (Int) := (impl_absInt.f a0).bind fun t163 => ((impl_absInt.f a1).bind fun t164 => (impl_gcdInt.l0 k t163 t164))
theorem impl_gcdInt.mono_l : ∀ k, (∀ y0 y1, LeO (impl_gcdInt.l0 k y0 y1) (impl_gcdInt.l0 (k + 1) y0 y1))
 | 0 => fun _ _ r h => by simp [impl_gcdInt.l0] at h
 | k + 1 => by
  have ih0 := impl_gcdInt.mono_l k
  ·intro y0 y1
   unfold impl_gcdInt.l0
   repeat' first
   | (with_reducible exact ih0 _ _)
   | (with_reducible exact LeO.refl _)
   | (with_reducible exact LeO.none _)
   | (with_reducible refine LeO.ite ?_ ?_)
   | (with_reducible refine LeO.bind ?_ (fun _ => ?_))
   | exact ih0 _ _
   | exact LeO.none _
   | refine LeO.ite ?_ ?_
   | refine LeO.bind ?_ (fun _ => ?_)
theorem impl_gcdInt.mono : ∀ a0 a1 k, LeO (impl_gcdInt.f k a0 a1) (impl_gcdInt.f (k + 1) a0 a1) := by
 intro a0 a1 k
 have ih0 := impl_gcdInt.mono_l k
 unfold impl_gcdInt.f
 repeat' first
   | (with_reducible exact ih0 _ _)
   | (with_reducible exact LeO.refl _)
   | (with_reducible exact LeO.none _)
   | (with_reducible refine LeO.ite ?_ ?_)
   | (with_reducible refine LeO.bind ?_ (fun _ => ?_))
   | exact ih0 _ _
   | exact LeO.none _
   | refine LeO.ite ?_ ?_
   | refine LeO.bind ?_ (fun _ => ?_)
set_option maxHeartbeats 8000000 in
set_option maxRecDepth 100000 in
theorem impl_gcdInt.calls (k : Nat) (a0 : Int) (a1 : Int) (r : Int) (w : World) (h : impl_gcdInt.f k a0 a1 = some r) :
  Calls Try.prog 26 #[.int .i64 a0, .int .i64 a1] w fun e w' => e = .returned (.int .i64 r) ∧ Drawn0 w w' := by
 have H : ((impl_absInt.f a0).bind fun t163 => ((impl_absInt.f a1).bind fun t164 => (impl_gcdInt.l0 k t163 t164))) = some r := h
 clear h
 replace H := Option.bind_eq_some_iff.mp H
 obtain ⟨t163, A30, H⟩ := H
 replace H : ((impl_absInt.f a1).bind fun t164 => (impl_gcdInt.l0 k t163 t164)) = some r := H
 have A3 := Aside0.mk A30
 clear A30
 replace H := Option.bind_eq_some_iff.mp H
 obtain ⟨t164, A40, H⟩ := H
 replace H : (impl_gcdInt.l0 k t163 t164) = some r := H
 have A4 := Aside0.mk A40
 clear A40
 have H' := Aside0.mk H
 clear H
 go_enter Try.func26, Try.ntmps26
 go_wp2_with (first | (go_at_call 29; (with_reducible refine (impl_absInt.calls a0 t163 _ A3.out).mono ?_); rintro e w' ⟨rfl, ⟨nd, rfl⟩⟩; (try first | exact ⟨rfl, _, World.drewN_drewN _ _ _⟩ | exact ⟨rfl, _, Eq.trans (World.drewN_drewN _ _ _) (congrArg (World.drewN _) (Nat.add_assoc _ _ _))⟩)) | (go_at_call 29; (with_reducible refine (impl_absInt.calls a1 t164 _ A4.out).mono ?_); rintro e w' ⟨rfl, ⟨nd, rfl⟩⟩; (try first | exact ⟨rfl, _, World.drewN_drewN _ _ _⟩ | exact ⟨rfl, _, Eq.trans (World.drewN_drewN _ _ _) (congrArg (World.drewN _) (Nat.add_assoc _ _ _))⟩)))
 repeat (go_quiet (first | (go_at_call 29; (with_reducible refine (impl_absInt.calls a0 t163 _ A3.out).mono ?_); rintro e w' ⟨rfl, ⟨nd, rfl⟩⟩; (try first | exact ⟨rfl, _, World.drewN_drewN _ _ _⟩ | exact ⟨rfl, _, Eq.trans (World.drewN_drewN _ _ _) (congrArg (World.drewN _) (Nat.add_assoc _ _ _))⟩)) | (go_at_call 29; (with_reducible refine (impl_absInt.calls a1 t164 _ A4.out).mono ?_); rintro e w' ⟨rfl, ⟨nd, rfl⟩⟩; (try first | exact ⟨rfl, _, World.drewN_drewN _ _ _⟩ | exact ⟨rfl, _, Eq.trans (World.drewN_drewN _ _ _) (congrArg (World.drewN _) (Nat.add_assoc _ _ _))⟩))); try go_wp2_with (first | (go_at_call 29; (with_reducible refine (impl_absInt.calls a0 t163 _ A3.out).mono ?_); rintro e w' ⟨rfl, ⟨nd, rfl⟩⟩; (try first | exact ⟨rfl, _, World.drewN_drewN _ _ _⟩ | exact ⟨rfl, _, Eq.trans (World.drewN_drewN _ _ _) (congrArg (World.drewN _) (Nat.add_assoc _ _ _))⟩)) | (go_at_call 29; (with_reducible refine (impl_absInt.calls a1 t164 _ A4.out).mono ?_); rintro e w' ⟨rfl, ⟨nd, rfl⟩⟩; (try first | exact ⟨rfl, _, World.drewN_drewN _ _ _⟩ | exact ⟨rfl, _, Eq.trans (World.drewN_drewN _ _ _) (congrArg (World.drewN _) (Nat.add_assoc _ _ _))⟩))))
 go_loopg [0, 1] k (fun kq v0 v1 w' => ∃ (x0_1 : Int) (x1_1 : Int), v0 = .int .i64 x0_1 ∧ v1 = .int .i64 x1_1 ∧ Aside0 (impl_gcdInt.l0 kq x0_1 x1_1 = some r) ∧ Aside0 (kq ≤ k) ∧ Drawn0 w w')
 case atStart => exact ⟨(t163), (t164), (by first | rfl | (simp; done) | (simp [*]; done)), (by first | rfl | (simp; done) | (simp [*]; done)), H', ⟨Nat.le_refl _⟩, by repeat (first | exact Drawn0.refl _ | apply Drawn0.step)⟩
 case round =>
  clear H'
  try clear c2
  try clear p2
  obtain ⟨x0_1, x1_1, rfl, rfl, HA, HK1, ⟨m1, rfl⟩⟩ := hrel
  cases gk with
  | zero => exact absurd HA.out (by simp [impl_gcdInt.l0])
  | succ k1 =>
   have H := HA.out
   clear HA
   simp only [impl_gcdInt.l0] at H
   by_cases c5 : x1_1 = 0
   ·rw [if_pos c5] at H
    have c5b0 : (x1_1 == 0) = true := beq_iff_eq.mpr c5
    have c5b1 : (x1_1 != 0) = false := bne_eq_false_iff_eq.mpr c5
    clear c5
    obtain rfl := Option.some.inj H
    go_wp2
    repeat (go_quiet (fail); try go_wp2)
    go_ret
    exact ⟨by first | rfl | (simp; done) | (simp [*]; done), by repeat (first | exact Drawn0.refl _ | apply Drawn0.step)⟩
   ·rw [if_neg c5] at H
    have c5b0 : (x1_1 == 0) = false := beq_eq_false_iff_ne.mpr c5
    have c5b1 : (x1_1 != 0) = true := bne_iff_ne.mpr c5
    have H' := Aside0.mk H
    clear H
    go_wp2
    repeat (go_quiet (fail); try go_wp2)
    go_roundg k1
    case measure => have := HK1.out; omega
    case rel => exact ⟨(x1_1), (Int.tmod x0_1 x1_1), (by first | rfl | (simp; done) | (simp [*]; done)), (by first | rfl | (simp; done) | (simp [*]; done)), H', ⟨by have := HK1.out; omega⟩, by repeat (first | exact Drawn0.refl _ | apply Drawn0.step)⟩
def impl_QuoValid.f (k : Nat) (a0_0 : Int) (a0_1 : Int) : Option (Bool) := if a0_1 < 1 then (some false) else (if a0_1 > 1000000000 then (some false) else ((impl_within.f a0_0 1000000000).bind fun t166 => (if t166 = true then ((impl_gcdInt.f k a0_0 a0_1).bind fun t167 => (some (t167 == 1))) else (some false))))
theorem impl_QuoValid.mono : ∀ a0 a1 k, LeO (impl_QuoValid.f k a0 a1) (impl_QuoValid.f (k + 1) a0 a1) := by
 intro a0 a1 k
 unfold impl_QuoValid.f
 repeat' first
   | (with_reducible exact impl_gcdInt.mono _ _ _)
   | (with_reducible exact LeO.refl _)
   | (with_reducible exact LeO.none _)
   | (with_reducible refine LeO.ite ?_ ?_)
   | (with_reducible refine LeO.bind ?_ (fun _ => ?_))
   | exact impl_gcdInt.mono _ _ _
   | exact LeO.none _
   | refine LeO.ite ?_ ?_
   | refine LeO.bind ?_ (fun _ => ?_)
set_option maxHeartbeats 8000000 in
set_option maxRecDepth 100000 in
theorem impl_QuoValid.calls (k : Nat) (a0_0 : Int) (a0_1 : Int) (r : Bool) (w : World) (h : impl_QuoValid.f k a0_0 a0_1 = some r) :
  Calls Try.prog 27 #[.agg #[.int .i64 a0_0, .int .i64 a0_1]] w fun e w' => e = .returned (.bool r) ∧ Below w.heap.size w w' := by
 have hu25 := Try.underlying25
 have HB := Aside0.mk (Below.refl w.heap.size w)
 have H : (if a0_1 < 1 then (some false) else (if a0_1 > 1000000000 then (some false) else ((impl_within.f a0_0 1000000000).bind fun t166 => (if t166 = true then ((impl_gcdInt.f k a0_0 a0_1).bind fun t167 => (some (t167 == 1))) else (some false))))) = some r := h
 clear h
 by_cases c2 : a0_1 < 1
 ·rw [if_pos c2] at H
  have c2b0 : decide (a0_1 < 1) = true := decide_eq_true c2
  clear c2
  obtain rfl := Option.some.inj H
  go_enter Try.func27, Try.ntmps27
  go_wp2_with (first | ((with_reducible refine gate_dst (N := 1) rfl ?_); refine bx_ 1 (cs := #[.int .i64 a0_0, .int .i64 a0_1]) (t := 25) ?_; intro gb165 hg w3 hbox hb; have n0_ := Aside0.mk (below_step (lb HB.out) hb); have n1_ := Aside0.mk (hbox); have n2_ := Aside0.mk ((by rw [hg]; exact (below_size (lb HB.out)) : w.heap.size ≤ gb165)); have n3_ := Aside0.mk ((by rw [hg]; exact (below_size (lb HB.out)) : w.heap.size ≤ gb165)); clear HB; have HB := n0_; have BK165 := n1_; have GW165 := n2_; have GE165 := n3_; clear n0_ n1_ n2_ n3_; clear hb hbox hg; have hcz4_0 : w3.cell? ⟨gb165, 0, none⟩ = some (.int .i64 a0_0) := (blk_cell BK165.out 0).trans rfl; have hcz4_1 : w3.cell? ⟨gb165, 1, none⟩ = some (.int .i64 a0_1) := (blk_cell BK165.out 1).trans rfl; have hfz4_0 := blk_frozen BK165.out 0; have hfz4_1 := blk_frozen BK165.out 1))
  go_ret
  exact ⟨er, lb HB.out⟩
 ·rw [if_neg c2] at H
  have c2b0 : decide (a0_1 < 1) = false := decide_eq_false c2
  clear c2
  by_cases c5 : a0_1 > 1000000000
  ·rw [if_pos c5] at H
   have c5b0 : decide (1000000000 < a0_1) = true := decide_eq_true c5
   clear c5
   obtain rfl := Option.some.inj H
   go_enter Try.func27, Try.ntmps27
   go_wp2_with (first | ((with_reducible refine gate_dst (N := 1) rfl ?_); refine bx_ 1 (cs := #[.int .i64 a0_0, .int .i64 a0_1]) (t := 25) ?_; intro gb165 hg w6 hbox hb; have n0_ := Aside0.mk (below_step (lb HB.out) hb); have n1_ := Aside0.mk (hbox); have n2_ := Aside0.mk ((by rw [hg]; exact (below_size (lb HB.out)) : w.heap.size ≤ gb165)); have n3_ := Aside0.mk ((by rw [hg]; exact (below_size (lb HB.out)) : w.heap.size ≤ gb165)); clear HB; have HB := n0_; have BK165 := n1_; have GW165 := n2_; have GE165 := n3_; clear n0_ n1_ n2_ n3_; clear hb hbox hg; have hcz7_0 : w6.cell? ⟨gb165, 0, none⟩ = some (.int .i64 a0_0) := (blk_cell BK165.out 0).trans rfl; have hcz7_1 : w6.cell? ⟨gb165, 1, none⟩ = some (.int .i64 a0_1) := (blk_cell BK165.out 1).trans rfl; have hfz7_0 := blk_frozen BK165.out 0; have hfz7_1 := blk_frozen BK165.out 1))
   go_ret
   exact ⟨er, lb HB.out⟩
  ·rw [if_neg c5] at H
   have c5b0 : decide (1000000000 < a0_1) = false := decide_eq_false c5
   clear c5
   replace H := Option.bind_eq_some_iff.mp H
   obtain ⟨t166, A80, H⟩ := H
   replace H : (if t166 = true then ((impl_gcdInt.f k a0_0 a0_1).bind fun t167 => (some (t167 == 1))) else (some false)) = some r := H
   have A8 := Aside0.mk A80
   clear A80
   by_cases c9 : t166 = true
   ·subst c9
    have H1 : ((impl_gcdInt.f k a0_0 a0_1).bind fun t167 => (some (t167 == 1))) = some r := by rw [if_pos rfl] at H; exact H
    clear H
    have H := H1
    clear H1
    replace H := Option.bind_eq_some_iff.mp H
    obtain ⟨t167, A100, H⟩ := H
    replace H : (some (t167 == 1)) = some r := H
    have A10 := Aside0.mk A100
    clear A100
    obtain rfl := Option.some.inj H
    go_enter Try.func27, Try.ntmps27
    go_wp2_with (first | ((with_reducible refine gate_dst (N := 1) rfl ?_); refine bx_ 1 (cs := #[.int .i64 a0_0, .int .i64 a0_1]) (t := 25) ?_; intro gb165 hg w11 hbox hb; have n0_ := Aside0.mk (below_step (lb HB.out) hb); have n1_ := Aside0.mk (hbox); have n2_ := Aside0.mk ((by rw [hg]; exact (below_size (lb HB.out)) : w.heap.size ≤ gb165)); have n3_ := Aside0.mk ((by rw [hg]; exact (below_size (lb HB.out)) : w.heap.size ≤ gb165)); clear HB; have HB := n0_; have BK165 := n1_; have GW165 := n2_; have GE165 := n3_; clear n0_ n1_ n2_ n3_; clear hb hbox hg; have hcz12_0 : w11.cell? ⟨gb165, 0, none⟩ = some (.int .i64 a0_0) := (blk_cell BK165.out 0).trans rfl; have hcz12_1 : w11.cell? ⟨gb165, 1, none⟩ = some (.int .i64 a0_1) := (blk_cell BK165.out 1).trans rfl; have hfz12_0 := blk_frozen BK165.out 0; have hfz12_1 := blk_frozen BK165.out 1) | (go_at_call 25; (with_reducible refine (impl_within.calls a0_0 1000000000 true _ A8.out).mono ?_); rintro e w' ⟨rfl, ⟨nd, rfl⟩⟩) | ((with_reducible refine gate_callee (f := 26) rfl ?_); refine goesL_ (some 21) rfl rfl Try.func26 (by kernel_rfl) rfl #[.int .i64 a0_0, .int .i64 a0_1] rfl al ?_; (with_reducible refine (impl_gcdInt.calls k a0_0 a0_1 t167 _ A10.out).mono ?_); rintro e w' ⟨rfl, ⟨nd, rfl⟩⟩; refine ⟨_, rfl, ?_⟩))
    go_ret
    exact ⟨er, lb HB.out⟩
   ·replace c9 := Bool.eq_false_iff.mpr c9
    subst c9
    have H1 : (some false) = some r := by rw [if_neg (show ¬ (false = true) by decide)] at H; exact H
    clear H
    have H := H1
    clear H1
    obtain rfl := Option.some.inj H
    go_enter Try.func27, Try.ntmps27
    go_wp2_with (first | ((with_reducible refine gate_dst (N := 1) rfl ?_); refine bx_ 1 (cs := #[.int .i64 a0_0, .int .i64 a0_1]) (t := 25) ?_; intro gb165 hg w13 hbox hb; have n0_ := Aside0.mk (below_step (lb HB.out) hb); have n1_ := Aside0.mk (hbox); have n2_ := Aside0.mk ((by rw [hg]; exact (below_size (lb HB.out)) : w.heap.size ≤ gb165)); have n3_ := Aside0.mk ((by rw [hg]; exact (below_size (lb HB.out)) : w.heap.size ≤ gb165)); clear HB; have HB := n0_; have BK165 := n1_; have GW165 := n2_; have GE165 := n3_; clear n0_ n1_ n2_ n3_; clear hb hbox hg; have hcz14_0 : w13.cell? ⟨gb165, 0, none⟩ = some (.int .i64 a0_0) := (blk_cell BK165.out 0).trans rfl; have hcz14_1 : w13.cell? ⟨gb165, 1, none⟩ = some (.int .i64 a0_1) := (blk_cell BK165.out 1).trans rfl; have hfz14_0 := blk_frozen BK165.out 0; have hfz14_1 := blk_frozen BK165.out 1) | (go_at_call 25; (with_reducible refine (impl_within.calls a0_0 1000000000 false _ A8.out).mono ?_); rintro e w' ⟨rfl, ⟨nd, rfl⟩⟩))
    go_ret
    exact ⟨er, lb HB.out⟩
mutual
def impl_QuoOf.j0 : Nat → Int → Int → Bool → Option (Int × Int × Bool)
 | 0, _, _, _ => none
 | k + 1, x0, x1, x19 => if x19 = true then (some (0, 0, false)) else (if x1 < 0 then (impl_QuoOf.j1 k (wrap64 (-x0)) (wrap64 (-x1))) else (impl_QuoOf.j1 k x0 x1))
def impl_QuoOf.j1 : Nat → Int → Int → Option (Int × Int × Bool)
 | 0, _, _ => none
 | k + 1, x0, x1 => (impl_gcdInt.f k x0 x1).bind fun t171 => (if t171 = 0 then (none) else ((impl_QuoValid.f k (wrap64 (Int.tdiv x0 t171)) (wrap64 (Int.tdiv x1 t171))).bind fun t173 => (if t173 = true then (some (wrap64 (Int.tdiv x0 t171), wrap64 (Int.tdiv x1 t171), true)) else (some (0, 0, false)))))
end
def impl_QuoOf.f (k : Nat) (a0 : Int) (a1 : Int) : Option (Int × Int × Bool) := if a1 = 0 then (impl_QuoOf.j0 k a0 a1 true) else ((impl_within.f a0 4000000000000000000).bind fun t169 => (if t169 = true then ((impl_within.f a1 4000000000000000000).bind fun t170 => (impl_QuoOf.j0 k a0 a1 (!t170))) else (impl_QuoOf.j0 k a0 a1 true)))
theorem impl_QuoOf.mono_l : ∀ k, (∀ y0 y1 y2, LeO (impl_QuoOf.j0 k y0 y1 y2) (impl_QuoOf.j0 (k + 1) y0 y1 y2)) ∧ (∀ y0 y1, LeO (impl_QuoOf.j1 k y0 y1) (impl_QuoOf.j1 (k + 1) y0 y1))
 | 0 => ⟨fun _ _ _ r h => by simp [impl_QuoOf.j0] at h, fun _ _ r h => by simp [impl_QuoOf.j1] at h⟩
 | k + 1 => by
  obtain ⟨ih0, ih1⟩ := impl_QuoOf.mono_l k
  refine ⟨?_, ?_⟩
  ·intro y0 y1 y2
   unfold impl_QuoOf.j0
   repeat' first
   | (with_reducible exact ih0 _ _ _)
   | (with_reducible exact ih1 _ _)
   | (with_reducible exact impl_QuoValid.mono _ _ _)
   | (with_reducible exact impl_gcdInt.mono _ _ _)
   | (with_reducible exact LeO.refl _)
   | (with_reducible exact LeO.none _)
   | (with_reducible refine LeO.ite ?_ ?_)
   | (with_reducible refine LeO.bind ?_ (fun _ => ?_))
   | exact ih0 _ _ _
   | exact ih1 _ _
   | exact impl_QuoValid.mono _ _ _
   | exact impl_gcdInt.mono _ _ _
   | exact LeO.none _
   | refine LeO.ite ?_ ?_
   | refine LeO.bind ?_ (fun _ => ?_)
  ·intro y0 y1
   unfold impl_QuoOf.j1
   repeat' first
   | (with_reducible exact ih0 _ _ _)
   | (with_reducible exact ih1 _ _)
   | (with_reducible exact impl_QuoValid.mono _ _ _)
   | (with_reducible exact impl_gcdInt.mono _ _ _)
   | (with_reducible exact LeO.refl _)
   | (with_reducible exact LeO.none _)
   | (with_reducible refine LeO.ite ?_ ?_)
   | (with_reducible refine LeO.bind ?_ (fun _ => ?_))
   | exact ih0 _ _ _
   | exact ih1 _ _
   | exact impl_QuoValid.mono _ _ _
   | exact impl_gcdInt.mono _ _ _
   | exact LeO.none _
   | refine LeO.ite ?_ ?_
   | refine LeO.bind ?_ (fun _ => ?_)
theorem impl_QuoOf.mono : ∀ a0 a1 k, LeO (impl_QuoOf.f k a0 a1) (impl_QuoOf.f (k + 1) a0 a1) := by
 intro a0 a1 k
 obtain ⟨ih0, ih1⟩ := impl_QuoOf.mono_l k
 unfold impl_QuoOf.f
 repeat' first
   | (with_reducible exact ih0 _ _ _)
   | (with_reducible exact ih1 _ _)
   | (with_reducible exact impl_QuoValid.mono _ _ _)
   | (with_reducible exact impl_gcdInt.mono _ _ _)
   | (with_reducible exact LeO.refl _)
   | (with_reducible exact LeO.none _)
   | (with_reducible refine LeO.ite ?_ ?_)
   | (with_reducible refine LeO.bind ?_ (fun _ => ?_))
   | exact ih0 _ _ _
   | exact ih1 _ _
   | exact impl_QuoValid.mono _ _ _
   | exact impl_gcdInt.mono _ _ _
   | exact LeO.none _
   | refine LeO.ite ?_ ?_
   | refine LeO.bind ?_ (fun _ => ?_)
def impl_QuoOf.T6 : Bool × List (List Nat × List Nat) := (true,[([],[]),([],[]),([0,1],[0,1]),([],[]),([],[]),([3,4],[3,4]),([2,5],[2,5]),([],[]),([7,6,0,1,2,3,4,5,6,7],[6,7])])
def impl_QuoOf.B6 : List Nat := [0,0,3,0,0,24,63,0,255]
theorem impl_QuoOf.tab6 : rtab .any (opsOf Try.f13 6) = impl_QuoOf.T6 := by kernel_rfl
theorem impl_QuoOf.bits6 : waitsOk impl_QuoOf.T6.2 impl_QuoOf.B6 = true := by kernel_rfl
set_option maxHeartbeats 8000000 in
set_option maxRecDepth 100000 in
theorem impl_QuoOf.calls (k : Nat) (a0 : Int) (a1 : Int) (r1 : Int) (r2 : Int) (r3 : Bool) (w : World) (h : impl_QuoOf.f k a0 a1 = some (r1, r2, r3)) :
  Calls Try.prog 13 #[.int .i64 a0, .int .i64 a1] w fun e w' => e = .returned (.tuple #[.agg #[.int .i64 r1, .int .i64 r2], .bool r3]) ∧ Below w.heap.size w w' := by
 have hu25 := Try.underlying25
 have HB := Aside0.mk (Below.refl w.heap.size w)
 have H : (if a1 = 0 then (impl_QuoOf.j0 k a0 a1 true) else ((impl_within.f a0 4000000000000000000).bind fun t169 => (if t169 = true then ((impl_within.f a1 4000000000000000000).bind fun t170 => (impl_QuoOf.j0 k a0 a1 (!t170))) else (impl_QuoOf.j0 k a0 a1 true)))) = some (r1, r2, r3) := h
 clear h
 have HC3 := Aside0.mk H
 clear H
 go_enter Try.func13, Try.ntmps13
 go_upto_region 1 with (first | ((with_reducible refine gate_dst (N := 4) rfl ?_); refine bx_ 4 (cs := #[.int .i64 0, .int .i64 0]) (t := 25) ?_; intro gb168 hg w4 hbox hb; have n0_ := Aside0.mk (below_step (lb HB.out) hb); have n1_ := Aside0.mk (hbox); have n2_ := Aside0.mk ((by rw [hg]; exact (below_size (lb HB.out)) : w.heap.size ≤ gb168)); have n3_ := Aside0.mk ((by rw [hg]; exact (below_size (lb HB.out)) : w.heap.size ≤ gb168)); clear HB; have HB := n0_; have BK168 := n1_; have GW168 := n2_; have GE168 := n3_; clear n0_ n1_ n2_ n3_; clear hb hbox hg))
 (try simp only [Act.put, List.setIfInBounds_toArray, List.set_cons_zero, List.set_cons_succ])
 go_cut [19] (fun v19 wc => ∃ (kq : Nat) (x19_2 : Bool), v19 = .bool x19_2 ∧ Aside0 (impl_QuoOf.j0 kq a0 a1 x19_2 = some (r1, r2, r3)) ∧ Aside0 (kq ≤ k) ∧ Aside0 (wc.heap[gb168]? = some (.cells #[.int .i64 0, .int .i64 0] 25 (0, 0))) ∧ Aside0 (Below w.heap.size w wc))
 case first =>
  have H := HC3.out
  clear HC3
  by_cases c5 : a1 = 0
  ·rw [if_pos c5] at H
   have c5b0 : (a1 == 0) = true := beq_iff_eq.mpr c5
   have c5b1 : (a1 != 0) = false := bne_eq_false_iff_eq.mpr c5
   clear c5
   (first | rw [c5b0] | (simp only [i64_w, i32_w]; rw [c5b0]) | skip)
   have H' := Aside0.mk H
   clear H
   go_wp2
   go_meet
   case rel => exact ⟨_, (true), (by first | rfl | (simp; done) | (simp [*]; done)), H', ⟨by first | omega | exact Nat.le_refl _⟩, ⟨bu BK168.out⟩, ⟨lb HB.out⟩⟩
  ·rw [if_neg c5] at H
   have c5b0 : (a1 == 0) = false := beq_eq_false_iff_ne.mpr c5
   have c5b1 : (a1 != 0) = true := bne_iff_ne.mpr c5
   (first | rw [c5b0] | (simp only [i64_w, i32_w]; rw [c5b0]) | skip)
   replace H := Option.bind_eq_some_iff.mp H
   obtain ⟨t169, A60, H⟩ := H
   replace H : (if t169 = true then ((impl_within.f a1 4000000000000000000).bind fun t170 => (impl_QuoOf.j0 k a0 a1 (!t170))) else (impl_QuoOf.j0 k a0 a1 true)) = some (r1, r2, r3) := H
   have A6 := Aside0.mk A60
   clear A60
   by_cases c7 : t169 = true
   ·subst c7
    have H1 : ((impl_within.f a1 4000000000000000000).bind fun t170 => (impl_QuoOf.j0 k a0 a1 (!t170))) = some (r1, r2, r3) := by rw [if_pos rfl] at H; exact H
    clear H
    have H := H1
    clear H1
    replace H := Option.bind_eq_some_iff.mp H
    obtain ⟨t170, A80, H⟩ := H
    replace H : (impl_QuoOf.j0 k a0 a1 (!t170)) = some (r1, r2, r3) := H
    have A8 := Aside0.mk A80
    clear A80
    have H' := Aside0.mk H
    clear H
    go_wp2_with (first | (go_at_call 25; (with_reducible refine (impl_within.calls a0 4000000000000000000 true _ A6.out).mono ?_); rintro e w' ⟨rfl, ⟨nd, rfl⟩⟩) | (go_at_call 25; (with_reducible refine (impl_within.calls a1 4000000000000000000 t170 _ A8.out).mono ?_); rintro e w' ⟨rfl, ⟨nd, rfl⟩⟩))
    go_meet
    case rel => exact ⟨_, (!t170), (by first | rfl | (simp; done) | (simp [*]; done)), H', ⟨by first | omega | exact Nat.le_refl _⟩, ⟨bu BK168.out⟩, ⟨lb HB.out⟩⟩
   ·replace c7 := Bool.eq_false_iff.mpr c7
    subst c7
    have H1 : (impl_QuoOf.j0 k a0 a1 true) = some (r1, r2, r3) := by rw [if_neg (show ¬ (false = true) by decide)] at H; exact H
    clear H
    have H := H1
    clear H1
    have H' := Aside0.mk H
    clear H
    go_wp2_with (first | (go_at_call 25; (with_reducible refine (impl_within.calls a0 4000000000000000000 false _ A6.out).mono ?_); rintro e w' ⟨rfl, ⟨nd, rfl⟩⟩))
    go_meet
    case rel => exact ⟨_, (true), (by first | rfl | (simp; done) | (simp [*]; done)), H', ⟨by first | omega | exact Nat.le_refl _⟩, ⟨bu BK168.out⟩, ⟨lb HB.out⟩⟩
 case rest =>
  clear HC3
  try clear c1
  try clear p2
  try clear c5
  try clear c5b0
  try clear c5b1
  try clear c7
  obtain ⟨kq, x19_2, rfl, HA, HJ2, BK168, HB⟩ := hcut
  cases kq with
  | zero => exact absurd HA.out (by simp [impl_QuoOf.j0])
  | succ kj2 =>
   have H := HA.out
   clear HA
   simp only [impl_QuoOf.j0] at H
   by_cases c9 : x19_2 = true
   ·subst c9
    have H1 : (some (0, 0, false)) = some (r1, r2, r3) := by rw [if_pos rfl] at H; exact H
    clear H
    have H := H1
    clear H1
    simp only [Option.some.injEq, Prod.mk.injEq] at H
    obtain ⟨rfl, rfl, rfl⟩ := H
    have hcz10_0 : wc.cell? ⟨gb168, 0, none⟩ = some (.int .i64 0) := (blk_cell BK168.out 0).trans rfl
    have hcz10_1 : wc.cell? ⟨gb168, 1, none⟩ = some (.int .i64 0) := (blk_cell BK168.out 1).trans rfl
    have hfz10_0 := blk_frozen BK168.out 0
    have hfz10_1 := blk_frozen BK168.out 1
    go_wp2
    refine bodyPost_ret (results_ct rfl _ _ gb168 25 #[.int .i64 0, .int .i64 0] (0, 0) _ rfl (bp BK168.out) Try.underlying25 rfl (by kernel_rfl)) rfl ?_
    exact ⟨er, lb HB.out⟩
   ·replace c9 := Bool.eq_false_iff.mpr c9
    subst c9
    have H1 : (if a1 < 0 then (impl_QuoOf.j1 kj2 (wrap64 (-a0)) (wrap64 (-a1))) else (impl_QuoOf.j1 kj2 a0 a1)) = some (r1, r2, r3) := by rw [if_neg (show ¬ (false = true) by decide)] at H; exact H
    clear H
    have H := H1
    clear H1
    have HC11 := Aside0.mk H
    clear H
    go_upto_if 22 with (fail)
    go_cut [0, 1] (fun v0 v1 wc => ∃ (kq : Nat) (x0_10 : Int) (x1_10 : Int), v0 = .int .i64 x0_10 ∧ v1 = .int .i64 x1_10 ∧ Aside0 (impl_QuoOf.j1 kq x0_10 x1_10 = some (r1, r2, r3)) ∧ Aside0 (kq ≤ kj2) ∧ Aside0 (wc.heap[gb168]? = some (.cells #[.int .i64 0, .int .i64 0] 25 (0, 0))) ∧ Aside0 (Below w.heap.size w wc))
    case first =>
     have H := HC11.out
     clear HC11
     by_cases c12 : a1 < 0
     ·rw [if_pos c12] at H
      have c12b0 : decide (a1 < 0) = true := decide_eq_true c12
      clear c12
      (first | rw [c12b0] | (simp only [i64_w, i32_w]; rw [c12b0]) | skip)
      have H' := Aside0.mk H
      clear H
      go_wp2
      go_meet
      case rel => exact ⟨_, (wrap64 (-a0)), (wrap64 (-a1)), (by first | rfl | (simp; done) | (simp [*]; done)), (by first | rfl | (simp; done) | (simp [*]; done)), H', ⟨by have := HJ2.out; first | omega | exact Nat.le_refl _⟩, ⟨bu BK168.out⟩, ⟨lb HB.out⟩⟩
     ·rw [if_neg c12] at H
      have c12b0 : decide (a1 < 0) = false := decide_eq_false c12
      clear c12
      (first | rw [c12b0] | (simp only [i64_w, i32_w]; rw [c12b0]) | skip)
      have H' := Aside0.mk H
      clear H
      go_wp2
      go_meet
      case rel => exact ⟨_, (a0), (a1), (by first | rfl | (simp; done) | (simp [*]; done)), (by first | rfl | (simp; done) | (simp [*]; done)), H', ⟨by have := HJ2.out; first | omega | exact Nat.le_refl _⟩, ⟨bu BK168.out⟩, ⟨lb HB.out⟩⟩
    case rest =>
     clear HC11
     try clear c1
     try clear p2
     try clear c5
     try clear c5b0
     try clear c5b1
     try clear p6
     try clear c7
     try clear c9
     try clear c12
     try clear c12b0
     try clear hcz10_0
     try clear hcz10_1
     try clear hfz10_0
     try clear hfz10_1
     try clear p2
     obtain ⟨kq, x0_10, x1_10, rfl, rfl, HA, HJ10, BK168, HB⟩ := hcut
     cases kq with
     | zero => exact absurd HA.out (by simp [impl_QuoOf.j1])
     | succ kj10 =>
      have H := HA.out
      clear HA
      simp only [impl_QuoOf.j1] at H
      replace H := Option.bind_eq_some_iff.mp H
      obtain ⟨t171, A130, H⟩ := H
      replace H : (if t171 = 0 then (none) else ((impl_QuoValid.f kj10 (wrap64 (Int.tdiv x0_10 t171)) (wrap64 (Int.tdiv x1_10 t171))).bind fun t173 => (if t173 = true then (some (wrap64 (Int.tdiv x0_10 t171), wrap64 (Int.tdiv x1_10 t171), true)) else (some (0, 0, false))))) = some (r1, r2, r3) := H
      have A13 := Aside0.mk A130
      clear A130
      by_cases c14 : t171 = 0
      ·rw [if_pos c14] at H
       exact absurd H (by simp)
      ·rw [if_neg c14] at H
       have c14b0 : (t171 == 0) = false := beq_eq_false_iff_ne.mpr c14
       have c14b1 : (t171 != 0) = true := bne_iff_ne.mpr c14
       replace H := Option.bind_eq_some_iff.mp H
       obtain ⟨t173, A150, H⟩ := H
       replace H : (if t173 = true then (some (wrap64 (Int.tdiv x0_10 t171), wrap64 (Int.tdiv x1_10 t171), true)) else (some (0, 0, false))) = some (r1, r2, r3) := H
       have A15 := Aside0.mk A150
       clear A150
       by_cases c16 : t173 = true
       ·subst c16
        have H1 : (some (wrap64 (Int.tdiv x0_10 t171), wrap64 (Int.tdiv x1_10 t171), true)) = some (r1, r2, r3) := by rw [if_pos rfl] at H; exact H
        clear H
        have H := H1
        clear H1
        simp only [Option.some.injEq, Prod.mk.injEq] at H
        obtain ⟨rfl, rfl, rfl⟩ := H
        try go_wp2_with (first | ((with_reducible refine gate_callee (f := 26) rfl ?_); refine goesL_ (some 29) rfl rfl Try.func26 (by kernel_rfl) rfl #[.int .i64 x0_10, .int .i64 x1_10] rfl al ?_; (with_reducible refine (impl_gcdInt.calls kj10 x0_10 x1_10 t171 _ A13.out).mono ?_); rintro e w' ⟨rfl, ⟨nd, rfl⟩⟩; refine ⟨_, rfl, ?_⟩; (try (rw [drewN_self wc]; generalize hq_ : World.drewN wc _ = wc; have n0_ : Aside0 (wc.heap[gb168]? = some (.cells #[.int .i64 0, .int .i64 0] 25 (0, 0))) := ⟨by rw [← hq_]; exact (bf BK168.out)⟩; have n1_ : Aside0 (Below w.heap.size w wc) := ⟨by rw [← hq_]; exact (lb HB.out)⟩; clear BK168 HB hq_; have BK168 := n0_; have HB := n1_; clear n0_ n1_))))
        have n0_ := Aside0.mk (blk_drew BK168.out)
        have n1_ := Aside0.mk (below_drew1 HB.out)
        clear BK168 HB
        have BK168 := n0_
        have HB := n1_
        clear n0_ n1_
        refine start_ (n := 9) (S := fun w' => True) (ds := []) #[false,false,false,false,false,false,false,false,false] (by kernel_rfl) rfl rfl trivial (fun hHeld => ?_); refine with_tabW impl_QuoOf.tab6 impl_QuoOf.bits6 (fun HT_ HW_ => ?_)
        generalize wc.drew = w17 at BK168 HB hHeld ⊢
        refine pq_ 0 (some 30) ?_
        refine pq_ 1 (some 31) ?_
        refine pq_ 2 (some 32) ?_
        refine pq_ 3 (some 33) ?_
        refine pq_ 4 (some 34) ?_
        refine pq_ 5 (some 35) ?_
        refine pq_ 6 (some 36) ?_
        refine one_ (i := 7) (N := some 7) #[true,true,true,true,true,true,true,true,false] rfl rfl (one_of HT_.out (by kernel_rfl)) (by decide) (fun K hK => ?_)
        refine box_step ?hg (N := 7) ?hd (cs := #[.int .i64 0, .int .i64 0]) (t := 25) ?hr ?_; (case hd => rfl); (case hg => rfl); (case hr => first | (go_simp; done) | (go_simp; rfl))
        intro gb172 hg w18 hbox hb
        have n0_ := Aside0.mk (blk_below (bf BK168.out) hb)
        have n1_ := Aside0.mk (below_step (lb HB.out) hb)
        have n2_ := Aside0.mk (hbox)
        have n3_ := Aside0.mk ((by rw [hg]; exact (below_size (lb HB.out)) : w.heap.size ≤ gb172))
        have n4_ := Aside0.mk ((by rw [hg]; exact (below_size (lb HB.out)) : w.heap.size ≤ gb172))
        have n5_ := Aside0.mk ((by rw [hg]; exact Nat.ne_of_lt (blk_lt (bf BK168.out)) : gb168 ≠ gb172))
        have n6_ := Aside0.mk ((by rw [hg]; exact Nat.ne_of_gt (blk_lt (bf BK168.out)) : gb172 ≠ gb168))
        clear BK168 HB
        have BK168 := n0_
        have HB := n1_
        have BK172 := n2_
        have GW172 := n3_
        have GE172 := n4_
        have NB168_172 := n5_
        have NB172_168 := n6_
        clear n0_ n1_ n2_ n3_ n4_ n5_ n6_ hb hbox hg
        refine hK.out _ _ trivial (fun hHeld => ?_)
        clear hK K
        refine norm_ (a' := ?_) ?_ ?_
        rotate_left
        ·show Act.put _ (some 7) _ = _
         simp only [Act.put, List.setIfInBounds_toArray, List.set_cons_zero, List.set_cons_succ, i64_w, i32_w]
         rfl
        refine one_ (i := 8) (N := none) #[true,true,true,true,true,true,true,true,true] rfl rfl (one_of HT_.out (by kernel_rfl)) (by decide) (fun K hK => ?_)
        have hs19 : w18.cell? ⟨gb172, 0, none⟩ = some (.int .i64 0) := (blk_cell BK172.out 0).trans rfl
        have hfs19 := blk_frozen BK172.out 0
        have hns19_0 := NB168_172.out
        have hms19_0 := NB172_168.out
        have hs20 : w18.cell? ⟨gb172, 1, none⟩ = some (.int .i64 0) := (blk_cell BK172.out 1).trans rfl
        have hfs20 := blk_frozen BK172.out 1
        have hns20_0 := NB168_172.out
        have hms20_0 := NB172_168.out
        refine skip_ (w1 := ?_) (by rfl) rfl ?_ ?_
        rotate_left
        ·go_simp
         rfl
        refine hK.out _ _ trivial (fun hHeld => ?_)
        clear hK K
        refine done_ (done_of HT_.out (by kernel_rfl)) ?_
        have hnb21 := NB172_168.out
        have hnc21 := NB168_172.out
        have hcz22_0 : w18.cell? ⟨gb172, 0, none⟩ = some (.int .i64 0) := (blk_cell BK172.out 0).trans rfl
        have hcz22_1 : w18.cell? ⟨gb172, 1, none⟩ = some (.int .i64 0) := (blk_cell BK172.out 1).trans rfl
        have hfz22_0 := blk_frozen BK172.out 0
        have hfz22_1 := blk_frozen BK172.out 1
        try go_wp2_with (first | ((with_reducible refine gate_callee (f := 27) rfl ?_); refine goesL_ (some 38) rfl rfl Try.func27 (by kernel_rfl) rfl #[.agg #[.int .i64 (wrap64 (Int.tdiv x0_10 t171)), .int .i64 (wrap64 (Int.tdiv x1_10 t171))]] rfl al ?_; (with_reducible refine (impl_QuoValid.calls kj10 (wrap64 (Int.tdiv x0_10 t171)) (wrap64 (Int.tdiv x1_10 t171)) true _ A15.out).mono ?_); rintro e w23 ⟨rfl, hb⟩; refine ⟨_, rfl, ?_⟩; have n0_ := Aside0.mk (blk_below (bf BK168.out) hb); have n1_ := Aside0.mk (blk_below (bp BK172.out) hb); have n2_ := Aside0.mk (below_step (lb HB.out) hb); clear BK168; clear BK172; clear HB; have BK168 := n0_; have BK172 := n1_; have HB := n2_; clear n0_ n1_ n2_; (try clear hb); (try clear hb2); (try clear hk); (try clear hi); have hcz24_0 : w23.cell? ⟨gb172, 0, none⟩ = some (.int .i64 (wrap64 (Int.tdiv x0_10 t171))) := (blk_cell BK172.out 0).trans rfl; have hcz24_1 : w23.cell? ⟨gb172, 1, none⟩ = some (.int .i64 (wrap64 (Int.tdiv x1_10 t171))) := (blk_cell BK172.out 1).trans rfl; have hfz24_0 := blk_frozen BK172.out 0; have hfz24_1 := blk_frozen BK172.out 1; have hcz25_0 : w23.cell? ⟨gb168, 0, none⟩ = some (.int .i64 0) := (blk_cell BK168.out 0).trans rfl; have hcz25_1 : w23.cell? ⟨gb168, 1, none⟩ = some (.int .i64 0) := (blk_cell BK168.out 1).trans rfl; have hfz25_0 := blk_frozen BK168.out 0; have hfz25_1 := blk_frozen BK168.out 1))
        refine bodyPost_ret (results_ct rfl _ _ gb168 25 #[.int .i64 (wrap64 (Int.tdiv x0_10 t171)), .int .i64 (wrap64 (Int.tdiv x1_10 t171))] (0, 0) _ rfl (bp BK168.out) Try.underlying25 rfl (by kernel_rfl)) rfl ?_
        exact ⟨er, lb HB.out⟩
       ·replace c16 := Bool.eq_false_iff.mpr c16
        subst c16
        have H1 : (some (0, 0, false)) = some (r1, r2, r3) := by rw [if_neg (show ¬ (false = true) by decide)] at H; exact H
        clear H
        have H := H1
        clear H1
        simp only [Option.some.injEq, Prod.mk.injEq] at H
        obtain ⟨rfl, rfl, rfl⟩ := H
        try go_wp2_with (first | ((with_reducible refine gate_callee (f := 26) rfl ?_); refine goesL_ (some 29) rfl rfl Try.func26 (by kernel_rfl) rfl #[.int .i64 x0_10, .int .i64 x1_10] rfl al ?_; (with_reducible refine (impl_gcdInt.calls kj10 x0_10 x1_10 t171 _ A13.out).mono ?_); rintro e w' ⟨rfl, ⟨nd, rfl⟩⟩; refine ⟨_, rfl, ?_⟩; (try (rw [drewN_self wc]; generalize hq_ : World.drewN wc _ = wc; have n0_ : Aside0 (wc.heap[gb168]? = some (.cells #[.int .i64 0, .int .i64 0] 25 (0, 0))) := ⟨by rw [← hq_]; exact (bf BK168.out)⟩; have n1_ : Aside0 (Below w.heap.size w wc) := ⟨by rw [← hq_]; exact (lb HB.out)⟩; clear BK168 HB hq_; have BK168 := n0_; have HB := n1_; clear n0_ n1_))))
        have n0_ := Aside0.mk (blk_drew BK168.out)
        have n1_ := Aside0.mk (below_drew1 HB.out)
        clear BK168 HB
        have BK168 := n0_
        have HB := n1_
        clear n0_ n1_
        refine start_ (n := 9) (S := fun w' => True) (ds := []) #[false,false,false,false,false,false,false,false,false] (by kernel_rfl) rfl rfl trivial (fun hHeld => ?_); refine with_tabW impl_QuoOf.tab6 impl_QuoOf.bits6 (fun HT_ HW_ => ?_)
        generalize wc.drew = w26 at BK168 HB hHeld ⊢
        refine pq_ 0 (some 30) ?_
        refine pq_ 1 (some 31) ?_
        refine pq_ 2 (some 32) ?_
        refine pq_ 3 (some 33) ?_
        refine pq_ 4 (some 34) ?_
        refine pq_ 5 (some 35) ?_
        refine pq_ 6 (some 36) ?_
        refine one_ (i := 7) (N := some 7) #[true,true,true,true,true,true,true,true,false] rfl rfl (one_of HT_.out (by kernel_rfl)) (by decide) (fun K hK => ?_)
        refine box_step ?hg (N := 7) ?hd (cs := #[.int .i64 0, .int .i64 0]) (t := 25) ?hr ?_; (case hd => rfl); (case hg => rfl); (case hr => first | (go_simp; done) | (go_simp; rfl))
        intro gb172 hg w27 hbox hb
        have n0_ := Aside0.mk (blk_below (bf BK168.out) hb)
        have n1_ := Aside0.mk (below_step (lb HB.out) hb)
        have n2_ := Aside0.mk (hbox)
        have n3_ := Aside0.mk ((by rw [hg]; exact (below_size (lb HB.out)) : w.heap.size ≤ gb172))
        have n4_ := Aside0.mk ((by rw [hg]; exact (below_size (lb HB.out)) : w.heap.size ≤ gb172))
        have n5_ := Aside0.mk ((by rw [hg]; exact Nat.ne_of_lt (blk_lt (bf BK168.out)) : gb168 ≠ gb172))
        have n6_ := Aside0.mk ((by rw [hg]; exact Nat.ne_of_gt (blk_lt (bf BK168.out)) : gb172 ≠ gb168))
        clear BK168 HB
        have BK168 := n0_
        have HB := n1_
        have BK172 := n2_
        have GW172 := n3_
        have GE172 := n4_
        have NB168_172 := n5_
        have NB172_168 := n6_
        clear n0_ n1_ n2_ n3_ n4_ n5_ n6_ hb hbox hg
        refine hK.out _ _ trivial (fun hHeld => ?_)
        clear hK K
        refine norm_ (a' := ?_) ?_ ?_
        rotate_left
        ·show Act.put _ (some 7) _ = _
         simp only [Act.put, List.setIfInBounds_toArray, List.set_cons_zero, List.set_cons_succ, i64_w, i32_w]
         rfl
        refine one_ (i := 8) (N := none) #[true,true,true,true,true,true,true,true,true] rfl rfl (one_of HT_.out (by kernel_rfl)) (by decide) (fun K hK => ?_)
        have hs28 : w27.cell? ⟨gb172, 0, none⟩ = some (.int .i64 0) := (blk_cell BK172.out 0).trans rfl
        have hfs28 := blk_frozen BK172.out 0
        have hns28_0 := NB168_172.out
        have hms28_0 := NB172_168.out
        have hs29 : w27.cell? ⟨gb172, 1, none⟩ = some (.int .i64 0) := (blk_cell BK172.out 1).trans rfl
        have hfs29 := blk_frozen BK172.out 1
        have hns29_0 := NB168_172.out
        have hms29_0 := NB172_168.out
        refine skip_ (w1 := ?_) (by rfl) rfl ?_ ?_
        rotate_left
        ·go_simp
         rfl
        refine hK.out _ _ trivial (fun hHeld => ?_)
        clear hK K
        refine done_ (done_of HT_.out (by kernel_rfl)) ?_
        have hnb30 := NB172_168.out
        have hnc30 := NB168_172.out
        have hcz31_0 : w27.cell? ⟨gb172, 0, none⟩ = some (.int .i64 0) := (blk_cell BK172.out 0).trans rfl
        have hcz31_1 : w27.cell? ⟨gb172, 1, none⟩ = some (.int .i64 0) := (blk_cell BK172.out 1).trans rfl
        have hfz31_0 := blk_frozen BK172.out 0
        have hfz31_1 := blk_frozen BK172.out 1
        try go_wp2_with (first | ((with_reducible refine gate_callee (f := 27) rfl ?_); refine goesL_ (some 38) rfl rfl Try.func27 (by kernel_rfl) rfl #[.agg #[.int .i64 (wrap64 (Int.tdiv x0_10 t171)), .int .i64 (wrap64 (Int.tdiv x1_10 t171))]] rfl al ?_; (with_reducible refine (impl_QuoValid.calls kj10 (wrap64 (Int.tdiv x0_10 t171)) (wrap64 (Int.tdiv x1_10 t171)) false _ A15.out).mono ?_); rintro e w32 ⟨rfl, hb⟩; refine ⟨_, rfl, ?_⟩; have n0_ := Aside0.mk (blk_below (bf BK168.out) hb); have n1_ := Aside0.mk (blk_below (bp BK172.out) hb); have n2_ := Aside0.mk (below_step (lb HB.out) hb); clear BK168; clear BK172; clear HB; have BK168 := n0_; have BK172 := n1_; have HB := n2_; clear n0_ n1_ n2_; (try clear hb); (try clear hb2); (try clear hk); (try clear hi); have hcz33_0 : w32.cell? ⟨gb168, 0, none⟩ = some (.int .i64 0) := (blk_cell BK168.out 0).trans rfl; have hcz33_1 : w32.cell? ⟨gb168, 1, none⟩ = some (.int .i64 0) := (blk_cell BK168.out 1).trans rfl; have hfz33_0 := blk_frozen BK168.out 0; have hfz33_1 := blk_frozen BK168.out 1))
        refine bodyPost_ret (results_ct rfl _ _ gb168 25 #[.int .i64 0, .int .i64 0] (0, 0) _ rfl (bp BK168.out) Try.underlying25 rfl (by kernel_rfl)) rfl ?_
        exact ⟨er, lb HB.out⟩
end Go.Proofs.Ytppfoebalhdibaa.P
-- squeezed

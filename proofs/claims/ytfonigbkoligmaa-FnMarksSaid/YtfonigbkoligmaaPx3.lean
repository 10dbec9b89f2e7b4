import Derived.Test.YtfonigbkoligmaaPx0
import Derived.Test.YtfonigbkoligmaaPx1
import Derived.Test.YtfonigbkoligmaaPx2
namespace Go.Proofs.Ytfonigbkoligmaa.P
open Go.RowKit Go.Proofs.YtfonigbkoligmaaW.PrintWords Go.Proofs.YtfonigbkoligmaaW.PrintLast Go.Proofs.YtfonigbkoligmaaW.PrintMore
attribute [local go_sem] max2_int min2_int max_two min_two max_three min_three max_four min_four
set_option linter.unusedVariables false
set_option linter.unusedSimpArgs false
def impl_sidesMeet.j0 : Nat → Bool → Int → Int → Int → Int → Int → Int → Int → Int → Option (Bool)
 | 0, _, _, _, _, _, _, _, _, _ => none
 | k + 1, x38, x114000, x114001, x115000, x115001, x116000, x116001, x117000, x117001 => if x38 = true then (some true) else ((impl_PointSide.f x114000 x114001 x115000 x115001 x116000 x116001).bind fun bt121 => ((impl_PointSide.f x114000 x114001 x115000 x115001 x117000 x117001).bind fun bt123 => ((impl_PointSide.f x116000 x116001 x117000 x117001 x114000 x114001).bind fun bt125 => ((impl_PointSide.f x116000 x116001 x117000 x117001 x115000 x115001).bind fun bt127 => (if (wrap64 (bt121.1 * bt123.1)) < 0 then (some (decide ((wrap64 (bt125.1 * bt127.1)) < 0))) else (some false))))))
def impl_sidesMeet.f (k : Nat) (a0_0 : Int) (a0_1 : Int) (a1_0 : Int) (a1_1 : Int) (a2_0 : Int) (a2_1 : Int) (a3_0 : Int) (a3_1 : Int) : Option (Bool) := (impl_PointOn.f k a0_0 a0_1 a1_0 a1_1 a2_0 a2_1).bind fun t117 => (if t117 = true then (impl_sidesMeet.j0 k true a0_0 a0_1 a1_0 a1_1 a2_0 a2_1 a3_0 a3_1) else ((impl_PointOn.f k a0_0 a0_1 a1_0 a1_1 a3_0 a3_1).bind fun t118 => (if t118 = true then (impl_sidesMeet.j0 k true a0_0 a0_1 a1_0 a1_1 a2_0 a2_1 a3_0 a3_1) else ((impl_PointOn.f k a2_0 a2_1 a3_0 a3_1 a0_0 a0_1).bind fun t119 => (if t119 = true then (impl_sidesMeet.j0 k true a0_0 a0_1 a1_0 a1_1 a2_0 a2_1 a3_0 a3_1) else ((impl_PointOn.f k a2_0 a2_1 a3_0 a3_1 a1_0 a1_1).bind fun t120 => (impl_sidesMeet.j0 k t120 a0_0 a0_1 a1_0 a1_1 a2_0 a2_1 a3_0 a3_1)))))))
theorem impl_sidesMeet.mono_l : ∀ k, (∀ y0 y1 y2 y3 y4 y5 y6 y7 y8, LeO (impl_sidesMeet.j0 k y0 y1 y2 y3 y4 y5 y6 y7 y8) (impl_sidesMeet.j0 (k + 1) y0 y1 y2 y3 y4 y5 y6 y7 y8))
 | 0 => fun _ _ _ _ _ _ _ _ _ r h => by simp [impl_sidesMeet.j0] at h
 | k + 1 => by
  have ih0 := impl_sidesMeet.mono_l k
  ·intro y0 y1 y2 y3 y4 y5 y6 y7 y8
   unfold impl_sidesMeet.j0
   repeat' first
   | (with_reducible exact ih0 _ _ _ _ _ _ _ _ _)
   | (with_reducible exact impl_PointOn.mono _ _ _ _ _ _ _)
   | (with_reducible exact LeO.refl _)
   | (with_reducible exact LeO.none _)
   | (with_reducible refine LeO.ite ?_ ?_)
   | (with_reducible refine LeO.bind ?_ (fun _ => ?_))
   | exact ih0 _ _ _ _ _ _ _ _ _
   | exact impl_PointOn.mono _ _ _ _ _ _ _
   | exact LeO.none _
   | refine LeO.ite ?_ ?_
   | refine LeO.bind ?_ (fun _ => ?_)
theorem impl_sidesMeet.mono : ∀ a0 a1 a2 a3 a4 a5 a6 a7 k, LeO (impl_sidesMeet.f k a0 a1 a2 a3 a4 a5 a6 a7) (impl_sidesMeet.f (k + 1) a0 a1 a2 a3 a4 a5 a6 a7) := by
 intro a0 a1 a2 a3 a4 a5 a6 a7 k
 have ih0 := impl_sidesMeet.mono_l k
 unfold impl_sidesMeet.f
 repeat' first
   | (with_reducible exact ih0 _ _ _ _ _ _ _ _ _)
   | (with_reducible exact impl_PointOn.mono _ _ _ _ _ _ _)
   | (with_reducible exact LeO.refl _)
   | (with_reducible exact LeO.none _)
   | (with_reducible refine LeO.ite ?_ ?_)
   | (with_reducible refine LeO.bind ?_ (fun _ => ?_))
   | exact ih0 _ _ _ _ _ _ _ _ _
   | exact impl_PointOn.mono _ _ _ _ _ _ _
   | exact LeO.none _
   | refine LeO.ite ?_ ?_
   | refine LeO.bind ?_ (fun _ => ?_)
set_option maxHeartbeats 8000000 in
set_option maxRecDepth 100000 in
theorem impl_sidesMeet.calls (k : Nat) (a0_0 : Int) (a0_1 : Int) (a1_0 : Int) (a1_1 : Int) (a2_0 : Int) (a2_1 : Int) (a3_0 : Int) (a3_1 : Int) (r : Bool) (w : World) (h : impl_sidesMeet.f k a0_0 a0_1 a1_0 a1_1 a2_0 a2_1 a3_0 a3_1 = some r) :
  Calls Try.prog 91 #[.agg #[.int .i64 a0_0, .int .i64 a0_1], .agg #[.int .i64 a1_0, .int .i64 a1_1], .agg #[.int .i64 a2_0, .int .i64 a2_1], .agg #[.int .i64 a3_0, .int .i64 a3_1]] w fun e w' => e = .returned (.bool r) ∧ Below w.heap.size w w' := by
 have hu33 := Try.underlying33
 have HB := Aside0.mk (Below.refl w.heap.size w)
 have H : ((impl_PointOn.f k a0_0 a0_1 a1_0 a1_1 a2_0 a2_1).bind fun t117 => (if t117 = true then (impl_sidesMeet.j0 k true a0_0 a0_1 a1_0 a1_1 a2_0 a2_1 a3_0 a3_1) else ((impl_PointOn.f k a0_0 a0_1 a1_0 a1_1 a3_0 a3_1).bind fun t118 => (if t118 = true then (impl_sidesMeet.j0 k true a0_0 a0_1 a1_0 a1_1 a2_0 a2_1 a3_0 a3_1) else ((impl_PointOn.f k a2_0 a2_1 a3_0 a3_1 a0_0 a0_1).bind fun t119 => (if t119 = true then (impl_sidesMeet.j0 k true a0_0 a0_1 a1_0 a1_1 a2_0 a2_1 a3_0 a3_1) else ((impl_PointOn.f k a2_0 a2_1 a3_0 a3_1 a1_0 a1_1).bind fun t120 => (impl_sidesMeet.j0 k t120 a0_0 a0_1 a1_0 a1_1 a2_0 a2_1 a3_0 a3_1)))))))) = some r := h
 clear h
 have HC5 := Aside0.mk H
 clear H
 go_enter Try.func91, Try.ntmps91
 go_upto_region 1 with (first | ((with_reducible refine gate_dst (N := 4) rfl ?_); refine bx_ 4 (cs := #[.int .i64 a0_0, .int .i64 a0_1]) (t := 33) ?_; intro gb113 hg w6 hbox hb; have n0_ := Aside0.mk (below_step (lb HB.out) hb); have n1_ := Aside0.mk (hbox); have n2_ := Aside0.mk ((by rw [hg]; exact (below_size (lb HB.out)) : w.heap.size ≤ gb113)); have n3_ := Aside0.mk ((by rw [hg]; exact (below_size (lb HB.out)) : w.heap.size ≤ gb113)); clear HB; have HB := n0_; have BK113 := n1_; have GW113 := n2_; have GE113 := n3_; clear n0_ n1_ n2_ n3_; clear hb hbox hg) | ((with_reducible refine gate_dst (N := 5) rfl ?_); refine bx_ 5 (cs := #[.int .i64 a1_0, .int .i64 a1_1]) (t := 33) ?_; intro gb114 hg w7 hbox hb; have n0_ := Aside0.mk (blk_below (bf BK113.out) hb); have n1_ := Aside0.mk (below_step (lb HB.out) hb); have n2_ := Aside0.mk (hbox); have n3_ := Aside0.mk ((by rw [hg]; exact (below_size (lb HB.out)) : w.heap.size ≤ gb114)); have n4_ := Aside0.mk ((by rw [hg]; exact (below_size (lb HB.out)) : w.heap.size ≤ gb114)); have n5_ := Aside0.mk ((by rw [hg]; exact Nat.ne_of_lt (blk_lt (bf BK113.out)) : gb113 ≠ gb114)); have n6_ := Aside0.mk ((by rw [hg]; exact Nat.ne_of_gt (blk_lt (bf BK113.out)) : gb114 ≠ gb113)); clear BK113; clear HB; have BK113 := n0_; have HB := n1_; have BK114 := n2_; have GW114 := n3_; have GE114 := n4_; have NB113_114 := n5_; have NB114_113 := n6_; clear n0_ n1_ n2_ n3_ n4_ n5_ n6_; clear hb hbox hg) | ((with_reducible refine gate_dst (N := 6) rfl ?_); refine bx_ 6 (cs := #[.int .i64 a2_0, .int .i64 a2_1]) (t := 33) ?_; intro gb115 hg w8 hbox hb; have n0_ := Aside0.mk (blk_below (bf BK113.out) hb); have n1_ := Aside0.mk (blk_below (bf BK114.out) hb); have n2_ := Aside0.mk (below_step (lb HB.out) hb); have n3_ := Aside0.mk (hbox); have n4_ := Aside0.mk ((by rw [hg]; exact (below_size (lb HB.out)) : w.heap.size ≤ gb115)); have n5_ := Aside0.mk ((by rw [hg]; exact (below_size (lb HB.out)) : w.heap.size ≤ gb115)); have n6_ := Aside0.mk ((by rw [hg]; exact Nat.ne_of_lt (blk_lt (bf BK113.out)) : gb113 ≠ gb115)); have n7_ := Aside0.mk ((by rw [hg]; exact Nat.ne_of_gt (blk_lt (bf BK113.out)) : gb115 ≠ gb113)); have n8_ := Aside0.mk ((by rw [hg]; exact Nat.ne_of_lt (blk_lt (bf BK114.out)) : gb114 ≠ gb115)); have n9_ := Aside0.mk ((by rw [hg]; exact Nat.ne_of_gt (blk_lt (bf BK114.out)) : gb115 ≠ gb114)); clear BK113; clear BK114; clear HB; have BK113 := n0_; have BK114 := n1_; have HB := n2_; have BK115 := n3_; have GW115 := n4_; have GE115 := n5_; have NB113_115 := n6_; have NB115_113 := n7_; have NB114_115 := n8_; have NB115_114 := n9_; clear n0_ n1_ n2_ n3_ n4_ n5_ n6_ n7_ n8_ n9_; clear hb hbox hg) | ((with_reducible refine gate_dst (N := 7) rfl ?_); refine bx_ 7 (cs := #[.int .i64 a3_0, .int .i64 a3_1]) (t := 33) ?_; intro gb116 hg w9 hbox hb; have n0_ := Aside0.mk (blk_below (bf BK113.out) hb); have n1_ := Aside0.mk (blk_below (bf BK114.out) hb); have n2_ := Aside0.mk (blk_below (bf BK115.out) hb); have n3_ := Aside0.mk (below_step (lb HB.out) hb); have n4_ := Aside0.mk (hbox); have n5_ := Aside0.mk ((by rw [hg]; exact (below_size (lb HB.out)) : w.heap.size ≤ gb116)); have n6_ := Aside0.mk ((by rw [hg]; exact (below_size (lb HB.out)) : w.heap.size ≤ gb116)); have n7_ := Aside0.mk ((by rw [hg]; exact Nat.ne_of_lt (blk_lt (bf BK113.out)) : gb113 ≠ gb116)); have n8_ := Aside0.mk ((by rw [hg]; exact Nat.ne_of_gt (blk_lt (bf BK113.out)) : gb116 ≠ gb113)); have n9_ := Aside0.mk ((by rw [hg]; exact Nat.ne_of_lt (blk_lt (bf BK114.out)) : gb114 ≠ gb116)); have n10_ := Aside0.mk ((by rw [hg]; exact Nat.ne_of_gt (blk_lt (bf BK114.out)) : gb116 ≠ gb114)); have n11_ := Aside0.mk ((by rw [hg]; exact Nat.ne_of_lt (blk_lt (bf BK115.out)) : gb115 ≠ gb116)); have n12_ := Aside0.mk ((by rw [hg]; exact Nat.ne_of_gt (blk_lt (bf BK115.out)) : gb116 ≠ gb115)); clear BK113; clear BK114; clear BK115; clear HB; have BK113 := n0_; have BK114 := n1_; have BK115 := n2_; have HB := n3_; have BK116 := n4_; have GW116 := n5_; have GE116 := n6_; have NB113_116 := n7_; have NB116_113 := n8_; have NB114_116 := n9_; have NB116_114 := n10_; have NB115_116 := n11_; have NB116_115 := n12_; clear n0_ n1_ n2_ n3_ n4_ n5_ n6_ n7_ n8_ n9_ n10_ n11_ n12_; clear hb hbox hg))
 (try simp only [Act.put, List.setIfInBounds_toArray, List.set_cons_zero, List.set_cons_succ])
 go_cut [38] (fun v38 wc => ∃ (kq : Nat) (x38_4 : Bool), v38 = .bool x38_4 ∧ Aside0 (impl_sidesMeet.j0 kq x38_4 a0_0 a0_1 a1_0 a1_1 a2_0 a2_1 a3_0 a3_1 = some r) ∧ Aside0 (kq ≤ k) ∧ Aside0 (wc.heap[gb113]? = some (.cells #[.int .i64 a0_0, .int .i64 a0_1] 33 (0, 0))) ∧ Aside0 (wc.heap[gb114]? = some (.cells #[.int .i64 a1_0, .int .i64 a1_1] 33 (0, 0))) ∧ Aside0 (wc.heap[gb115]? = some (.cells #[.int .i64 a2_0, .int .i64 a2_1] 33 (0, 0))) ∧ Aside0 (wc.heap[gb116]? = some (.cells #[.int .i64 a3_0, .int .i64 a3_1] 33 (0, 0))) ∧ Aside0 (Below w.heap.size w wc))
 case first =>
  have H := HC5.out
  clear HC5
  replace H := Option.bind_eq_some_iff.mp H
  obtain ⟨t117, A100, H⟩ := H
  replace H : (if t117 = true then (impl_sidesMeet.j0 k true a0_0 a0_1 a1_0 a1_1 a2_0 a2_1 a3_0 a3_1) else ((impl_PointOn.f k a0_0 a0_1 a1_0 a1_1 a3_0 a3_1).bind fun t118 => (if t118 = true then (impl_sidesMeet.j0 k true a0_0 a0_1 a1_0 a1_1 a2_0 a2_1 a3_0 a3_1) else ((impl_PointOn.f k a2_0 a2_1 a3_0 a3_1 a0_0 a0_1).bind fun t119 => (if t119 = true then (impl_sidesMeet.j0 k true a0_0 a0_1 a1_0 a1_1 a2_0 a2_1 a3_0 a3_1) else ((impl_PointOn.f k a2_0 a2_1 a3_0 a3_1 a1_0 a1_1).bind fun t120 => (impl_sidesMeet.j0 k t120 a0_0 a0_1 a1_0 a1_1 a2_0 a2_1 a3_0 a3_1))))))) = some r := H
  have A10 := Aside0.mk A100
  clear A100
  by_cases c11 : t117 = true
  ·subst c11
   have H1 : (impl_sidesMeet.j0 k true a0_0 a0_1 a1_0 a1_1 a2_0 a2_1 a3_0 a3_1) = some r := by rw [if_pos rfl] at H; exact H
   clear H
   have H := H1
   clear H1
   have H' := Aside0.mk H
   clear H
   have hnb12 := NB113_114.out
   have hnc12 := NB114_113.out
   have hnb13 := NB113_115.out
   have hnc13 := NB115_113.out
   have hnb14 := NB113_116.out
   have hnc14 := NB116_113.out
   have hcz15_0 : w9.cell? ⟨gb113, 0, none⟩ = some (.int .i64 a0_0) := (blk_cell BK113.out 0).trans rfl
   have hcz15_1 : w9.cell? ⟨gb113, 1, none⟩ = some (.int .i64 a0_1) := (blk_cell BK113.out 1).trans rfl
   have hfz15_0 := blk_frozen BK113.out 0
   have hfz15_1 := blk_frozen BK113.out 1
   have hnb16 := NB114_115.out
   have hnc16 := NB115_114.out
   have hnb17 := NB114_116.out
   have hnc17 := NB116_114.out
   have hcz18_0 : w9.cell? ⟨gb114, 0, none⟩ = some (.int .i64 a1_0) := (blk_cell BK114.out 0).trans rfl
   have hcz18_1 : w9.cell? ⟨gb114, 1, none⟩ = some (.int .i64 a1_1) := (blk_cell BK114.out 1).trans rfl
   have hfz18_0 := blk_frozen BK114.out 0
   have hfz18_1 := blk_frozen BK114.out 1
   have hnb19 := NB115_116.out
   have hnc19 := NB116_115.out
   have hcz20_0 : w9.cell? ⟨gb115, 0, none⟩ = some (.int .i64 a2_0) := (blk_cell BK115.out 0).trans rfl
   have hcz20_1 : w9.cell? ⟨gb115, 1, none⟩ = some (.int .i64 a2_1) := (blk_cell BK115.out 1).trans rfl
   have hfz20_0 := blk_frozen BK115.out 0
   have hfz20_1 := blk_frozen BK115.out 1
   go_wp2_with (first | ((with_reducible refine gate_callee (f := 25) rfl ?_); refine goesL_ (some 20) rfl rfl Try.func25 (by kernel_rfl) rfl #[.agg #[.int .i64 a0_0, .int .i64 a0_1], .agg #[.int .i64 a1_0, .int .i64 a1_1], .agg #[.int .i64 a2_0, .int .i64 a2_1]] rfl al ?_; (with_reducible refine (impl_PointOn.calls k a0_0 a0_1 a1_0 a1_1 a2_0 a2_1 true _ A10.out).mono ?_); rintro e w21 ⟨rfl, hb⟩; refine ⟨_, rfl, ?_⟩; have n0_ := Aside0.mk (blk_below (bf BK113.out) hb); have n1_ := Aside0.mk (blk_below (bf BK114.out) hb); have n2_ := Aside0.mk (blk_below (bf BK115.out) hb); have n3_ := Aside0.mk (blk_below (bf BK116.out) hb); have n4_ := Aside0.mk (below_step (lb HB.out) hb); clear BK113; clear BK114; clear BK115; clear BK116; clear HB; have BK113 := n0_; have BK114 := n1_; have BK115 := n2_; have BK116 := n3_; have HB := n4_; clear n0_ n1_ n2_ n3_ n4_; (try clear hb); (try clear hb2); (try clear hk); (try clear hi)))
   go_meet
   case rel => exact ⟨_, (true), (by first | rfl | (simp; done) | (simp [*]; done)), H', ⟨by first | omega | exact Nat.le_refl _⟩, ⟨bu BK113.out⟩, ⟨bu BK114.out⟩, ⟨bu BK115.out⟩, ⟨bu BK116.out⟩, ⟨lb HB.out⟩⟩
  ·replace c11 := Bool.eq_false_iff.mpr c11
   subst c11
   have H1 : ((impl_PointOn.f k a0_0 a0_1 a1_0 a1_1 a3_0 a3_1).bind fun t118 => (if t118 = true then (impl_sidesMeet.j0 k true a0_0 a0_1 a1_0 a1_1 a2_0 a2_1 a3_0 a3_1) else ((impl_PointOn.f k a2_0 a2_1 a3_0 a3_1 a0_0 a0_1).bind fun t119 => (if t119 = true then (impl_sidesMeet.j0 k true a0_0 a0_1 a1_0 a1_1 a2_0 a2_1 a3_0 a3_1) else ((impl_PointOn.f k a2_0 a2_1 a3_0 a3_1 a1_0 a1_1).bind fun t120 => (impl_sidesMeet.j0 k t120 a0_0 a0_1 a1_0 a1_1 a2_0 a2_1 a3_0 a3_1)))))) = some r := by rw [if_neg (show ¬ (false = true) by decide)] at H; exact H
   clear H
   have H := H1
   clear H1
   replace H := Option.bind_eq_some_iff.mp H
   obtain ⟨t118, A220, H⟩ := H
   replace H : (if t118 = true then (impl_sidesMeet.j0 k true a0_0 a0_1 a1_0 a1_1 a2_0 a2_1 a3_0 a3_1) else ((impl_PointOn.f k a2_0 a2_1 a3_0 a3_1 a0_0 a0_1).bind fun t119 => (if t119 = true then (impl_sidesMeet.j0 k true a0_0 a0_1 a1_0 a1_1 a2_0 a2_1 a3_0 a3_1) else ((impl_PointOn.f k a2_0 a2_1 a3_0 a3_1 a1_0 a1_1).bind fun t120 => (impl_sidesMeet.j0 k t120 a0_0 a0_1 a1_0 a1_1 a2_0 a2_1 a3_0 a3_1))))) = some r := H
   have A22 := Aside0.mk A220
   clear A220
   by_cases c23 : t118 = true
   ·subst c23
    have H1 : (impl_sidesMeet.j0 k true a0_0 a0_1 a1_0 a1_1 a2_0 a2_1 a3_0 a3_1) = some r := by rw [if_pos rfl] at H; exact H
    clear H
    have H := H1
    clear H1
    have H' := Aside0.mk H
    clear H
    have hnb24 := NB113_114.out
    have hnc24 := NB114_113.out
    have hnb25 := NB113_115.out
    have hnc25 := NB115_113.out
    have hnb26 := NB113_116.out
    have hnc26 := NB116_113.out
    have hcz27_0 : w9.cell? ⟨gb113, 0, none⟩ = some (.int .i64 a0_0) := (blk_cell BK113.out 0).trans rfl
    have hcz27_1 : w9.cell? ⟨gb113, 1, none⟩ = some (.int .i64 a0_1) := (blk_cell BK113.out 1).trans rfl
    have hfz27_0 := blk_frozen BK113.out 0
    have hfz27_1 := blk_frozen BK113.out 1
    have hnb28 := NB114_115.out
    have hnc28 := NB115_114.out
    have hnb29 := NB114_116.out
    have hnc29 := NB116_114.out
    have hcz30_0 : w9.cell? ⟨gb114, 0, none⟩ = some (.int .i64 a1_0) := (blk_cell BK114.out 0).trans rfl
    have hcz30_1 : w9.cell? ⟨gb114, 1, none⟩ = some (.int .i64 a1_1) := (blk_cell BK114.out 1).trans rfl
    have hfz30_0 := blk_frozen BK114.out 0
    have hfz30_1 := blk_frozen BK114.out 1
    have hnb31 := NB115_116.out
    have hnc31 := NB116_115.out
    have hcz32_0 : w9.cell? ⟨gb115, 0, none⟩ = some (.int .i64 a2_0) := (blk_cell BK115.out 0).trans rfl
    have hcz32_1 : w9.cell? ⟨gb115, 1, none⟩ = some (.int .i64 a2_1) := (blk_cell BK115.out 1).trans rfl
    have hfz32_0 := blk_frozen BK115.out 0
    have hfz32_1 := blk_frozen BK115.out 1
    go_wp2_with (first | ((with_reducible refine gate_callee (f := 25) rfl ?_); refine goesL_ (some 20) rfl rfl Try.func25 (by kernel_rfl) rfl #[.agg #[.int .i64 a0_0, .int .i64 a0_1], .agg #[.int .i64 a1_0, .int .i64 a1_1], .agg #[.int .i64 a2_0, .int .i64 a2_1]] rfl al ?_; (with_reducible refine (impl_PointOn.calls k a0_0 a0_1 a1_0 a1_1 a2_0 a2_1 false _ A10.out).mono ?_); rintro e w33 ⟨rfl, hb⟩; refine ⟨_, rfl, ?_⟩; have n0_ := Aside0.mk (blk_below (bf BK113.out) hb); have n1_ := Aside0.mk (blk_below (bf BK114.out) hb); have n2_ := Aside0.mk (blk_below (bf BK115.out) hb); have n3_ := Aside0.mk (blk_below (bf BK116.out) hb); have n4_ := Aside0.mk (below_step (lb HB.out) hb); clear BK113; clear BK114; clear BK115; clear BK116; clear HB; have BK113 := n0_; have BK114 := n1_; have BK115 := n2_; have BK116 := n3_; have HB := n4_; clear n0_ n1_ n2_ n3_ n4_; (try clear hb); (try clear hb2); (try clear hk); (try clear hi); have hcz34_0 : w33.cell? ⟨gb113, 0, none⟩ = some (.int .i64 a0_0) := (blk_cell BK113.out 0).trans rfl; have hcz34_1 : w33.cell? ⟨gb113, 1, none⟩ = some (.int .i64 a0_1) := (blk_cell BK113.out 1).trans rfl; have hfz34_0 := blk_frozen BK113.out 0; have hfz34_1 := blk_frozen BK113.out 1; have hcz35_0 : w33.cell? ⟨gb114, 0, none⟩ = some (.int .i64 a1_0) := (blk_cell BK114.out 0).trans rfl; have hcz35_1 : w33.cell? ⟨gb114, 1, none⟩ = some (.int .i64 a1_1) := (blk_cell BK114.out 1).trans rfl; have hfz35_0 := blk_frozen BK114.out 0; have hfz35_1 := blk_frozen BK114.out 1; have hcz36_0 : w33.cell? ⟨gb116, 0, none⟩ = some (.int .i64 a3_0) := (blk_cell BK116.out 0).trans rfl; have hcz36_1 : w33.cell? ⟨gb116, 1, none⟩ = some (.int .i64 a3_1) := (blk_cell BK116.out 1).trans rfl; have hfz36_0 := blk_frozen BK116.out 0; have hfz36_1 := blk_frozen BK116.out 1) | (go_at_call 25; (with_reducible refine (impl_PointOn.calls k a0_0 a0_1 a1_0 a1_1 a3_0 a3_1 true _ A22.out).mono ?_); rintro e w37 ⟨rfl, hb⟩; have n0_ := Aside0.mk (blk_below (bf BK113.out) hb); have n1_ := Aside0.mk (blk_below (bf BK114.out) hb); have n2_ := Aside0.mk (blk_below (bf BK115.out) hb); have n3_ := Aside0.mk (blk_below (bf BK116.out) hb); have n4_ := Aside0.mk (below_step (lb HB.out) hb); clear BK113; clear BK114; clear BK115; clear BK116; clear HB; have BK113 := n0_; have BK114 := n1_; have BK115 := n2_; have BK116 := n3_; have HB := n4_; clear n0_ n1_ n2_ n3_ n4_; (try clear hb); (try clear hb2); (try clear hk); (try clear hi)))
    go_meet
    case rel => exact ⟨_, (true), (by first | rfl | (simp; done) | (simp [*]; done)), H', ⟨by first | omega | exact Nat.le_refl _⟩, ⟨bu BK113.out⟩, ⟨bu BK114.out⟩, ⟨bu BK115.out⟩, ⟨bu BK116.out⟩, ⟨lb HB.out⟩⟩
   ·replace c23 := Bool.eq_false_iff.mpr c23
    subst c23
    have H1 : ((impl_PointOn.f k a2_0 a2_1 a3_0 a3_1 a0_0 a0_1).bind fun t119 => (if t119 = true then (impl_sidesMeet.j0 k true a0_0 a0_1 a1_0 a1_1 a2_0 a2_1 a3_0 a3_1) else ((impl_PointOn.f k a2_0 a2_1 a3_0 a3_1 a1_0 a1_1).bind fun t120 => (impl_sidesMeet.j0 k t120 a0_0 a0_1 a1_0 a1_1 a2_0 a2_1 a3_0 a3_1)))) = some r := by rw [if_neg (show ¬ (false = true) by decide)] at H; exact H
    clear H
    have H := H1
    clear H1
    replace H := Option.bind_eq_some_iff.mp H
    obtain ⟨t119, A380, H⟩ := H
    replace H : (if t119 = true then (impl_sidesMeet.j0 k true a0_0 a0_1 a1_0 a1_1 a2_0 a2_1 a3_0 a3_1) else ((impl_PointOn.f k a2_0 a2_1 a3_0 a3_1 a1_0 a1_1).bind fun t120 => (impl_sidesMeet.j0 k t120 a0_0 a0_1 a1_0 a1_1 a2_0 a2_1 a3_0 a3_1))) = some r := H
    have A38 := Aside0.mk A380
    clear A380
    by_cases c39 : t119 = true
    ·subst c39
     have H1 : (impl_sidesMeet.j0 k true a0_0 a0_1 a1_0 a1_1 a2_0 a2_1 a3_0 a3_1) = some r := by rw [if_pos rfl] at H; exact H
     clear H
     have H := H1
     clear H1
     have H' := Aside0.mk H
     clear H
     have hnb40 := NB113_114.out
     have hnc40 := NB114_113.out
     have hnb41 := NB113_115.out
     have hnc41 := NB115_113.out
     have hnb42 := NB113_116.out
     have hnc42 := NB116_113.out
     have hcz43_0 : w9.cell? ⟨gb113, 0, none⟩ = some (.int .i64 a0_0) := (blk_cell BK113.out 0).trans rfl
     have hcz43_1 : w9.cell? ⟨gb113, 1, none⟩ = some (.int .i64 a0_1) := (blk_cell BK113.out 1).trans rfl
     have hfz43_0 := blk_frozen BK113.out 0
     have hfz43_1 := blk_frozen BK113.out 1
     have hnb44 := NB114_115.out
     have hnc44 := NB115_114.out
     have hnb45 := NB114_116.out
     have hnc45 := NB116_114.out
     have hcz46_0 : w9.cell? ⟨gb114, 0, none⟩ = some (.int .i64 a1_0) := (blk_cell BK114.out 0).trans rfl
     have hcz46_1 : w9.cell? ⟨gb114, 1, none⟩ = some (.int .i64 a1_1) := (blk_cell BK114.out 1).trans rfl
     have hfz46_0 := blk_frozen BK114.out 0
     have hfz46_1 := blk_frozen BK114.out 1
     have hnb47 := NB115_116.out
     have hnc47 := NB116_115.out
     have hcz48_0 : w9.cell? ⟨gb115, 0, none⟩ = some (.int .i64 a2_0) := (blk_cell BK115.out 0).trans rfl
     have hcz48_1 : w9.cell? ⟨gb115, 1, none⟩ = some (.int .i64 a2_1) := (blk_cell BK115.out 1).trans rfl
     have hfz48_0 := blk_frozen BK115.out 0
     have hfz48_1 := blk_frozen BK115.out 1
     go_wp2_with (first | ((with_reducible refine gate_callee (f := 25) rfl ?_); refine goesL_ (some 20) rfl rfl Try.func25 (by kernel_rfl) rfl #[.agg #[.int .i64 a0_0, .int .i64 a0_1], .agg #[.int .i64 a1_0, .int .i64 a1_1], .agg #[.int .i64 a2_0, .int .i64 a2_1]] rfl al ?_; (with_reducible refine (impl_PointOn.calls k a0_0 a0_1 a1_0 a1_1 a2_0 a2_1 false _ A10.out).mono ?_); rintro e w49 ⟨rfl, hb⟩; refine ⟨_, rfl, ?_⟩; have n0_ := Aside0.mk (blk_below (bf BK113.out) hb); have n1_ := Aside0.mk (blk_below (bf BK114.out) hb); have n2_ := Aside0.mk (blk_below (bf BK115.out) hb); have n3_ := Aside0.mk (blk_below (bf BK116.out) hb); have n4_ := Aside0.mk (below_step (lb HB.out) hb); clear BK113; clear BK114; clear BK115; clear BK116; clear HB; have BK113 := n0_; have BK114 := n1_; have BK115 := n2_; have BK116 := n3_; have HB := n4_; clear n0_ n1_ n2_ n3_ n4_; (try clear hb); (try clear hb2); (try clear hk); (try clear hi); have hcz50_0 : w49.cell? ⟨gb113, 0, none⟩ = some (.int .i64 a0_0) := (blk_cell BK113.out 0).trans rfl; have hcz50_1 : w49.cell? ⟨gb113, 1, none⟩ = some (.int .i64 a0_1) := (blk_cell BK113.out 1).trans rfl; have hfz50_0 := blk_frozen BK113.out 0; have hfz50_1 := blk_frozen BK113.out 1; have hcz51_0 : w49.cell? ⟨gb114, 0, none⟩ = some (.int .i64 a1_0) := (blk_cell BK114.out 0).trans rfl; have hcz51_1 : w49.cell? ⟨gb114, 1, none⟩ = some (.int .i64 a1_1) := (blk_cell BK114.out 1).trans rfl; have hfz51_0 := blk_frozen BK114.out 0; have hfz51_1 := blk_frozen BK114.out 1; have hcz52_0 : w49.cell? ⟨gb116, 0, none⟩ = some (.int .i64 a3_0) := (blk_cell BK116.out 0).trans rfl; have hcz52_1 : w49.cell? ⟨gb116, 1, none⟩ = some (.int .i64 a3_1) := (blk_cell BK116.out 1).trans rfl; have hfz52_0 := blk_frozen BK116.out 0; have hfz52_1 := blk_frozen BK116.out 1) | (go_at_call 25; (with_reducible refine (impl_PointOn.calls k a0_0 a0_1 a1_0 a1_1 a3_0 a3_1 false _ A22.out).mono ?_); rintro e w53 ⟨rfl, hb⟩; have n0_ := Aside0.mk (blk_below (bf BK113.out) hb); have n1_ := Aside0.mk (blk_below (bf BK114.out) hb); have n2_ := Aside0.mk (blk_below (bf BK115.out) hb); have n3_ := Aside0.mk (blk_below (bf BK116.out) hb); have n4_ := Aside0.mk (below_step (lb HB.out) hb); clear BK113; clear BK114; clear BK115; clear BK116; clear HB; have BK113 := n0_; have BK114 := n1_; have BK115 := n2_; have BK116 := n3_; have HB := n4_; clear n0_ n1_ n2_ n3_ n4_; (try clear hb); (try clear hb2); (try clear hk); (try clear hi); have hcz54_0 : w53.cell? ⟨gb115, 0, none⟩ = some (.int .i64 a2_0) := (blk_cell BK115.out 0).trans rfl; have hcz54_1 : w53.cell? ⟨gb115, 1, none⟩ = some (.int .i64 a2_1) := (blk_cell BK115.out 1).trans rfl; have hfz54_0 := blk_frozen BK115.out 0; have hfz54_1 := blk_frozen BK115.out 1; have hcz55_0 : w53.cell? ⟨gb116, 0, none⟩ = some (.int .i64 a3_0) := (blk_cell BK116.out 0).trans rfl; have hcz55_1 : w53.cell? ⟨gb116, 1, none⟩ = some (.int .i64 a3_1) := (blk_cell BK116.out 1).trans rfl; have hfz55_0 := blk_frozen BK116.out 0; have hfz55_1 := blk_frozen BK116.out 1; have hcz56_0 : w53.cell? ⟨gb113, 0, none⟩ = some (.int .i64 a0_0) := (blk_cell BK113.out 0).trans rfl; have hcz56_1 : w53.cell? ⟨gb113, 1, none⟩ = some (.int .i64 a0_1) := (blk_cell BK113.out 1).trans rfl; have hfz56_0 := blk_frozen BK113.out 0; have hfz56_1 := blk_frozen BK113.out 1) | (go_at_call 25; (with_reducible refine (impl_PointOn.calls k a2_0 a2_1 a3_0 a3_1 a0_0 a0_1 true _ A38.out).mono ?_); rintro e w57 ⟨rfl, hb⟩; have n0_ := Aside0.mk (blk_below (bf BK113.out) hb); have n1_ := Aside0.mk (blk_below (bf BK114.out) hb); have n2_ := Aside0.mk (blk_below (bf BK115.out) hb); have n3_ := Aside0.mk (blk_below (bf BK116.out) hb); have n4_ := Aside0.mk (below_step (lb HB.out) hb); clear BK113; clear BK114; clear BK115; clear BK116; clear HB; have BK113 := n0_; have BK114 := n1_; have BK115 := n2_; have BK116 := n3_; have HB := n4_; clear n0_ n1_ n2_ n3_ n4_; (try clear hb); (try clear hb2); (try clear hk); (try clear hi)))
     go_meet
     case rel => exact ⟨_, (true), (by first | rfl | (simp; done) | (simp [*]; done)), H', ⟨by first | omega | exact Nat.le_refl _⟩, ⟨bu BK113.out⟩, ⟨bu BK114.out⟩, ⟨bu BK115.out⟩, ⟨bu BK116.out⟩, ⟨lb HB.out⟩⟩
    ·replace c39 := Bool.eq_false_iff.mpr c39
     subst c39
     have H1 : ((impl_PointOn.f k a2_0 a2_1 a3_0 a3_1 a1_0 a1_1).bind fun t120 => (impl_sidesMeet.j0 k t120 a0_0 a0_1 a1_0 a1_1 a2_0 a2_1 a3_0 a3_1)) = some r := by rw [if_neg (show ¬ (false = true) by decide)] at H; exact H
     clear H
     have H := H1
     clear H1
     replace H := Option.bind_eq_some_iff.mp H
     obtain ⟨t120, A580, H⟩ := H
     replace H : (impl_sidesMeet.j0 k t120 a0_0 a0_1 a1_0 a1_1 a2_0 a2_1 a3_0 a3_1) = some r := H
     have A58 := Aside0.mk A580
     clear A580
     have H' := Aside0.mk H
     clear H
     have hnb59 := NB113_114.out
     have hnc59 := NB114_113.out
     have hnb60 := NB113_115.out
     have hnc60 := NB115_113.out
     have hnb61 := NB113_116.out
     have hnc61 := NB116_113.out
     have hcz62_0 : w9.cell? ⟨gb113, 0, none⟩ = some (.int .i64 a0_0) := (blk_cell BK113.out 0).trans rfl
     have hcz62_1 : w9.cell? ⟨gb113, 1, none⟩ = some (.int .i64 a0_1) := (blk_cell BK113.out 1).trans rfl
     have hfz62_0 := blk_frozen BK113.out 0
     have hfz62_1 := blk_frozen BK113.out 1
     have hnb63 := NB114_115.out
     have hnc63 := NB115_114.out
     have hnb64 := NB114_116.out
     have hnc64 := NB116_114.out
     have hcz65_0 : w9.cell? ⟨gb114, 0, none⟩ = some (.int .i64 a1_0) := (blk_cell BK114.out 0).trans rfl
     have hcz65_1 : w9.cell? ⟨gb114, 1, none⟩ = some (.int .i64 a1_1) := (blk_cell BK114.out 1).trans rfl
     have hfz65_0 := blk_frozen BK114.out 0
     have hfz65_1 := blk_frozen BK114.out 1
     have hnb66 := NB115_116.out
     have hnc66 := NB116_115.out
     have hcz67_0 : w9.cell? ⟨gb115, 0, none⟩ = some (.int .i64 a2_0) := (blk_cell BK115.out 0).trans rfl
     have hcz67_1 : w9.cell? ⟨gb115, 1, none⟩ = some (.int .i64 a2_1) := (blk_cell BK115.out 1).trans rfl
     have hfz67_0 := blk_frozen BK115.out 0
     have hfz67_1 := blk_frozen BK115.out 1
     go_wp2_with (first | ((with_reducible refine gate_callee (f := 25) rfl ?_); refine goesL_ (some 20) rfl rfl Try.func25 (by kernel_rfl) rfl #[.agg #[.int .i64 a0_0, .int .i64 a0_1], .agg #[.int .i64 a1_0, .int .i64 a1_1], .agg #[.int .i64 a2_0, .int .i64 a2_1]] rfl al ?_; (with_reducible refine (impl_PointOn.calls k a0_0 a0_1 a1_0 a1_1 a2_0 a2_1 false _ A10.out).mono ?_); rintro e w68 ⟨rfl, hb⟩; refine ⟨_, rfl, ?_⟩; have n0_ := Aside0.mk (blk_below (bf BK113.out) hb); have n1_ := Aside0.mk (blk_below (bf BK114.out) hb); have n2_ := Aside0.mk (blk_below (bf BK115.out) hb); have n3_ := Aside0.mk (blk_below (bf BK116.out) hb); have n4_ := Aside0.mk (below_step (lb HB.out) hb); clear BK113; clear BK114; clear BK115; clear BK116; clear HB; have BK113 := n0_; have BK114 := n1_; have BK115 := n2_; have BK116 := n3_; have HB := n4_; clear n0_ n1_ n2_ n3_ n4_; (try clear hb); (try clear hb2); (try clear hk); (try clear hi); have hcz69_0 : w68.cell? ⟨gb113, 0, none⟩ = some (.int .i64 a0_0) := (blk_cell BK113.out 0).trans rfl; have hcz69_1 : w68.cell? ⟨gb113, 1, none⟩ = some (.int .i64 a0_1) := (blk_cell BK113.out 1).trans rfl; have hfz69_0 := blk_frozen BK113.out 0; have hfz69_1 := blk_frozen BK113.out 1; have hcz70_0 : w68.cell? ⟨gb114, 0, none⟩ = some (.int .i64 a1_0) := (blk_cell BK114.out 0).trans rfl; have hcz70_1 : w68.cell? ⟨gb114, 1, none⟩ = some (.int .i64 a1_1) := (blk_cell BK114.out 1).trans rfl; have hfz70_0 := blk_frozen BK114.out 0; have hfz70_1 := blk_frozen BK114.out 1; have hcz71_0 : w68.cell? ⟨gb116, 0, none⟩ = some (.int .i64 a3_0) := (blk_cell BK116.out 0).trans rfl; have hcz71_1 : w68.cell? ⟨gb116, 1, none⟩ = some (.int .i64 a3_1) := (blk_cell BK116.out 1).trans rfl; have hfz71_0 := blk_frozen BK116.out 0; have hfz71_1 := blk_frozen BK116.out 1) | (go_at_call 25; (with_reducible refine (impl_PointOn.calls k a0_0 a0_1 a1_0 a1_1 a3_0 a3_1 false _ A22.out).mono ?_); rintro e w72 ⟨rfl, hb⟩; have n0_ := Aside0.mk (blk_below (bf BK113.out) hb); have n1_ := Aside0.mk (blk_below (bf BK114.out) hb); have n2_ := Aside0.mk (blk_below (bf BK115.out) hb); have n3_ := Aside0.mk (blk_below (bf BK116.out) hb); have n4_ := Aside0.mk (below_step (lb HB.out) hb); clear BK113; clear BK114; clear BK115; clear BK116; clear HB; have BK113 := n0_; have BK114 := n1_; have BK115 := n2_; have BK116 := n3_; have HB := n4_; clear n0_ n1_ n2_ n3_ n4_; (try clear hb); (try clear hb2); (try clear hk); (try clear hi); have hcz73_0 : w72.cell? ⟨gb115, 0, none⟩ = some (.int .i64 a2_0) := (blk_cell BK115.out 0).trans rfl; have hcz73_1 : w72.cell? ⟨gb115, 1, none⟩ = some (.int .i64 a2_1) := (blk_cell BK115.out 1).trans rfl; have hfz73_0 := blk_frozen BK115.out 0; have hfz73_1 := blk_frozen BK115.out 1; have hcz74_0 : w72.cell? ⟨gb116, 0, none⟩ = some (.int .i64 a3_0) := (blk_cell BK116.out 0).trans rfl; have hcz74_1 : w72.cell? ⟨gb116, 1, none⟩ = some (.int .i64 a3_1) := (blk_cell BK116.out 1).trans rfl; have hfz74_0 := blk_frozen BK116.out 0; have hfz74_1 := blk_frozen BK116.out 1; have hcz75_0 : w72.cell? ⟨gb113, 0, none⟩ = some (.int .i64 a0_0) := (blk_cell BK113.out 0).trans rfl; have hcz75_1 : w72.cell? ⟨gb113, 1, none⟩ = some (.int .i64 a0_1) := (blk_cell BK113.out 1).trans rfl; have hfz75_0 := blk_frozen BK113.out 0; have hfz75_1 := blk_frozen BK113.out 1) | (go_at_call 25; (with_reducible refine (impl_PointOn.calls k a2_0 a2_1 a3_0 a3_1 a0_0 a0_1 false _ A38.out).mono ?_); rintro e w76 ⟨rfl, hb⟩; have n0_ := Aside0.mk (blk_below (bf BK113.out) hb); have n1_ := Aside0.mk (blk_below (bf BK114.out) hb); have n2_ := Aside0.mk (blk_below (bf BK115.out) hb); have n3_ := Aside0.mk (blk_below (bf BK116.out) hb); have n4_ := Aside0.mk (below_step (lb HB.out) hb); clear BK113; clear BK114; clear BK115; clear BK116; clear HB; have BK113 := n0_; have BK114 := n1_; have BK115 := n2_; have BK116 := n3_; have HB := n4_; clear n0_ n1_ n2_ n3_ n4_; (try clear hb); (try clear hb2); (try clear hk); (try clear hi); have hcz77_0 : w76.cell? ⟨gb115, 0, none⟩ = some (.int .i64 a2_0) := (blk_cell BK115.out 0).trans rfl; have hcz77_1 : w76.cell? ⟨gb115, 1, none⟩ = some (.int .i64 a2_1) := (blk_cell BK115.out 1).trans rfl; have hfz77_0 := blk_frozen BK115.out 0; have hfz77_1 := blk_frozen BK115.out 1; have hcz78_0 : w76.cell? ⟨gb116, 0, none⟩ = some (.int .i64 a3_0) := (blk_cell BK116.out 0).trans rfl; have hcz78_1 : w76.cell? ⟨gb116, 1, none⟩ = some (.int .i64 a3_1) := (blk_cell BK116.out 1).trans rfl; have hfz78_0 := blk_frozen BK116.out 0; have hfz78_1 := blk_frozen BK116.out 1; have hcz79_0 : w76.cell? ⟨gb114, 0, none⟩ = some (.int .i64 a1_0) := (blk_cell BK114.out 0).trans rfl; have hcz79_1 : w76.cell? ⟨gb114, 1, none⟩ = some (.int .i64 a1_1) := (blk_cell BK114.out 1).trans rfl; have hfz79_0 := blk_frozen BK114.out 0; have hfz79_1 := blk_frozen BK114.out 1) | (go_at_call 25; (with_reducible refine (impl_PointOn.calls k a2_0 a2_1 a3_0 a3_1 a1_0 a1_1 t120 _ A58.out).mono ?_); rintro e w80 ⟨rfl, hb⟩; have n0_ := Aside0.mk (blk_below (bf BK113.out) hb); have n1_ := Aside0.mk (blk_below (bf BK114.out) hb); have n2_ := Aside0.mk (blk_below (bf BK115.out) hb); have n3_ := Aside0.mk (blk_below (bf BK116.out) hb); have n4_ := Aside0.mk (below_step (lb HB.out) hb); clear BK113; clear BK114; clear BK115; clear BK116; clear HB; have BK113 := n0_; have BK114 := n1_; have BK115 := n2_; have BK116 := n3_; have HB := n4_; clear n0_ n1_ n2_ n3_ n4_; (try clear hb); (try clear hb2); (try clear hk); (try clear hi)))
     go_meet
     case rel => exact ⟨_, (t120), (by first | rfl | (simp; done) | (simp [*]; done)), H', ⟨by first | omega | exact Nat.le_refl _⟩, ⟨bu BK113.out⟩, ⟨bu BK114.out⟩, ⟨bu BK115.out⟩, ⟨bu BK116.out⟩, ⟨lb HB.out⟩⟩
 case rest =>
  clear HC5
  try clear c1
  try clear c2
  try clear p2
  try clear c3
  try clear c4
  try clear c5
  try clear c6
  try clear c9
  try clear c11
  try clear c12
  try clear c13
  try clear c14
  try clear c16
  try clear c17
  try clear c19
  try clear c23
  try clear c24
  try clear c25
  try clear c26
  try clear c28
  try clear c29
  try clear c31
  try clear c39
  try clear c40
  try clear c41
  try clear c42
  try clear c44
  try clear c45
  try clear c47
  try clear c59
  try clear c60
  try clear c61
  try clear c63
  try clear c64
  try clear c66
  try clear hcz15_0
  try clear hcz15_1
  try clear hcz18_0
  try clear hcz18_1
  try clear hcz20_0
  try clear hcz20_1
  try clear hcz27_0
  try clear hcz27_1
  try clear hcz30_0
  try clear hcz30_1
  try clear hcz32_0
  try clear hcz32_1
  try clear hcz34_0
  try clear hcz34_1
  try clear hcz35_0
  try clear hcz35_1
  try clear hcz36_0
  try clear hcz36_1
  try clear hcz43_0
  try clear hcz43_1
  try clear hcz46_0
  try clear hcz46_1
  try clear hcz48_0
  try clear hcz48_1
  try clear hcz50_0
  try clear hcz50_1
  try clear hcz51_0
  try clear hcz51_1
  try clear hcz52_0
  try clear hcz52_1
  try clear hcz54_0
  try clear hcz54_1
  try clear hcz55_0
  try clear hcz55_1
  try clear hcz56_0
  try clear hcz56_1
  try clear hcz62_0
  try clear hcz62_1
  try clear hcz65_0
  try clear hcz65_1
  try clear hcz67_0
  try clear hcz67_1
  try clear hcz69_0
  try clear hcz69_1
  try clear hcz70_0
  try clear hcz70_1
  try clear hcz71_0
  try clear hcz71_1
  try clear hcz73_0
  try clear hcz73_1
  try clear hcz74_0
  try clear hcz74_1
  try clear hcz75_0
  try clear hcz75_1
  try clear hcz77_0
  try clear hcz77_1
  try clear hcz78_0
  try clear hcz78_1
  try clear hcz79_0
  try clear hcz79_1
  try clear hfz15_0
  try clear hfz15_1
  try clear hfz18_0
  try clear hfz18_1
  try clear hfz20_0
  try clear hfz20_1
  try clear hfz27_0
  try clear hfz27_1
  try clear hfz30_0
  try clear hfz30_1
  try clear hfz32_0
  try clear hfz32_1
  try clear hfz34_0
  try clear hfz34_1
  try clear hfz35_0
  try clear hfz35_1
  try clear hfz36_0
  try clear hfz36_1
  try clear hfz43_0
  try clear hfz43_1
  try clear hfz46_0
  try clear hfz46_1
  try clear hfz48_0
  try clear hfz48_1
  try clear hfz50_0
  try clear hfz50_1
  try clear hfz51_0
  try clear hfz51_1
  try clear hfz52_0
  try clear hfz52_1
  try clear hfz54_0
  try clear hfz54_1
  try clear hfz55_0
  try clear hfz55_1
  try clear hfz56_0
  try clear hfz56_1
  try clear hfz62_0
  try clear hfz62_1
  try clear hfz65_0
  try clear hfz65_1
  try clear hfz67_0
  try clear hfz67_1
  try clear hfz69_0
  try clear hfz69_1
  try clear hfz70_0
  try clear hfz70_1
  try clear hfz71_0
  try clear hfz71_1
  try clear hfz73_0
  try clear hfz73_1
  try clear hfz74_0
  try clear hfz74_1
  try clear hfz75_0
  try clear hfz75_1
  try clear hfz77_0
  try clear hfz77_1
  try clear hfz78_0
  try clear hfz78_1
  try clear hfz79_0
  try clear hfz79_1
  obtain ⟨kq, x38_4, rfl, HA, HJ4, BK113, BK114, BK115, BK116, HB⟩ := hcut
  cases kq with
  | zero => exact absurd HA.out (by simp [impl_sidesMeet.j0])
  | succ kj4 =>
   have H := HA.out
   clear HA
   simp only [impl_sidesMeet.j0] at H
   by_cases c81 : x38_4 = true
   ·subst c81
    have H1 : (some true) = some r := by rw [if_pos rfl] at H; exact H
    clear H
    have H := H1
    clear H1
    obtain rfl := Option.some.inj H
    go_wp2
    go_ret
    exact ⟨er, lb HB.out⟩
   ·replace c81 := Bool.eq_false_iff.mpr c81
    subst c81
    have H1 : ((impl_PointSide.f a0_0 a0_1 a1_0 a1_1 a2_0 a2_1).bind fun bt121 => ((impl_PointSide.f a0_0 a0_1 a1_0 a1_1 a3_0 a3_1).bind fun bt123 => ((impl_PointSide.f a2_0 a2_1 a3_0 a3_1 a0_0 a0_1).bind fun bt125 => ((impl_PointSide.f a2_0 a2_1 a3_0 a3_1 a1_0 a1_1).bind fun bt127 => (if (wrap64 (bt121.1 * bt123.1)) < 0 then (some (decide ((wrap64 (bt125.1 * bt127.1)) < 0))) else (some false)))))) = some r := by rw [if_neg (show ¬ (false = true) by decide)] at H; exact H
    clear H
    have H := H1
    clear H1
    replace H := Option.bind_eq_some_iff.mp H
    obtain ⟨⟨t121, t122⟩, A820, H⟩ := H
    replace H : ((impl_PointSide.f a0_0 a0_1 a1_0 a1_1 a3_0 a3_1).bind fun bt123 => ((impl_PointSide.f a2_0 a2_1 a3_0 a3_1 a0_0 a0_1).bind fun bt125 => ((impl_PointSide.f a2_0 a2_1 a3_0 a3_1 a1_0 a1_1).bind fun bt127 => (if (wrap64 (t121 * bt123.1)) < 0 then (some (decide ((wrap64 (bt125.1 * bt127.1)) < 0))) else (some false))))) = some r := H
    have A82 := Aside0.mk A820
    clear A820
    replace H := Option.bind_eq_some_iff.mp H
    obtain ⟨⟨t123, t124⟩, A830, H⟩ := H
    replace H : ((impl_PointSide.f a2_0 a2_1 a3_0 a3_1 a0_0 a0_1).bind fun bt125 => ((impl_PointSide.f a2_0 a2_1 a3_0 a3_1 a1_0 a1_1).bind fun bt127 => (if (wrap64 (t121 * t123)) < 0 then (some (decide ((wrap64 (bt125.1 * bt127.1)) < 0))) else (some false)))) = some r := H
    have A83 := Aside0.mk A830
    clear A830
    replace H := Option.bind_eq_some_iff.mp H
    obtain ⟨⟨t125, t126⟩, A840, H⟩ := H
    replace H : ((impl_PointSide.f a2_0 a2_1 a3_0 a3_1 a1_0 a1_1).bind fun bt127 => (if (wrap64 (t121 * t123)) < 0 then (some (decide ((wrap64 (t125 * bt127.1)) < 0))) else (some false))) = some r := H
    have A84 := Aside0.mk A840
    clear A840
    replace H := Option.bind_eq_some_iff.mp H
    obtain ⟨⟨t127, t128⟩, A850, H⟩ := H
    replace H : (if (wrap64 (t121 * t123)) < 0 then (some (decide ((wrap64 (t125 * t127)) < 0))) else (some false)) = some r := H
    have A85 := Aside0.mk A850
    clear A850
    by_cases c86 : (wrap64 (t121 * t123)) < 0
    ·rw [if_pos c86] at H
     have c86b0 : decide ((wrap64 (t121 * t123)) < 0) = true := decide_eq_true c86
     clear c86
     obtain rfl := Option.some.inj H
     have hnb87 := NB113_114.out
     have hnc87 := NB114_113.out
     have hnb88 := NB113_115.out
     have hnc88 := NB115_113.out
     have hnb89 := NB113_116.out
     have hnc89 := NB116_113.out
     have hcz90_0 : wc.cell? ⟨gb113, 0, none⟩ = some (.int .i64 a0_0) := (blk_cell BK113.out 0).trans rfl
     have hcz90_1 : wc.cell? ⟨gb113, 1, none⟩ = some (.int .i64 a0_1) := (blk_cell BK113.out 1).trans rfl
     have hfz90_0 := blk_frozen BK113.out 0
     have hfz90_1 := blk_frozen BK113.out 1
     have hnb91 := NB114_115.out
     have hnc91 := NB115_114.out
     have hnb92 := NB114_116.out
     have hnc92 := NB116_114.out
     have hcz93_0 : wc.cell? ⟨gb114, 0, none⟩ = some (.int .i64 a1_0) := (blk_cell BK114.out 0).trans rfl
     have hcz93_1 : wc.cell? ⟨gb114, 1, none⟩ = some (.int .i64 a1_1) := (blk_cell BK114.out 1).trans rfl
     have hfz93_0 := blk_frozen BK114.out 0
     have hfz93_1 := blk_frozen BK114.out 1
     have hnb94 := NB115_116.out
     have hnc94 := NB116_115.out
     have hcz95_0 : wc.cell? ⟨gb115, 0, none⟩ = some (.int .i64 a2_0) := (blk_cell BK115.out 0).trans rfl
     have hcz95_1 : wc.cell? ⟨gb115, 1, none⟩ = some (.int .i64 a2_1) := (blk_cell BK115.out 1).trans rfl
     have hfz95_0 := blk_frozen BK115.out 0
     have hfz95_1 := blk_frozen BK115.out 1
     go_wp2_with (first | ((with_reducible refine gate_callee (f := 54) rfl ?_); refine goesL_ (some 43) rfl rfl Try.func54 (by kernel_rfl) rfl #[.agg #[.int .i64 a0_0, .int .i64 a0_1], .agg #[.int .i64 a1_0, .int .i64 a1_1], .agg #[.int .i64 a2_0, .int .i64 a2_1]] rfl al ?_; (with_reducible refine (impl_PointSide.calls a0_0 a0_1 a1_0 a1_1 a2_0 a2_1 t121 t122 _ A82.out).mono ?_); rintro e w96 ⟨rfl, hb⟩; refine ⟨_, rfl, ?_⟩; have n0_ := Aside0.mk (blk_below (bf BK113.out) hb); have n1_ := Aside0.mk (blk_below (bf BK114.out) hb); have n2_ := Aside0.mk (blk_below (bf BK115.out) hb); have n3_ := Aside0.mk (blk_below (bf BK116.out) hb); have n4_ := Aside0.mk (below_step (lb HB.out) hb); clear BK113; clear BK114; clear BK115; clear BK116; clear HB; have BK113 := n0_; have BK114 := n1_; have BK115 := n2_; have BK116 := n3_; have HB := n4_; clear n0_ n1_ n2_ n3_ n4_; (try clear hb); (try clear hb2); (try clear hk); (try clear hi); have hcz97_0 : w96.cell? ⟨gb113, 0, none⟩ = some (.int .i64 a0_0) := (blk_cell BK113.out 0).trans rfl; have hcz97_1 : w96.cell? ⟨gb113, 1, none⟩ = some (.int .i64 a0_1) := (blk_cell BK113.out 1).trans rfl; have hfz97_0 := blk_frozen BK113.out 0; have hfz97_1 := blk_frozen BK113.out 1; have hcz98_0 : w96.cell? ⟨gb114, 0, none⟩ = some (.int .i64 a1_0) := (blk_cell BK114.out 0).trans rfl; have hcz98_1 : w96.cell? ⟨gb114, 1, none⟩ = some (.int .i64 a1_1) := (blk_cell BK114.out 1).trans rfl; have hfz98_0 := blk_frozen BK114.out 0; have hfz98_1 := blk_frozen BK114.out 1; have hcz99_0 : w96.cell? ⟨gb116, 0, none⟩ = some (.int .i64 a3_0) := (blk_cell BK116.out 0).trans rfl; have hcz99_1 : w96.cell? ⟨gb116, 1, none⟩ = some (.int .i64 a3_1) := (blk_cell BK116.out 1).trans rfl; have hfz99_0 := blk_frozen BK116.out 0; have hfz99_1 := blk_frozen BK116.out 1) | ((with_reducible refine gate_callee (f := 54) rfl ?_); refine goesL_ (some 50) rfl rfl Try.func54 (by kernel_rfl) rfl #[.agg #[.int .i64 a0_0, .int .i64 a0_1], .agg #[.int .i64 a1_0, .int .i64 a1_1], .agg #[.int .i64 a3_0, .int .i64 a3_1]] rfl al ?_; (with_reducible refine (impl_PointSide.calls a0_0 a0_1 a1_0 a1_1 a3_0 a3_1 t123 t124 _ A83.out).mono ?_); rintro e w100 ⟨rfl, hb⟩; refine ⟨_, rfl, ?_⟩; have n0_ := Aside0.mk (blk_below (bf BK113.out) hb); have n1_ := Aside0.mk (blk_below (bf BK114.out) hb); have n2_ := Aside0.mk (blk_below (bf BK115.out) hb); have n3_ := Aside0.mk (blk_below (bf BK116.out) hb); have n4_ := Aside0.mk (below_step (lb HB.out) hb); clear BK113; clear BK114; clear BK115; clear BK116; clear HB; have BK113 := n0_; have BK114 := n1_; have BK115 := n2_; have BK116 := n3_; have HB := n4_; clear n0_ n1_ n2_ n3_ n4_; (try clear hb); (try clear hb2); (try clear hk); (try clear hi); have hcz101_0 : w100.cell? ⟨gb115, 0, none⟩ = some (.int .i64 a2_0) := (blk_cell BK115.out 0).trans rfl; have hcz101_1 : w100.cell? ⟨gb115, 1, none⟩ = some (.int .i64 a2_1) := (blk_cell BK115.out 1).trans rfl; have hfz101_0 := blk_frozen BK115.out 0; have hfz101_1 := blk_frozen BK115.out 1; have hcz102_0 : w100.cell? ⟨gb116, 0, none⟩ = some (.int .i64 a3_0) := (blk_cell BK116.out 0).trans rfl; have hcz102_1 : w100.cell? ⟨gb116, 1, none⟩ = some (.int .i64 a3_1) := (blk_cell BK116.out 1).trans rfl; have hfz102_0 := blk_frozen BK116.out 0; have hfz102_1 := blk_frozen BK116.out 1; have hcz103_0 : w100.cell? ⟨gb113, 0, none⟩ = some (.int .i64 a0_0) := (blk_cell BK113.out 0).trans rfl; have hcz103_1 : w100.cell? ⟨gb113, 1, none⟩ = some (.int .i64 a0_1) := (blk_cell BK113.out 1).trans rfl; have hfz103_0 := blk_frozen BK113.out 0; have hfz103_1 := blk_frozen BK113.out 1) | ((with_reducible refine gate_callee (f := 54) rfl ?_); refine goesL_ (some 57) rfl rfl Try.func54 (by kernel_rfl) rfl #[.agg #[.int .i64 a2_0, .int .i64 a2_1], .agg #[.int .i64 a3_0, .int .i64 a3_1], .agg #[.int .i64 a0_0, .int .i64 a0_1]] rfl al ?_; (with_reducible refine (impl_PointSide.calls a2_0 a2_1 a3_0 a3_1 a0_0 a0_1 t125 t126 _ A84.out).mono ?_); rintro e w104 ⟨rfl, hb⟩; refine ⟨_, rfl, ?_⟩; have n0_ := Aside0.mk (blk_below (bf BK113.out) hb); have n1_ := Aside0.mk (blk_below (bf BK114.out) hb); have n2_ := Aside0.mk (blk_below (bf BK115.out) hb); have n3_ := Aside0.mk (blk_below (bf BK116.out) hb); have n4_ := Aside0.mk (below_step (lb HB.out) hb); clear BK113; clear BK114; clear BK115; clear BK116; clear HB; have BK113 := n0_; have BK114 := n1_; have BK115 := n2_; have BK116 := n3_; have HB := n4_; clear n0_ n1_ n2_ n3_ n4_; (try clear hb); (try clear hb2); (try clear hk); (try clear hi); have hcz105_0 : w104.cell? ⟨gb115, 0, none⟩ = some (.int .i64 a2_0) := (blk_cell BK115.out 0).trans rfl; have hcz105_1 : w104.cell? ⟨gb115, 1, none⟩ = some (.int .i64 a2_1) := (blk_cell BK115.out 1).trans rfl; have hfz105_0 := blk_frozen BK115.out 0; have hfz105_1 := blk_frozen BK115.out 1; have hcz106_0 : w104.cell? ⟨gb116, 0, none⟩ = some (.int .i64 a3_0) := (blk_cell BK116.out 0).trans rfl; have hcz106_1 : w104.cell? ⟨gb116, 1, none⟩ = some (.int .i64 a3_1) := (blk_cell BK116.out 1).trans rfl; have hfz106_0 := blk_frozen BK116.out 0; have hfz106_1 := blk_frozen BK116.out 1; have hcz107_0 : w104.cell? ⟨gb114, 0, none⟩ = some (.int .i64 a1_0) := (blk_cell BK114.out 0).trans rfl; have hcz107_1 : w104.cell? ⟨gb114, 1, none⟩ = some (.int .i64 a1_1) := (blk_cell BK114.out 1).trans rfl; have hfz107_0 := blk_frozen BK114.out 0; have hfz107_1 := blk_frozen BK114.out 1) | ((with_reducible refine gate_callee (f := 54) rfl ?_); refine goesL_ (some 64) rfl rfl Try.func54 (by kernel_rfl) rfl #[.agg #[.int .i64 a2_0, .int .i64 a2_1], .agg #[.int .i64 a3_0, .int .i64 a3_1], .agg #[.int .i64 a1_0, .int .i64 a1_1]] rfl al ?_; (with_reducible refine (impl_PointSide.calls a2_0 a2_1 a3_0 a3_1 a1_0 a1_1 t127 t128 _ A85.out).mono ?_); rintro e w108 ⟨rfl, hb⟩; refine ⟨_, rfl, ?_⟩; have n0_ := Aside0.mk (blk_below (bf BK113.out) hb); have n1_ := Aside0.mk (blk_below (bf BK114.out) hb); have n2_ := Aside0.mk (blk_below (bf BK115.out) hb); have n3_ := Aside0.mk (blk_below (bf BK116.out) hb); have n4_ := Aside0.mk (below_step (lb HB.out) hb); clear BK113; clear BK114; clear BK115; clear BK116; clear HB; have BK113 := n0_; have BK114 := n1_; have BK115 := n2_; have BK116 := n3_; have HB := n4_; clear n0_ n1_ n2_ n3_ n4_; (try clear hb); (try clear hb2); (try clear hk); (try clear hi)))
     go_ret
     exact ⟨er, lb HB.out⟩
    ·rw [if_neg c86] at H
     have c86b0 : decide ((wrap64 (t121 * t123)) < 0) = false := decide_eq_false c86
     clear c86
     obtain rfl := Option.some.inj H
     have hnb109 := NB113_114.out
     have hnc109 := NB114_113.out
     have hnb110 := NB113_115.out
     have hnc110 := NB115_113.out
     have hnb111 := NB113_116.out
     have hnc111 := NB116_113.out
     have hcz112_0 : wc.cell? ⟨gb113, 0, none⟩ = some (.int .i64 a0_0) := (blk_cell BK113.out 0).trans rfl
     have hcz112_1 : wc.cell? ⟨gb113, 1, none⟩ = some (.int .i64 a0_1) := (blk_cell BK113.out 1).trans rfl
     have hfz112_0 := blk_frozen BK113.out 0
     have hfz112_1 := blk_frozen BK113.out 1
     have hnb113 := NB114_115.out
     have hnc113 := NB115_114.out
     have hnb114 := NB114_116.out
     have hnc114 := NB116_114.out
     have hcz115_0 : wc.cell? ⟨gb114, 0, none⟩ = some (.int .i64 a1_0) := (blk_cell BK114.out 0).trans rfl
     have hcz115_1 : wc.cell? ⟨gb114, 1, none⟩ = some (.int .i64 a1_1) := (blk_cell BK114.out 1).trans rfl
     have hfz115_0 := blk_frozen BK114.out 0
     have hfz115_1 := blk_frozen BK114.out 1
     have hnb116 := NB115_116.out
     have hnc116 := NB116_115.out
     have hcz117_0 : wc.cell? ⟨gb115, 0, none⟩ = some (.int .i64 a2_0) := (blk_cell BK115.out 0).trans rfl
     have hcz117_1 : wc.cell? ⟨gb115, 1, none⟩ = some (.int .i64 a2_1) := (blk_cell BK115.out 1).trans rfl
     have hfz117_0 := blk_frozen BK115.out 0
     have hfz117_1 := blk_frozen BK115.out 1
     go_wp2_with (first | ((with_reducible refine gate_callee (f := 54) rfl ?_); refine goesL_ (some 43) rfl rfl Try.func54 (by kernel_rfl) rfl #[.agg #[.int .i64 a0_0, .int .i64 a0_1], .agg #[.int .i64 a1_0, .int .i64 a1_1], .agg #[.int .i64 a2_0, .int .i64 a2_1]] rfl al ?_; (with_reducible refine (impl_PointSide.calls a0_0 a0_1 a1_0 a1_1 a2_0 a2_1 t121 t122 _ A82.out).mono ?_); rintro e w118 ⟨rfl, hb⟩; refine ⟨_, rfl, ?_⟩; have n0_ := Aside0.mk (blk_below (bf BK113.out) hb); have n1_ := Aside0.mk (blk_below (bf BK114.out) hb); have n2_ := Aside0.mk (blk_below (bf BK115.out) hb); have n3_ := Aside0.mk (blk_below (bf BK116.out) hb); have n4_ := Aside0.mk (below_step (lb HB.out) hb); clear BK113; clear BK114; clear BK115; clear BK116; clear HB; have BK113 := n0_; have BK114 := n1_; have BK115 := n2_; have BK116 := n3_; have HB := n4_; clear n0_ n1_ n2_ n3_ n4_; (try clear hb); (try clear hb2); (try clear hk); (try clear hi); have hcz119_0 : w118.cell? ⟨gb113, 0, none⟩ = some (.int .i64 a0_0) := (blk_cell BK113.out 0).trans rfl; have hcz119_1 : w118.cell? ⟨gb113, 1, none⟩ = some (.int .i64 a0_1) := (blk_cell BK113.out 1).trans rfl; have hfz119_0 := blk_frozen BK113.out 0; have hfz119_1 := blk_frozen BK113.out 1; have hcz120_0 : w118.cell? ⟨gb114, 0, none⟩ = some (.int .i64 a1_0) := (blk_cell BK114.out 0).trans rfl; have hcz120_1 : w118.cell? ⟨gb114, 1, none⟩ = some (.int .i64 a1_1) := (blk_cell BK114.out 1).trans rfl; have hfz120_0 := blk_frozen BK114.out 0; have hfz120_1 := blk_frozen BK114.out 1; have hcz121_0 : w118.cell? ⟨gb116, 0, none⟩ = some (.int .i64 a3_0) := (blk_cell BK116.out 0).trans rfl; have hcz121_1 : w118.cell? ⟨gb116, 1, none⟩ = some (.int .i64 a3_1) := (blk_cell BK116.out 1).trans rfl; have hfz121_0 := blk_frozen BK116.out 0; have hfz121_1 := blk_frozen BK116.out 1) | ((with_reducible refine gate_callee (f := 54) rfl ?_); refine goesL_ (some 50) rfl rfl Try.func54 (by kernel_rfl) rfl #[.agg #[.int .i64 a0_0, .int .i64 a0_1], .agg #[.int .i64 a1_0, .int .i64 a1_1], .agg #[.int .i64 a3_0, .int .i64 a3_1]] rfl al ?_; (with_reducible refine (impl_PointSide.calls a0_0 a0_1 a1_0 a1_1 a3_0 a3_1 t123 t124 _ A83.out).mono ?_); rintro e w122 ⟨rfl, hb⟩; refine ⟨_, rfl, ?_⟩; have n0_ := Aside0.mk (blk_below (bf BK113.out) hb); have n1_ := Aside0.mk (blk_below (bf BK114.out) hb); have n2_ := Aside0.mk (blk_below (bf BK115.out) hb); have n3_ := Aside0.mk (blk_below (bf BK116.out) hb); have n4_ := Aside0.mk (below_step (lb HB.out) hb); clear BK113; clear BK114; clear BK115; clear BK116; clear HB; have BK113 := n0_; have BK114 := n1_; have BK115 := n2_; have BK116 := n3_; have HB := n4_; clear n0_ n1_ n2_ n3_ n4_; (try clear hb); (try clear hb2); (try clear hk); (try clear hi); have hcz123_0 : w122.cell? ⟨gb115, 0, none⟩ = some (.int .i64 a2_0) := (blk_cell BK115.out 0).trans rfl; have hcz123_1 : w122.cell? ⟨gb115, 1, none⟩ = some (.int .i64 a2_1) := (blk_cell BK115.out 1).trans rfl; have hfz123_0 := blk_frozen BK115.out 0; have hfz123_1 := blk_frozen BK115.out 1; have hcz124_0 : w122.cell? ⟨gb116, 0, none⟩ = some (.int .i64 a3_0) := (blk_cell BK116.out 0).trans rfl; have hcz124_1 : w122.cell? ⟨gb116, 1, none⟩ = some (.int .i64 a3_1) := (blk_cell BK116.out 1).trans rfl; have hfz124_0 := blk_frozen BK116.out 0; have hfz124_1 := blk_frozen BK116.out 1; have hcz125_0 : w122.cell? ⟨gb113, 0, none⟩ = some (.int .i64 a0_0) := (blk_cell BK113.out 0).trans rfl; have hcz125_1 : w122.cell? ⟨gb113, 1, none⟩ = some (.int .i64 a0_1) := (blk_cell BK113.out 1).trans rfl; have hfz125_0 := blk_frozen BK113.out 0; have hfz125_1 := blk_frozen BK113.out 1) | ((with_reducible refine gate_callee (f := 54) rfl ?_); refine goesL_ (some 57) rfl rfl Try.func54 (by kernel_rfl) rfl #[.agg #[.int .i64 a2_0, .int .i64 a2_1], .agg #[.int .i64 a3_0, .int .i64 a3_1], .agg #[.int .i64 a0_0, .int .i64 a0_1]] rfl al ?_; (with_reducible refine (impl_PointSide.calls a2_0 a2_1 a3_0 a3_1 a0_0 a0_1 t125 t126 _ A84.out).mono ?_); rintro e w126 ⟨rfl, hb⟩; refine ⟨_, rfl, ?_⟩; have n0_ := Aside0.mk (blk_below (bf BK113.out) hb); have n1_ := Aside0.mk (blk_below (bf BK114.out) hb); have n2_ := Aside0.mk (blk_below (bf BK115.out) hb); have n3_ := Aside0.mk (blk_below (bf BK116.out) hb); have n4_ := Aside0.mk (below_step (lb HB.out) hb); clear BK113; clear BK114; clear BK115; clear BK116; clear HB; have BK113 := n0_; have BK114 := n1_; have BK115 := n2_; have BK116 := n3_; have HB := n4_; clear n0_ n1_ n2_ n3_ n4_; (try clear hb); (try clear hb2); (try clear hk); (try clear hi); have hcz127_0 : w126.cell? ⟨gb115, 0, none⟩ = some (.int .i64 a2_0) := (blk_cell BK115.out 0).trans rfl; have hcz127_1 : w126.cell? ⟨gb115, 1, none⟩ = some (.int .i64 a2_1) := (blk_cell BK115.out 1).trans rfl; have hfz127_0 := blk_frozen BK115.out 0; have hfz127_1 := blk_frozen BK115.out 1; have hcz128_0 : w126.cell? ⟨gb116, 0, none⟩ = some (.int .i64 a3_0) := (blk_cell BK116.out 0).trans rfl; have hcz128_1 : w126.cell? ⟨gb116, 1, none⟩ = some (.int .i64 a3_1) := (blk_cell BK116.out 1).trans rfl; have hfz128_0 := blk_frozen BK116.out 0; have hfz128_1 := blk_frozen BK116.out 1; have hcz129_0 : w126.cell? ⟨gb114, 0, none⟩ = some (.int .i64 a1_0) := (blk_cell BK114.out 0).trans rfl; have hcz129_1 : w126.cell? ⟨gb114, 1, none⟩ = some (.int .i64 a1_1) := (blk_cell BK114.out 1).trans rfl; have hfz129_0 := blk_frozen BK114.out 0; have hfz129_1 := blk_frozen BK114.out 1) | ((with_reducible refine gate_callee (f := 54) rfl ?_); refine goesL_ (some 64) rfl rfl Try.func54 (by kernel_rfl) rfl #[.agg #[.int .i64 a2_0, .int .i64 a2_1], .agg #[.int .i64 a3_0, .int .i64 a3_1], .agg #[.int .i64 a1_0, .int .i64 a1_1]] rfl al ?_; (with_reducible refine (impl_PointSide.calls a2_0 a2_1 a3_0 a3_1 a1_0 a1_1 t127 t128 _ A85.out).mono ?_); rintro e w130 ⟨rfl, hb⟩; refine ⟨_, rfl, ?_⟩; have n0_ := Aside0.mk (blk_below (bf BK113.out) hb); have n1_ := Aside0.mk (blk_below (bf BK114.out) hb); have n2_ := Aside0.mk (blk_below (bf BK115.out) hb); have n3_ := Aside0.mk (blk_below (bf BK116.out) hb); have n4_ := Aside0.mk (below_step (lb HB.out) hb); clear BK113; clear BK114; clear BK115; clear BK116; clear HB; have BK113 := n0_; have BK114 := n1_; have BK115 := n2_; have BK116 := n3_; have HB := n4_; clear n0_ n1_ n2_ n3_ n4_; (try clear hb); (try clear hb2); (try clear hk); (try clear hi)))
     go_ret
     exact ⟨er, lb HB.out⟩
def meetB (ax ay bx by_ cx cy dx dy : Int) : Bool := onB ax ay bx by_ cx cy || (onB ax ay bx by_ dx dy || (onB cx cy dx dy ax ay || (onB cx cy dx dy bx by_ || (decide (wrap64 ((sdP ax ay bx by_ cx cy).1 * (sdP ax ay bx by_ dx dy).1) < 0) && decide (wrap64 ((sdP cx cy dx dy ax ay).1 * (sdP cx cy dx dy bx by_).1) < 0)))))
theorem meetB_f (ax ay bx by_ cx cy dx dy : Int) : impl_sidesMeet.f 1 ax ay bx by_ cx cy dx dy = some (meetB ax ay bx by_ cx cy dx dy) := by
 unfold impl_sidesMeet.f meetB
 simp only [onB_f, Option.bind_some, impl_sidesMeet.j0, impl_PointSide.f]
 generalize onB ax ay bx by_ cx cy = o1
 generalize onB ax ay bx by_ dx dy = o2
 generalize onB cx cy dx dy ax ay = o3
 generalize onB cx cy dx dy bx by_ = o4
 cases o1 <;> cases o2 <;> cases o3 <;> cases o4 <;> simp
 split
 ·next h => simp [h]
 ·next h => simp [h]
def sameP (X Y : Nat → Int) (i j : Nat) : Prop := X i = X j ∧ Y i = Y j
def foldB (X Y : Nat → Int) (n i : Nat) : Bool := onB (X i) (Y i) (X ((i + 1) % n)) (Y ((i + 1) % n)) (X ((i + 2) % n)) (Y ((i + 2) % n)) || onB (X ((i + 1) % n)) (Y ((i + 1) % n)) (X ((i + 2) % n)) (Y ((i + 2) % n)) (X i) (Y i)
def sideB (X Y : Nat → Int) (n i j : Nat) : Bool := meetB (X i) (Y i) (X ((i + 1) % n)) (Y ((i + 1) % n)) (X j) (Y j) (X ((j + 1) % n)) (Y ((j + 1) % n))
def Simp (X Y : Nat → Int) (n : Nat) : Prop := (∀ i, i < n → ∀ j, 0 < j → j < n → ¬ sameP X Y ((i + j) % n) i) ∧ ∀ i, i < n → foldB X Y n i = false ∧ ∀ j, 2 ≤ j → j + 1 < n → sideB X Y n i ((i + j) % n) = false
theorem next_mod (i n : Nat) : (i % n + 1) % n = (i + 1) % n := by rw [Nat.mod_add_mod]
theorem add_ne_mod {i j n : Nat} (hi : i < n) (h0 : 0 < j) (hj : j < n) : (i + j) % n ≠ i := by
 intro h
 by_cases hlt : i + j < n
 ·rw [Nat.mod_eq_of_lt hlt] at h; omega
 ·rw [Nat.mod_eq_sub_mod (by omega), Nat.mod_eq_of_lt (by omega)] at h; omega
def plSimple15.T : Bool × List (List Nat × List Nat) := (true,[([],[]),([0],[0]),([1],[1]),([2],[2]),([],[]),([4],[4]),([5],[5]),([6],[6]),([7],[7]),([8],[8]),([9],[9]),([],[]),([11],[11]),([12],[12]),([13],[13]),([],[]),([15],[15]),([16],[16]),([17],[17]),([18],[18]),([19],[19]),([20],[20]),([3,10,14,21],[3,10,14,21])])
def plSimple15.B : List Nat := [0,1,3,7,0,16,48,112,240,496,1008,0,2048,6144,14336,0,32768,98304,229376,491520,1015808,2064384,4194303]
theorem plSimple15.tab : rtab .any (opsOf Try.f72 15) = plSimple15.T := by kernel_rfl
theorem plSimple15.bits : waitsOk plSimple15.T.2 plSimple15.B = true := by kernel_rfl
theorem plSimple15.both : rtab .any (opsOf Try.f72 15) = plSimple15.T ∧ waitsOk plSimple15.T.2 plSimple15.B = true := ⟨plSimple15.tab, plSimple15.bits⟩
def plSimple6.T : Bool × List (List Nat × List Nat) := (true,[([],[]),([0],[0]),([1],[1]),([2],[2]),([],[]),([4],[4]),([5],[5]),([6],[6]),([3,7],[3,7])])
def plSimple6.B : List Nat := [0,1,3,7,0,16,48,112,255]
theorem plSimple6.tab : rtab .any (opsOf Try.f72 6) = plSimple6.T := by kernel_rfl
theorem plSimple6.bits : waitsOk plSimple6.T.2 plSimple6.B = true := by kernel_rfl
theorem plSimple6.both : rtab .any (opsOf Try.f72 6) = plSimple6.T ∧ waitsOk plSimple6.T.2 plSimple6.B = true := ⟨plSimple6.tab, plSimple6.bits⟩
section
attribute [local go_sem] Oper.semAt_some
attribute [local go_sem high] eqA33
set_option maxHeartbeats 16000000 in
set_option maxRecDepth 100000 in
theorem simple_calls (n : Nat) (bs : Nat → Nat) (X Y : Nat → Int) (w : World) (hn : n ≤ 1000) (hn3 : 3 ≤ n) (hR : Ring w w.heap.size n bs X Y) (b : Bool) (hb : b = true ↔ Simp X Y n) :
  Calls Try.prog 72 #[.agg #[.pointer (some ⟨bs 0, 0, none⟩), .int .i64 (n : Int)]] w fun e w' => e = .returned (.bool b) ∧ Below w.heap.size w w' := by
 have HR := Aside0.mk hR
 have HM := Aside0.mk (Hd.nil w)
 have HB0 := Aside0.mk hb
 have hpos := hR.pos
 clear hR hb
 refine pl_enter Try.func72 rfl ?_
 simp only [Try.ntmps72, List.size_toArray, List.length_cons, List.length_nil, Nat.reduceAdd, Nat.reduceSub, Array.replicate_succ, Array.replicate_zero, List.push_toArray, List.append_toArray, List.nil_append, List.cons_append]
 go_upto_region 1 with ((with_reducible refine gate_dst (N := 1) rfl ?_); refine bx_ 1 (cs := #[.pointer (some ⟨bs 0, 0, none⟩), .int .i64 (n : Int)]) (t := 58) ?_; intro g1 e_ w1 b_ hb; replace HM := Aside0.mk (HM.out.box hb b_ e_); clear e_ b_ hb)
 replace HM := Aside0.mk (HM.out.alloc #[.bool false] 4)
 generalize w1.alloc (.cells #[.bool false] 4) = w2 at *
 generalize w1.heap.size = gr at *
 have c0 : w2.cell? ⟨g1, 0, none⟩ = some (.pointer (some ⟨bs 0, 0, none⟩)) := blk_cell HM.out.a1 0
 have c1 : w2.cell? ⟨g1, 1, none⟩ = some (.int .i64 (n : Int)) := blk_cell HM.out.a1 1
 go_wp2_with fail
 clear c0 c1
 have hgs : w.heap.size ≤ gr := (HM.out.2.1 (gr, #[.bool false], 4) (by simp)).1
 have hgs2 : gr < w2.heap.size := blk_lt HM.out.a0
 have hg1 : w.heap.size ≤ g1 := (HM.out.2.1 (g1, #[.pointer (some ⟨bs 0, 0, none⟩), .int .i64 (n : Int)], 58) (by simp)).1
 have hg1r : g1 < gr := HM.out.below (e := (g1, #[.pointer (some ⟨bs 0, 0, none⟩), .int .i64 (n : Int)], 58)) (by simp)
 have hw2 := HM.out.1.size
 have hR2 := HR.out.below HM.out.1
 refine pl_range (gf := 46) rfl (fun args w => enters_ Try.func46 (by kernel_rfl) rfl args w) w.heap.size n hw2 _ (corners_walks w.heap.size n bs X Y w2 hn hw2 hR2)
  (fun i W => (W.heap[gr]? = some (.cells #[.bool false] 4 (0, 0)) ∧ W.heap[g1]? = some (.cells #[.pointer (some ⟨bs 0, 0, none⟩), .int .i64 (n : Int)] 58 (0, 0))) ∧ Below w.heap.size w W ∧ ∀ i' j, i' < i → 0 < j → j < n → ¬ sameP X Y ((i' + j) % n) i')
  (fun i W => W.heap[gr]? = some (.cells #[.bool false] 4 (0, 0)) ∧ Below w.heap.size w W ∧ b = false)
  (OwnFrom.and (OwnFrom.and (own_block (fun _ => rfl)) (own_block (fun _ => rfl))) (OwnFrom.and (ownFrom_below (Nat.le_refl _) hw2) (ownFrom_pure _ _)))
  (OwnFrom.and (own_block (fun _ => rfl)) (OwnFrom.and (ownFrom_below (Nat.le_refl _) hw2) (ownFrom_pure _ _))) ⟨⟨HM.out.a0, HM.out.a1⟩, HM.out.1, fun _ _ h => absurd h (Nat.not_lt_zero _)⟩
  (fun i => { tmps := #[.agg #[.pointer (some ⟨bs 0, 0, none⟩), .int .i64 (n : Int)], .pointer (some ⟨g1, 0, none⟩), .pointer (some ⟨gr, 0, none⟩), .pointer (some ⟨bs i, 0, none⟩), undef, undef, undef, .agg #[.pointer (some ⟨bs 0, 0, none⟩), .int .i64 (n : Int)], .func (.func 46) #[.agg #[.pointer (some ⟨bs 0, 0, none⟩), .int .i64 (n : Int)]] #[], .pointer (some ⟨bs i, 0, none⟩), undef, undef, undef, undef, undef, undef, undef, undef, undef, undef, undef, undef, undef, undef, undef, undef, undef, undef, undef, undef, undef, undef, undef, undef, undef, undef, undef, undef, undef, undef, undef, undef, undef, undef, undef, undef, undef, undef, undef, undef, undef, undef, undef, undef, undef, undef, undef, undef, undef, undef, undef, undef, undef, undef, undef, undef, undef, undef, undef, undef, undef, undef, undef, undef, undef], defers := [] }) ?_ ?_ ?_ ?_
 ·intro l i W K hK
  exact pl_assign hK
 ·rintro l i W hi ⟨⟨hS, hS1⟩, hB, hP⟩
  have HPP := Aside0.mk hP
  have HRW := Aside0.mk (HR.out.below hB)
  have hi1 : (i + 1) % n < n := Nat.mod_lt _ hpos
  have HK : Aside0 (Rd w W W w2.heap.size gr (.cells #[.bool false] 4 (0, 0))) := ⟨⟨hS, hB, Below.refl _ _, KeepsFrom.refl _ _⟩⟩
  have HS1 := Aside0.mk hS1
  have n2 : W.cell? ⟨bs i, 2, none⟩ = some (.pointer (some ⟨bs ((i + 1) % n), 0, none⟩)) := (blk_cell (HRW.out.cell i hi) 2).trans rfl
  clear hS hS1 hB hP HM hR2
  gi_wp2
  gi_loopg [4] (n - 1) (fun kq v4 wr => ∃ j : Nat, v4 = .pointer (some ⟨bs ((i + j) % n), 0, none⟩) ∧ 0 < j ∧ Aside0 (j + kq = n) ∧ Aside0 (Rd w W wr w2.heap.size gr (.cells #[.bool false] 4 (0, 0))) ∧ Aside0 (Ring wr w.heap.size n bs X Y) ∧ Aside0 (wr.heap[g1]? = some (.cells #[.pointer (some ⟨bs 0, 0, none⟩), .int .i64 (n : Int)] 58 (0, 0))) ∧ Aside0 (∀ j', 0 < j' → j' < j → ¬ sameP X Y ((i + j') % n) i))
  case atStart => exact ⟨1, rfl, by omega, ⟨by omega⟩, HK, HRW, HS1, ⟨fun j' h1 h2 => by omega⟩⟩
  case round =>
   clear HK HRW HS1 n2
   obtain ⟨j, rfl, hj0, HJ, HK, HRW, HS1, HN⟩ := hrel
   have hjk := HJ.out
   have hq : (i + j) % n < n := Nat.mod_lt _ hpos
   by_cases hjn : j < n
   ·have hne : bs ((i + j) % n) ≠ bs i := fun e => add_ne_mod hi hj0 hjn (HRW.out.inj _ _ hq hi e)
    have hne' : (bs ((i + j) % n) = bs i) = False := eq_false hne
    cases gk with
    | zero => exfalso; omega
    | succ gk =>
     have hop := ptr_neq (bs ((i + j) % n)) (bs i) wr _ _ _ _ (HRW.out.cell _ hq) (HRW.out.cell i hi)
     rw [decide_eq_false hne] at hop
     gi_wp2
     clear hop
     replace HRW := Aside0.mk (HRW.out.below ((below_drew1 (Below.refl _ wr)).mono HK.out.2.1.size))
     replace HK := Aside0.mk HK.out.drew
     refine pl_start (S := fun w' => w'.cell? ⟨bs ((i + j) % n), 0, none⟩ = some (.int .i64 (X ((i + j) % n))) ∧ w'.cell? ⟨bs ((i + j) % n), 1, none⟩ = some (.int .i64 (Y ((i + j) % n))) ∧ w'.cell? ⟨bs i, 0, none⟩ = some (.int .i64 (X i)) ∧ w'.cell? ⟨bs i, 1, none⟩ = some (.int .i64 (Y i))) (ds := []) #[false,false,false,false,false,false,false,false,false] (by kernel_rfl) (noDefer_all (by kernel_rfl)) (fun ⟨_, _, h⟩ => h) rfl rfl ⟨(blk_cell (HRW.out.cell _ hq) 0).trans rfl, (blk_cell (HRW.out.cell _ hq) 1).trans rfl, (blk_cell (HRW.out.cell i hi) 0).trans rfl, (blk_cell (HRW.out.cell i hi) 1).trans rfl⟩ (fun hHeld => ?_)
     refine with_tabW plSimple6.both.1 plSimple6.both.2 (fun HT_ HW_ => ?_)
     refine pq_ 0 (some 21) ?_
     refine pq_ 1 (some 22) ?_
     refine pq_ 2 (some 23) ?_
     refine tq_ 3 (some 24) ?_
     refine pq_ 4 (some 25) ?_
     refine pq_ 5 (some 26) ?_
     refine pq_ 6 (some 27) ?_
     refine tq_ 7 (some 28) ?_
     refine pq_ 8 (some 29) ?_
     refine done_ (done_of HT_.out (by kernel_rfl)) ?_
     have hmb : b = false ∨ (X ((i + j) % n) == X i && (Y ((i + j) % n) == Y i)) = false := by
      cases hsb : (X ((i + j) % n) == X i && (Y ((i + j) % n) == Y i)) with
      | false => exact .inr rfl
      | true =>
       refine .inl ?_
       rw [Bool.and_eq_true, beq_iff_eq, beq_iff_eq] at hsb
       cases hbb : b with
       | false => rfl
       | true => exact absurd hsb ((HB0.out.1 hbb).1 i hi j hj0 hjn)
     have hms : (X ((i + j) % n) == X i && (Y ((i + j) % n) == Y i)) = false → ¬ sameP X Y ((i + j) % n) i := by
      intro h hs
      rw [hs.1, hs.2] at h
      simp at h
     have HMS := Aside0.mk hms
     clear hms
     replace HS1 := Aside0.mk (blk_drew HS1.out)
     generalize (X ((i + j) % n) == X i && (Y ((i + j) % n) == Y i)) = sb at hmb HMS ⊢
     generalize wr.drew = wd at HK HRW HS1 ⊢
     have n2 : wd.cell? ⟨bs ((i + j) % n), 2, none⟩ = some (.pointer (some ⟨bs (((i + j) % n + 1) % n), 0, none⟩)) := (blk_cell (HRW.out.cell _ hq) 2).trans rfl
     have r0 : wd.cell? ⟨gr, 0, none⟩ = some (.bool false) := blk_cell HK.out.1 0
     have rf := blk_frozen HK.out.1 0
     cases sb with
     | true =>
      gi_wp2
      have HK2 := HK.out.put hgs 0 (.bool false) rfl
      exact ⟨HK2.2.2.2, HK2.1, HK2.2.1, by rcases hmb with h | h; exact h; cases h⟩
     | false =>
      gi_wp2
      gi_roundg gk
      case measure => omega
      case rel =>
       exact ⟨j + 1, by first | rfl | rw [next_mod, Nat.add_assoc], by omega, ⟨by omega⟩, HK, HRW, HS1, ⟨fun j' h1 h2 => by
        by_cases e : j' = j
        ·subst e; first | exact HMS.out rfl | exact HMS.out trivial
        ·exact HN.out j' h1 (by omega)⟩⟩
   ·have e1 : (i + j) % n = i := by rw [show j = n by omega, Nat.add_mod_right, Nat.mod_eq_of_lt hi]
    rw [e1]
    have hop := ptr_neq (bs i) (bs i) wr _ _ _ _ (HRW.out.cell i hi) (HRW.out.cell i hi)
    rw [decide_eq_true rfl] at hop
    gi_wp2
    refine ⟨HK.out.2.2.2, HK.out.2.2.1, ⟨HK.out.1, HS1.out⟩, HK.out.2.1, fun i' j' h1 h2 h3 => ?_⟩
    by_cases e : i' = i
    ·subst e; exact HN.out j' h2 (by omega)
    ·exact HPP.out i' j' (by omega) h2 h3
 ·rintro D W hD ⟨⟨hS, hS1⟩, hB, hP⟩ hdef
  have HDIF := Aside0.mk hP
  have HRB := Aside0.mk (HR.out.below hB)
  have c0 : W.cell? ⟨g1, 0, none⟩ = some (.pointer (some ⟨bs 0, 0, none⟩)) := blk_cell hS1 0
  have c1 : W.cell? ⟨g1, 1, none⟩ = some (.int .i64 (n : Int)) := blk_cell hS1 1
  have HSX := Aside0.mk hS
  have HBX := Aside0.mk hB
  have HDX := Aside0.mk hdef
  clear hS hS1 hB hP HM hR2 hdef
  go_wp2_with fail
  clear c0 c1
  have hWw := HBX.out.size
  have hDW : D < W.heap.size := (Array.getElem?_eq_some_iff.1 HDX.out).1
  have hWw2 : w2.heap.size ≤ W.heap.size := by omega
  refine pl_range (gf := 46) rfl (fun args w => enters_ Try.func46 (by kernel_rfl) rfl args w) w.heap.size n hWw _ (corners_walks w.heap.size n bs X Y W hn hWw HRB.out)
   (fun i W => W.heap[gr]? = some (.cells #[.bool false] 4 (0, 0)) ∧ W.heap[D]? = some (.deferred (some [])) ∧ Below w.heap.size w W ∧ ∀ i', i' < i → foldB X Y n i' = false ∧ ∀ j, 2 ≤ j → j + 1 < n → sideB X Y n i' ((i' + j) % n) = false)
   (fun i W => W.heap[gr]? = some (.cells #[.bool false] 4 (0, 0)) ∧ W.heap[D]? = some (.deferred (some [])) ∧ Below w.heap.size w W ∧ b = false)
   (OwnFrom.and (own_block (fun _ => rfl)) (OwnFrom.and (own_low hDW) (OwnFrom.and (ownFrom_below (Nat.le_refl _) hWw) (ownFrom_pure _ _))))
   (OwnFrom.and (own_block (fun _ => rfl)) (OwnFrom.and (own_low hDW) (OwnFrom.and (ownFrom_below (Nat.le_refl _) hWw) (ownFrom_pure _ _)))) ⟨HSX.out, HDX.out, HBX.out, fun _ h => absurd h (Nat.not_lt_zero _)⟩
   (fun i => { tmps := #[.agg #[.pointer (some ⟨bs 0, 0, none⟩), .int .i64 (n : Int)], .pointer (some ⟨g1, 0, none⟩), .pointer (some ⟨gr, 0, none⟩), undef, undef, .pointer (some ⟨bs i, 0, none⟩), undef, .agg #[.pointer (some ⟨bs 0, 0, none⟩), .int .i64 (n : Int)], .func (.func 46) #[.agg #[.pointer (some ⟨bs 0, 0, none⟩), .int .i64 (n : Int)]] #[], undef, undef, undef, undef, undef, undef, undef, undef, undef, undef, undef, undef, undef, undef, undef, undef, undef, undef, undef, undef, undef, .agg #[.pointer (some ⟨bs 0, 0, none⟩), .int .i64 (n : Int)], .func (.func 46) #[.agg #[.pointer (some ⟨bs 0, 0, none⟩), .int .i64 (n : Int)]] #[], .pointer (some ⟨bs i, 0, none⟩), undef, undef, undef, undef, undef, undef, undef, undef, undef, undef, undef, undef, undef, undef, undef, undef, undef, undef, undef, undef, undef, undef, undef, undef, undef, undef, undef, undef, undef, undef, undef, undef, undef, undef, undef, undef, undef, undef, undef, undef, undef, undef], defers := [] }) ?_ ?_ ?_ ?_
  ·intro l i W K hK
   exact pl_assign hK
  ·rintro l i Wr hi ⟨hS, hDf, hB, hP⟩
   have HPP := Aside0.mk hP
   have HRW := Aside0.mk (HR.out.below hB)
   have hi1 : (i + 1) % n < n := Nat.mod_lt _ hpos
   have hi2 : (i + 2) % n < n := Nat.mod_lt _ hpos
   have HK : Aside0 (Rd w Wr Wr w2.heap.size gr (.cells #[.bool false] 4 (0, 0))) := ⟨⟨hS, hB, Below.refl _ _, KeepsFrom.refl _ _⟩⟩
   have HDR := Aside0.mk hDf
   have HDR0 := Aside0.mk hDf
   clear hS hDf hB hP
   have HFC := Aside0.mk (fun (w3 : World) (hrg : Ring w3 w.heap.size n bs X Y) => foldsBack_calls (bs i) (bs ((i + 1) % n)) (bs ((i + 2) % n)) (X i) (Y i) (X ((i + 1) % n)) (Y ((i + 1) % n)) (X ((i + 2) % n)) (Y ((i + 2) % n)) (.pointer (some ⟨bs (((i + 2) % n + 1) % n), 0, none⟩)) w3 (hrg.cell i hi) (by have := hrg.cell _ hi1; rw [next_mod] at this; exact this) (hrg.cell _ hi2))
   gi_wp2
   refine ⟨trivial, rfl, (CallsIn.inRound l (callsIn_wide.2 (HFC.out _ HRW.out))).mono ?_⟩
   rintro e w3 ⟨rfl, hb3⟩
   clear HFC
   replace HRW := Aside0.mk (HRW.out.below (hb3.mono HK.out.2.1.size))
   replace HDR := Aside0.mk (show w3.heap[D]? = some (.deferred (some [])) from (hb3.block _ (Array.getElem?_eq_some_iff.1 HDR.out).1).trans HDR.out)
   replace HK := Aside0.mk (HK.out.keep hb3)
   clear hb3
   have HFO : Aside0 ((onB (X i) (Y i) (X ((i + 1) % n)) (Y ((i + 1) % n)) (X ((i + 2) % n)) (Y ((i + 2) % n)) || onB (X ((i + 1) % n)) (Y ((i + 1) % n)) (X ((i + 2) % n)) (Y ((i + 2) % n)) (X i) (Y i)) = foldB X Y n i) := ⟨rfl⟩
   rw [HFO.out]
   clear HFO
   have r0 : w3.cell? ⟨gr, 0, none⟩ = some (.bool false) := blk_cell HK.out.1 0
   have rf := blk_frozen HK.out.1 0
   have HFL := Aside0.mk (show foldB X Y n i = true → b = false from fun h => by
    cases hbb : b with
    | false => rfl
    | true => have := ((HB0.out.1 hbb).2 i hi).1; rw [h] at this; cases this)
   have n2 : w3.cell? ⟨bs i, 2, none⟩ = some (.pointer (some ⟨bs ((i + 1) % n), 0, none⟩)) := (blk_cell (HRW.out.cell i hi) 2).trans rfl
   have n3 : w3.cell? ⟨bs ((i + 1) % n), 2, none⟩ = some (.pointer (some ⟨bs ((i + 2) % n), 0, none⟩)) := by
    have := blk_cell (HRW.out.cell _ hi1) 2; rw [next_mod] at this; exact this.trans rfl
   cases hfo : foldB X Y n i with
   | true =>
    gi_wp2
    have HK2 := HK.out.put hgs 0 (.bool false) rfl
    exact ⟨keeps_mono HK2.2.2.2 hWw2, HK2.1, HK2.2.2.2.same D _ hD HDR0.out rfl, HK2.2.1, HFL.out hfo⟩
   | false =>
    gi_wp2
    clear n2 n3 r0 rf HFL
    gi_loopg [6] (n - 3) (fun kq v6 wr => ∃ j : Nat, v6 = .pointer (some ⟨bs ((i + j) % n), 0, none⟩) ∧ 2 ≤ j ∧ Aside0 (j + 1 + kq = n) ∧ Aside0 (Rd w Wr wr w2.heap.size gr (.cells #[.bool false] 4 (0, 0))) ∧ Aside0 (Ring wr w.heap.size n bs X Y) ∧ Aside0 (∀ j', 2 ≤ j' → j' < j → sideB X Y n i ((i + j') % n) = false))
    case atStart => exact ⟨2, rfl, by omega, ⟨by omega⟩, HK, HRW, ⟨fun j' h1 h2 => by omega⟩⟩
    case round =>
     clear HK HRW HDR
     obtain ⟨j, rfl, hj0, HJ, HK, HRW, HN⟩ := hrel
     have hjk := HJ.out
     have hq : (i + j) % n < n := Nat.mod_lt _ hpos
     have hq1 : (i + j + 1) % n < n := Nat.mod_lt _ hpos
     have n2 : wr.cell? ⟨bs ((i + j) % n), 2, none⟩ = some (.pointer (some ⟨bs ((i + j + 1) % n), 0, none⟩)) := by
      have := blk_cell (HRW.out.cell _ hq) 2; rw [next_mod] at this; exact this.trans rfl
     by_cases hjn : j + 1 < n
     ·have hne : bs ((i + j + 1) % n) ≠ bs i := fun e => add_ne_mod hi (show 0 < j + 1 by omega) hjn (HRW.out.inj _ _ hq1 hi e)
      cases gk with
      | zero => exfalso; omega
      | succ gk =>
       have hop := ptr_neq (bs ((i + j + 1) % n)) (bs i) wr _ _ _ _ (HRW.out.cell _ hq1) (HRW.out.cell i hi)
       rw [decide_eq_false hne] at hop
       gi_wp2
       clear hop n2
       replace HRW := Aside0.mk (HRW.out.below ((below_drew1 (Below.refl _ wr)).mono HK.out.2.1.size))
       replace HK := Aside0.mk HK.out.drew
       refine pl_start (S := fun w' => w'.cell? ⟨bs i, 0, none⟩ = some (.int .i64 (X i)) ∧ w'.cell? ⟨bs i, 1, none⟩ = some (.int .i64 (Y i)) ∧ w'.cell? ⟨bs ((i + 1) % n), 0, none⟩ = some (.int .i64 (X ((i + 1) % n))) ∧ w'.cell? ⟨bs ((i + 1) % n), 1, none⟩ = some (.int .i64 (Y ((i + 1) % n))) ∧ w'.cell? ⟨bs ((i + j) % n), 0, none⟩ = some (.int .i64 (X ((i + j) % n))) ∧ w'.cell? ⟨bs ((i + j) % n), 1, none⟩ = some (.int .i64 (Y ((i + j) % n))) ∧ w'.cell? ⟨bs ((i + j + 1) % n), 0, none⟩ = some (.int .i64 (X ((i + j + 1) % n))) ∧ w'.cell? ⟨bs ((i + j + 1) % n), 1, none⟩ = some (.int .i64 (Y ((i + j + 1) % n))) ∧ w'.cell? ⟨bs i, 2, none⟩ = some (.pointer (some ⟨bs ((i + 1) % n), 0, none⟩)) ∧ w'.cell? ⟨bs ((i + j) % n), 2, none⟩ = some (.pointer (some ⟨bs ((i + j + 1) % n), 0, none⟩))) (ds := []) #[false,false,false,false,false,false,false,false,false,false,false,false,false,false,false,false,false,false,false,false,false,false,false] (by kernel_rfl) (noDefer_all (by kernel_rfl)) (fun ⟨_, _, h⟩ => h) rfl rfl ⟨(blk_cell (HRW.out.cell _ hi) 0).trans rfl, (blk_cell (HRW.out.cell _ hi) 1).trans rfl, (blk_cell (HRW.out.cell _ hi1) 0).trans rfl, (blk_cell (HRW.out.cell _ hi1) 1).trans rfl, (blk_cell (HRW.out.cell _ hq) 0).trans rfl, (blk_cell (HRW.out.cell _ hq) 1).trans rfl, (blk_cell (HRW.out.cell _ hq1) 0).trans rfl, (blk_cell (HRW.out.cell _ hq1) 1).trans rfl, (blk_cell (HRW.out.cell _ hi) 2).trans rfl, (blk_cell (HRW.out.cell _ hq) 2).trans (by rw [next_mod]; rfl)⟩ (fun hHeld => ?_)
       refine with_tabW plSimple15.both.1 plSimple15.both.2 (fun HT_ HW_ => ?_)
       generalize wr.drew = wd at HK HRW hHeld ⊢
       refine pq_ 0 (some 52) ?_
       refine pq_ 1 (some 53) ?_
       refine pq_ 2 (some 54) ?_
       refine tq_ 3 (some 55) ?_
       refine pq_ 4 (some 56) ?_
       refine pq_ 5 (some 57) ?_
       refine pq_ 6 (some 58) ?_
       refine tq_ 7 (some 59) ?_
       refine pq_ 8 (some 60) ?_
       refine pq_ 9 (some 61) ?_
       refine tq_ 10 (some 62) ?_
       refine pq_ 11 (some 63) ?_
       refine pq_ 12 (some 64) ?_
       refine pq_ 13 (some 65) ?_
       refine tq_ 14 (some 66) ?_
       refine pq_ 15 (some 67) ?_
       refine pq_ 16 (some 68) ?_
       refine pq_ 17 (some 69) ?_
       refine tq_ 18 (some 70) ?_
       refine pq_ 19 (some 71) ?_
       refine pq_ 20 (some 72) ?_
       refine tq_ 21 (some 73) ?_
       refine one_ (i := 22) (N := some 74) #[true,true,true,true,true,true,true,true,true,true,true,true,true,true,true,true,true,true,true,true,true,true,true] rfl rfl (one_of HT_.out (by kernel_rfl)) (by decide) (fun K hK => ?_)
       refine goes_ Try.func91 (by kernel_rfl) rfl #[.agg #[.int .i64 (X i), .int .i64 (Y i)], .agg #[.int .i64 (X ((i + 1) % n)), .int .i64 (Y ((i + 1) % n))], .agg #[.int .i64 (X ((i + j) % n)), .int .i64 (Y ((i + j) % n))], .agg #[.int .i64 (X ((i + j + 1) % n)), .int .i64 (Y ((i + j + 1) % n))]] (by rfl) rfl rfl al ?_
       have hsmv : meetB (X i) (Y i) (X ((i + 1) % n)) (Y ((i + 1) % n)) (X ((i + j) % n)) (Y ((i + j) % n)) (X ((i + j + 1) % n)) (Y ((i + j + 1) % n)) = sideB X Y n i ((i + j) % n) := by unfold sideB; rw [next_mod]
       with_reducible refine (impl_sidesMeet.calls 1 _ _ _ _ _ _ _ _ _ _ (meetB_f (X i) (Y i) (X ((i + 1) % n)) (Y ((i + 1) % n)) (X ((i + j) % n)) (Y ((i + j) % n)) (X ((i + j + 1) % n)) (Y ((i + j + 1) % n)))).mono ?_
       rintro e w_ ⟨rfl, hb⟩
       rw [hsmv]
       clear hsmv
       refine ⟨_, rfl, ?_⟩
       replace HRW := Aside0.mk (HRW.out.below (hb.mono HK.out.2.1.size))
       replace HK := Aside0.mk (HK.out.keep hb)
       clear hb
       refine hK.out _ _ ⟨(blk_cell (HRW.out.cell _ hi) 0).trans rfl, (blk_cell (HRW.out.cell _ hi) 1).trans rfl, (blk_cell (HRW.out.cell _ hi1) 0).trans rfl, (blk_cell (HRW.out.cell _ hi1) 1).trans rfl, (blk_cell (HRW.out.cell _ hq) 0).trans rfl, (blk_cell (HRW.out.cell _ hq) 1).trans rfl, (blk_cell (HRW.out.cell _ hq1) 0).trans rfl, (blk_cell (HRW.out.cell _ hq1) 1).trans rfl, (blk_cell (HRW.out.cell _ hi) 2).trans rfl, (blk_cell (HRW.out.cell _ hq) 2).trans (by rw [next_mod]; rfl)⟩ (fun hHeld => ?_)
       clear hK K
       refine norm_ (a' := ?_) ?_ ?_
       rotate_left
       ·show Act.put _ (some 74) _ = _
        simp only [Act.put, List.setIfInBounds_toArray, List.set_cons_zero, List.set_cons_succ, i64_w, i32_w]
        rfl
       refine done_ (done_of HT_.out (by kernel_rfl)) ?_
       have hmb := fun (h : sideB X Y n i ((i + j) % n) = true) => show b = false from by
        cases hbb : b with
        | false => rfl
        | true => have := ((HB0.out.1 hbb).2 i hi).2 j hj0 hjn; rw [h] at this; cases this
       have HMB := Aside0.mk hmb
       clear hmb
       have n2 : w_.cell? ⟨bs ((i + j) % n), 2, none⟩ = some (.pointer (some ⟨bs ((i + j + 1) % n), 0, none⟩)) := by
        have := blk_cell (HRW.out.cell _ hq) 2; rw [next_mod] at this; exact this.trans rfl
       have r0 : w_.cell? ⟨gr, 0, none⟩ = some (.bool false) := blk_cell HK.out.1 0
       have rf := blk_frozen HK.out.1 0
       cases hsb : sideB X Y n i ((i + j) % n) with
       | true =>
        gi_wp2
        have HK2 := HK.out.put hgs 0 (.bool false) rfl
        exact ⟨keeps_mono HK2.2.2.2 hWw2, HK2.1, HK2.2.2.2.same D _ hD HDR0.out rfl, HK2.2.1, HMB.out hsb⟩
       | false =>
        gi_wp2
        gi_roundg gk
        case measure => omega
        case rel =>
         exact ⟨j + 1, rfl, by omega, ⟨by omega⟩, HK, HRW, ⟨fun j' h1 h2 => by
          by_cases e : j' = j
          ·subst e; exact hsb
          ·exact HN.out j' h1 (by omega)⟩⟩
     ·have e1 : (i + j + 1) % n = i := by rw [show i + j + 1 = i + n by omega, Nat.add_mod_right, Nat.mod_eq_of_lt hi]
      rw [e1] at n2
      have hop := ptr_neq (bs i) (bs i) wr _ _ _ _ (HRW.out.cell i hi) (HRW.out.cell i hi)
      rw [decide_eq_true rfl] at hop
      gi_wp2
      refine ⟨keeps_mono HK.out.2.2.2 hWw2, HK.out.2.2.1, HK.out.1, HK.out.2.2.2.same D _ hD HDR0.out rfl, HK.out.2.1, fun i' h1 => ?_⟩
      by_cases e : i' = i
      ·subst e; exact ⟨hfo, fun j' h2 h3 => HN.out j' h2 (by omega)⟩
      ·exact HPP.out i' (by omega)
  ·rintro D2 W2 hD2 ⟨hS, hDf, hB, hP⟩ hdef2
   have r0 : W2.cell? ⟨gr, 0, none⟩ = some (.bool false) := blk_cell hS 0
   have rf := blk_frozen hS 0
   have hbt : b = true := HB0.out.2 ⟨fun i hi j h0 hj => HDIF.out i j hi h0 hj, fun i hi => hP i hi⟩
   have HS2 := Aside0.mk hS
   have HX2 := Aside0.mk hDf
   have HB2 := Aside0.mk hB
   have HD2 := Aside0.mk hdef2
   clear hS hDf hB hP hdef2
   go_wp2_with fail
   have hne2 : gr ≠ D2 := by omega
   have hne1 : gr ≠ D := by omega
   have hD12 : D ≠ D2 := by omega
   have e1 := blk_put HS2.out 0 (.bool true) rfl
   have e2 := (Below.heap_setCell W2 ⟨gr, 0, none⟩ (.bool true) D (show D ≠ gr by omega)).trans HX2.out
   have e3 := (Below.heap_setCell W2 ⟨gr, 0, none⟩ (.bool true) D2 (show D2 ≠ gr by omega)).trans HD2.out
   refine pl_leave e3 (pl_leave ((World.putObj_heap_other (o := .deferred none) hD12).trans e2) ?_)
   have hput := (World.putObj_heap_other (o := .deferred none) hne1).trans ((World.putObj_heap_other (o := .deferred none) hne2).trans e1)
   have hc := blk_cell hput 0
   have f1 := belowK_b (w := w) (Nat.le_refl _) _ D2 _ (.deferred none) (by omega) e3 rfl rfl
   have f2 := belowK_b (w := w) (Nat.le_refl _) _ D _ (.deferred none) (by omega) ((World.putObj_heap_other (o := .deferred none) hD12).trans e2) rfl rfl
   refine ⟨.bool true, ?_, ?_, ((HB2.out.setCell (p := ⟨gr, 0, none⟩) hgs _).trans f1).trans f2⟩
   ·simp [results, (rfl : Try.f72.results = #[.cell 2 4]), go_sem, hc]
   ·rw [hbt]
  ·rintro D2 i W2 hD2 hi ⟨hS, hDf, hB, hf⟩ hdef2
   have hne2 : gr ≠ D2 := by omega
   have hne1 : gr ≠ D := by omega
   have hD12 : D ≠ D2 := by omega
   refine pl_leave hdef2 (pl_leave ((World.putObj_heap_other (o := .deferred none) hD12).trans hDf) ?_)
   have hput := (World.putObj_heap_other (o := .deferred none) hne1).trans ((World.putObj_heap_other (o := .deferred none) hne2).trans hS)
   have hc := blk_cell hput 0
   have f1 := belowK_b (w := w) (Nat.le_refl _) _ D2 _ (.deferred none) (by omega) hdef2 rfl rfl
   have f2 := belowK_b (w := w) (Nat.le_refl _) _ D _ (.deferred none) (by omega) ((World.putObj_heap_other (o := .deferred none) hD12).trans hDf) rfl rfl
   refine ⟨.bool false, ?_, ?_, (hB.trans f1).trans f2⟩
   ·simp [results, (rfl : Try.f72.results = #[.cell 2 4]), go_sem, hc]
   ·rw [hf]
 ·rintro D i W hD hi ⟨hS, hB, hf⟩ hdef
  refine pl_leave hdef ?_
  have hput := (World.putObj_heap_other (o := .deferred none) (show gr ≠ D by omega)).trans hS
  have hc := blk_cell hput 0
  refine ⟨.bool false, ?_, ?_, hB.trans (belowK_b (w := w) (Nat.le_refl _) W D _ _ (Nat.le_trans hw2 hD) hdef rfl rfl)⟩
  ·simp [results, (rfl : Try.f72.results = #[.cell 2 4]), go_sem, hc]
  ·rw [hf]
end
def smB (X Y : Nat → Int) (n : Nat) : Bool := ((List.range n).all fun i => (List.range n).all fun j => !(decide (0 < j) && (X ((i + j) % n) == X i && Y ((i + j) % n) == Y i))) && (List.range n).all fun i => !foldB X Y n i && (List.range n).all fun j => !(decide (2 ≤ j ∧ j + 1 < n) && sideB X Y n i ((i + j) % n))
theorem smB_iff {X Y : Nat → Int} {n : Nat} : smB X Y n = true ↔ Simp X Y n := by
 unfold smB Simp sameP
 rw [Bool.and_eq_true, List.all_eq_true, List.all_eq_true]
 simp only [List.mem_range, List.all_eq_true, Bool.and_eq_true, Bool.not_eq_true', Bool.and_eq_false_iff, decide_eq_false_iff_not, beq_eq_false_iff_ne]
 constructor
 ·rintro ⟨h1, h2⟩
  refine ⟨fun i hi j h0 hj hs => ?_, fun i hi => ⟨(h2 i hi).1, fun j h0 hj => ?_⟩⟩
  ·rcases h1 i hi j hj with h | h | h
   ·exact h h0
   ·exact h hs.1
   ·exact h hs.2
  ·rcases (h2 i hi).2 j (by omega) with h | h
   ·exact absurd ⟨h0, hj⟩ h
   ·exact h
 ·rintro ⟨h1, h2⟩
  refine ⟨fun i hi j hj => ?_, fun i hi => ⟨(h2 i hi).1, fun j hj => ?_⟩⟩
  ·by_cases h0 : 0 < j
   ·by_cases hx : X ((i + j) % n) = X i
    ·exact .inr (.inr fun hy => h1 i hi j h0 hj ⟨hx, hy⟩)
    ·exact .inr (.inl hx)
   ·exact .inl h0
  ·by_cases h0 : 2 ≤ j ∧ j + 1 < n
   ·exact .inr ((h2 i hi).2 j h0.1 h0.2)
   ·exact .inl h0
def okB (l : List S33) : Bool := vdB l && smB (plX l) (plY l) l.length
theorem okB_vd {l : List S33} (h : okB l = true) : vdB l = true := by
 unfold okB at h
 rw [Bool.and_eq_true] at h
 exact h.1
set_option maxHeartbeats 4000000 in
theorem simpleOf_no (A : Option Addr) (c : Nat) (l : List S33) (w : World) (hr0 : Kd.C k33 w A l.length l) (hc0 : l.length ≤ c) (hv : okB l = false) :
  Calls Try.prog 43 #[.slice A l.length c] w fun e w' => e = .returned (.tuple #[.agg #[.pointer none, .int .i64 0], .bool false]) ∧ Below w.heap.size w w' := by
 obtain ⟨k, hk⟩ := vd_f l
 have HR := Aside0.mk hr0
 have HC := Aside0.mk hc0
 have HM := Aside0.mk (Hd.nil w)
 have HV := Aside0.mk hk
 have HS := Aside0.mk (smB_iff (X := plX l) (Y := plY l) (n := l.length))
 clear hr0 hk
 cases hvd : vdB l with
 | false =>
  rw [hvd] at HV
  go_enter Try.func43, Try.ntmps43
  go_upto_region 1 with fail
  replace HM := Aside0.mk (HM.out.alloc #[.pointer none, .int .i64 0] 58)
  generalize w.alloc (.cells #[.pointer none, .int .i64 0] 58) = w1 at *
  generalize w.heap.size = g2 at *
  go_upto_region 2 with (go_at_call 37; have hbel := HM.out.1; (with_reducible refine (outlineOf_no k A c l _ (Kd.C_below HR.out hbel) HC.out HV.out).mono ?_); rintro e w3 ⟨rfl, hb⟩; clear hbel; replace HM := Aside0.mk (HM.out.keep hb); clear hb)
  replace HM := Aside0.mk (HM.out.alloc #[.pointer none, .int .i64 0] 58)
  generalize w3.alloc (.cells #[.pointer none, .int .i64 0] 58) = w5 at *
  generalize w3.heap.size = g4 at *
  have c0 : w5.cell? ⟨g4, 0, none⟩ = some (.pointer none) := blk_cell HM.out.a0 0
  have c1 : w5.cell? ⟨g4, 1, none⟩ = some (.int .i64 0) := blk_cell HM.out.a0 1
  have d0 : w5.cell? ⟨g2, 0, none⟩ = some (.pointer none) := blk_cell HM.out.a1 0
  have d1 : w5.cell? ⟨g2, 1, none⟩ = some (.int .i64 0) := blk_cell HM.out.a1 1
  have f0 := blk_frozen HM.out.a1 0
  have f1 := blk_frozen HM.out.a1 1
  go_wp2_with fail
  have HZ := HM.out.put2_1 (.pointer none) (.int .i64 0)
  exact bodyPost_ret (results_ct rfl _ _ g2 58 #[.pointer none, .int .i64 0] (0, 0) _ rfl HZ.a1 Try.underlying58 rfl (by kernel_rfl)) rfl ⟨rfl, HZ.1⟩
 | true =>
  rw [hvd] at HV
  have hvi := vdB_iff.1 hvd
  have hs : smB (plX l) (plY l) l.length = false := by unfold okB at hv; rw [hvd, Bool.true_and] at hv; exact hv
  rw [hs] at HS
  clear hs hv hvd
  go_enter Try.func43, Try.ntmps43
  go_upto_region 1 with fail
  replace HM := Aside0.mk (HM.out.alloc #[.pointer none, .int .i64 0] 58)
  generalize w.alloc (.cells #[.pointer none, .int .i64 0] 58) = w1 at *
  generalize w.heap.size = g2 at *
  go_upto_region 2 with (go_at_call 37; have hbel := HM.out.1; (with_reducible refine (outlineOf_yes k A c l _ (Kd.C_below HR.out hbel) HC.out HV.out hvi.1 hvi.2.1).mono ?_); rintro e w3 ⟨bs, rfl, hrg, hb⟩; clear hbel; replace HM := Aside0.mk (HM.out.keep hb); have HRG := Aside0.mk hrg; clear hb hrg)
  replace HM := Aside0.mk (HM.out.alloc #[.pointer (some ⟨bs 0, 0, none⟩), .int .i64 (l.length : Int)] 58)
  replace HRG := Aside0.mk (HRG.out.nextAlloc (.cells #[.pointer (some ⟨bs 0, 0, none⟩), .int .i64 (l.length : Int)] 58))
  generalize w3.alloc (.cells #[.pointer (some ⟨bs 0, 0, none⟩), .int .i64 (l.length : Int)] 58) = w5 at *
  generalize w3.heap.size = g4 at *
  have c0 : w5.cell? ⟨g4, 0, none⟩ = some (.pointer (some ⟨bs 0, 0, none⟩)) := blk_cell HM.out.a0 0
  have c1 : w5.cell? ⟨g4, 1, none⟩ = some (.int .i64 (l.length : Int)) := blk_cell HM.out.a0 1
  have d0 : w5.cell? ⟨g2, 0, none⟩ = some (.pointer none) := blk_cell HM.out.a1 0
  have d1 : w5.cell? ⟨g2, 1, none⟩ = some (.int .i64 0) := blk_cell HM.out.a1 1
  have f0 := blk_frozen HM.out.a1 0
  have f1 := blk_frozen HM.out.a1 1
  go_wp2_with (go_at_call 72; (with_reducible refine (simple_calls l.length bs (plX l) (plY l) _ (by omega) hvi.1 HRG.out _ HS.out).mono ?_); rintro e w6 ⟨rfl, hb⟩; replace HRG := Aside0.mk (HRG.out.next hb); replace HM := Aside0.mk (HM.out.keep hb); clear hb c0 c1 d0 d1 f0 f1; have c0 : w6.cell? ⟨g4, 0, none⟩ = some (.pointer (some ⟨bs 0, 0, none⟩)) := blk_cell HM.out.a0 0; have c1 : w6.cell? ⟨g4, 1, none⟩ = some (.int .i64 (l.length : Int)) := blk_cell HM.out.a0 1; have d0 : w6.cell? ⟨g2, 0, none⟩ = some (.pointer none) := blk_cell HM.out.a1 0; have d1 : w6.cell? ⟨g2, 1, none⟩ = some (.int .i64 0) := blk_cell HM.out.a1 1; have f0 := blk_frozen HM.out.a1 0; have f1 := blk_frozen HM.out.a1 1)
  have HZ := HM.out.put2_1 (.pointer none) (.int .i64 0)
  exact bodyPost_ret (results_ct rfl _ _ g2 58 #[.pointer none, .int .i64 0] (0, 0) _ rfl HZ.a1 Try.underlying58 rfl (by kernel_rfl)) rfl ⟨rfl, HZ.1⟩
set_option maxHeartbeats 4000000 in
theorem simpleOf_yes (A : Option Addr) (c : Nat) (l : List S33) (w : World) (hr0 : Kd.C k33 w A l.length l) (hc0 : l.length ≤ c) (hv : okB l = true) :
  Calls Try.prog 43 #[.slice A l.length c] w fun e w' => ∃ bs, e = .returned (.tuple #[.agg #[.pointer (some ⟨bs 0, 0, none⟩), .int .i64 (l.length : Int)], .bool true]) ∧ Ring w' w'.heap.size l.length bs (plX l) (plY l) ∧ Below w.heap.size w w' := by
 obtain ⟨k, hk⟩ := vd_f l
 have HR := Aside0.mk hr0
 have HC := Aside0.mk hc0
 have HM := Aside0.mk (Hd.nil w)
 have HV := Aside0.mk hk
 have HS := Aside0.mk (smB_iff (X := plX l) (Y := plY l) (n := l.length))
 clear hr0 hk
 obtain ⟨hvd, hs⟩ : vdB l = true ∧ smB (plX l) (plY l) l.length = true := by unfold okB at hv; rw [Bool.and_eq_true] at hv; exact hv
 rw [hvd] at HV
 have hvi := vdB_iff.1 hvd
 replace HS : Aside0 (Simp (plX l) (plY l) l.length) := ⟨smB_iff.1 hs⟩
 clear hs hv hvd
 go_enter Try.func43, Try.ntmps43
 go_upto_region 1 with fail
 replace HM := Aside0.mk (HM.out.alloc #[.pointer none, .int .i64 0] 58)
 generalize w.alloc (.cells #[.pointer none, .int .i64 0] 58) = w1 at *
 generalize w.heap.size = g2 at *
 go_upto_region 2 with (go_at_call 37; have hbel := HM.out.1; (with_reducible refine (outlineOf_yes k A c l _ (Kd.C_below HR.out hbel) HC.out HV.out hvi.1 hvi.2.1).mono ?_); rintro e w3 ⟨bs, rfl, hrg, hb⟩; clear hbel; replace HM := Aside0.mk (HM.out.keep hb); have HRG := Aside0.mk hrg; clear hb hrg)
 replace HM := Aside0.mk (HM.out.alloc #[.pointer (some ⟨bs 0, 0, none⟩), .int .i64 (l.length : Int)] 58)
 replace HRG := Aside0.mk (HRG.out.nextAlloc (.cells #[.pointer (some ⟨bs 0, 0, none⟩), .int .i64 (l.length : Int)] 58))
 generalize w3.alloc (.cells #[.pointer (some ⟨bs 0, 0, none⟩), .int .i64 (l.length : Int)] 58) = w5 at *
 generalize w3.heap.size = g4 at *
 have c0 : w5.cell? ⟨g4, 0, none⟩ = some (.pointer (some ⟨bs 0, 0, none⟩)) := blk_cell HM.out.a0 0
 have c1 : w5.cell? ⟨g4, 1, none⟩ = some (.int .i64 (l.length : Int)) := blk_cell HM.out.a0 1
 have d0 : w5.cell? ⟨g2, 0, none⟩ = some (.pointer none) := blk_cell HM.out.a1 0
 have d1 : w5.cell? ⟨g2, 1, none⟩ = some (.int .i64 0) := blk_cell HM.out.a1 1
 have f0 := blk_frozen HM.out.a1 0
 have f1 := blk_frozen HM.out.a1 1
 go_wp2_with (go_at_call 72; (with_reducible refine (simple_calls l.length bs (plX l) (plY l) _ (by omega) hvi.1 HRG.out true ⟨fun _ => HS.out, fun _ => rfl⟩).mono ?_); rintro e w6 ⟨rfl, hb⟩; replace HRG := Aside0.mk (HRG.out.next hb); replace HM := Aside0.mk (HM.out.keep hb); clear hb c0 c1 d0 d1 f0 f1; have c0 : w6.cell? ⟨g4, 0, none⟩ = some (.pointer (some ⟨bs 0, 0, none⟩)) := blk_cell HM.out.a0 0; have c1 : w6.cell? ⟨g4, 1, none⟩ = some (.int .i64 (l.length : Int)) := blk_cell HM.out.a0 1; have d0 : w6.cell? ⟨g2, 0, none⟩ = some (.pointer none) := blk_cell HM.out.a1 0; have d1 : w6.cell? ⟨g2, 1, none⟩ = some (.int .i64 0) := blk_cell HM.out.a1 1; have f0 := blk_frozen HM.out.a1 0; have f1 := blk_frozen HM.out.a1 1)
 have HZ := HM.out.put2_1 (.pointer (some ⟨bs 0, 0, none⟩)) (.int .i64 (l.length : Int))
 have hne := HRG.out.ne HM.out.a1 (by decide)
 have hR2 := (HRG.out.farS (g := g2) hne 0 (.pointer (some ⟨bs 0, 0, none⟩))).farS (g := g2) hne 1 (.int .i64 (l.length : Int))
 exact bodyPost_ret (results_ct rfl _ _ g2 58 #[.pointer (some ⟨bs 0, 0, none⟩), .int .i64 (l.length : Int)] (0, 0) _ rfl HZ.a1 Try.underlying58 rfl (by kernel_rfl)) rfl ⟨bs, rfl, hR2, HZ.1⟩
def prB (l : List S33) : Bool := okB l && decide (0 < arN (plX l) (plY l) l.length l.length)
theorem prB_ok {l : List S33} (h : prB l = true) : okB l = true := by
 unfold prB at h
 rw [Bool.and_eq_true] at h
 exact h.1
set_option maxHeartbeats 4000000 in
theorem parcelOf_no (A : Option Addr) (c : Nat) (l : List S33) (w : World) (hr0 : Kd.C k33 w A l.length l) (hc0 : l.length ≤ c) (hv : prB l = false) :
  Calls Try.prog 42 #[.slice A l.length c] w fun e w' => e = .returned (.tuple #[.agg #[.pointer none, .int .i64 0], .bool false]) ∧ Below w.heap.size w w' := by
 have HR := Aside0.mk hr0
 have HC := Aside0.mk hc0
 have HM := Aside0.mk (Hd.nil w)
 clear hr0
 cases hok : okB l with
 | false =>
  have HV := Aside0.mk hok
  clear hok hv
  go_enter Try.func42, Try.ntmps42
  go_upto_region 1 with fail
  replace HM := Aside0.mk (HM.out.alloc #[.pointer none, .int .i64 0] 68)
  generalize w.alloc (.cells #[.pointer none, .int .i64 0] 68) = w1 at *
  generalize w.heap.size = g2 at *
  go_upto_region 2 with (go_at_call 43; have hbel := HM.out.1; (with_reducible refine (simpleOf_no A c l _ (Kd.C_below HR.out hbel) HC.out HV.out).mono ?_); rintro e w3 ⟨rfl, hb⟩; clear hbel; replace HM := Aside0.mk (HM.out.keep hb); clear hb)
  replace HM := Aside0.mk (HM.out.alloc #[.pointer none, .int .i64 0] 58)
  generalize w3.alloc (.cells #[.pointer none, .int .i64 0] 58) = w5 at *
  generalize w3.heap.size = g4 at *
  have c0 : w5.cell? ⟨g4, 0, none⟩ = some (.pointer none) := blk_cell HM.out.a0 0
  have c1 : w5.cell? ⟨g4, 1, none⟩ = some (.int .i64 0) := blk_cell HM.out.a0 1
  have d0 : w5.cell? ⟨g2, 0, none⟩ = some (.pointer none) := blk_cell HM.out.a1 0
  have d1 : w5.cell? ⟨g2, 1, none⟩ = some (.int .i64 0) := blk_cell HM.out.a1 1
  have f0 := blk_frozen HM.out.a1 0
  have f1 := blk_frozen HM.out.a1 1
  go_wp2_with fail
  have HZ := HM.out.put2_1 (.pointer none) (.int .i64 0)
  exact bodyPost_ret (results_ct rfl _ _ g2 68 #[.pointer none, .int .i64 0] (0, 0) _ rfl HZ.a1 Try.underlying68 rfl (by kernel_rfl)) rfl ⟨rfl, HZ.1⟩
 | true =>
  have HV := Aside0.mk hok
  have hvi := vdB_iff.1 (okB_vd hok)
  have hs : arN (plX l) (plY l) l.length l.length ≤ 0 := by unfold prB at hv; rw [hok, Bool.true_and, decide_eq_false_iff_not] at hv; omega
  have hs1 := decide_eq_true hs
  clear hok hv hs
  go_enter Try.func42, Try.ntmps42
  go_upto_region 1 with fail
  replace HM := Aside0.mk (HM.out.alloc #[.pointer none, .int .i64 0] 68)
  generalize w.alloc (.cells #[.pointer none, .int .i64 0] 68) = w1 at *
  generalize w.heap.size = g2 at *
  go_upto_region 2 with (go_at_call 43; have hbel := HM.out.1; (with_reducible refine (simpleOf_yes A c l _ (Kd.C_below HR.out hbel) HC.out HV.out).mono ?_); rintro e w3 ⟨bs, rfl, hrg, hb⟩; clear hbel; replace HM := Aside0.mk (HM.out.keep hb); have HRG := Aside0.mk hrg; clear hb hrg)
  replace HM := Aside0.mk (HM.out.alloc #[.pointer (some ⟨bs 0, 0, none⟩), .int .i64 (l.length : Int)] 58)
  replace HRG := Aside0.mk (HRG.out.nextAlloc (.cells #[.pointer (some ⟨bs 0, 0, none⟩), .int .i64 (l.length : Int)] 58))
  generalize w3.alloc (.cells #[.pointer (some ⟨bs 0, 0, none⟩), .int .i64 (l.length : Int)] 58) = w5 at *
  generalize w3.heap.size = g4 at *
  have c0 : w5.cell? ⟨g4, 0, none⟩ = some (.pointer (some ⟨bs 0, 0, none⟩)) := blk_cell HM.out.a0 0
  have c1 : w5.cell? ⟨g4, 1, none⟩ = some (.int .i64 (l.length : Int)) := blk_cell HM.out.a0 1
  have d0 : w5.cell? ⟨g2, 0, none⟩ = some (.pointer none) := blk_cell HM.out.a1 0
  have d1 : w5.cell? ⟨g2, 1, none⟩ = some (.int .i64 0) := blk_cell HM.out.a1 1
  have f0 := blk_frozen HM.out.a1 0
  have f1 := blk_frozen HM.out.a1 1
  go_wp2_with (go_at_call 38; (with_reducible refine (area_calls l.length bs (plX l) (plY l) _ (by omega) HRG.out).mono ?_); rintro e w6 ⟨rfl, hb⟩; replace HRG := Aside0.mk (HRG.out.next hb); replace HM := Aside0.mk (HM.out.keep hb); clear hb c0 c1 d0 d1 f0 f1; have c0 : w6.cell? ⟨g4, 0, none⟩ = some (.pointer (some ⟨bs 0, 0, none⟩)) := blk_cell HM.out.a0 0; have c1 : w6.cell? ⟨g4, 1, none⟩ = some (.int .i64 (l.length : Int)) := blk_cell HM.out.a0 1; have d0 : w6.cell? ⟨g2, 0, none⟩ = some (.pointer none) := blk_cell HM.out.a1 0; have d1 : w6.cell? ⟨g2, 1, none⟩ = some (.int .i64 0) := blk_cell HM.out.a1 1; have f0 := blk_frozen HM.out.a1 0; have f1 := blk_frozen HM.out.a1 1)
  have HZ := HM.out.put2_1 (.pointer none) (.int .i64 0)
  exact bodyPost_ret (results_ct rfl _ _ g2 68 #[.pointer none, .int .i64 0] (0, 0) _ rfl HZ.a1 Try.underlying68 rfl (by kernel_rfl)) rfl ⟨rfl, HZ.1⟩
set_option maxHeartbeats 4000000 in
theorem parcelOf_yes (A : Option Addr) (c : Nat) (l : List S33) (w : World) (hr0 : Kd.C k33 w A l.length l) (hc0 : l.length ≤ c) (hv : prB l = true) :
  Calls Try.prog 42 #[.slice A l.length c] w fun e w' => ∃ bs, e = .returned (.tuple #[.agg #[.pointer (some ⟨bs 0, 0, none⟩), .int .i64 (l.length : Int)], .bool true]) ∧ Ring w' w'.heap.size l.length bs (plX l) (plY l) ∧ Below w.heap.size w w' := by
 have HR := Aside0.mk hr0
 have HC := Aside0.mk hc0
 have HM := Aside0.mk (Hd.nil w)
 clear hr0
 obtain ⟨hok, hs⟩ : okB l = true ∧ 0 < arN (plX l) (plY l) l.length l.length := by unfold prB at hv; rw [Bool.and_eq_true, decide_eq_true_iff] at hv; exact hv
 have HV := Aside0.mk hok
 have hvi := vdB_iff.1 (okB_vd hok)
 have hs1 : decide (arN (plX l) (plY l) l.length l.length ≤ 0) = false := decide_eq_false (by omega)
 clear hok hv hs
 go_enter Try.func42, Try.ntmps42
 go_upto_region 1 with fail
 replace HM := Aside0.mk (HM.out.alloc #[.pointer none, .int .i64 0] 68)
 generalize w.alloc (.cells #[.pointer none, .int .i64 0] 68) = w1 at *
 generalize w.heap.size = g2 at *
 go_upto_region 2 with (go_at_call 43; have hbel := HM.out.1; (with_reducible refine (simpleOf_yes A c l _ (Kd.C_below HR.out hbel) HC.out HV.out).mono ?_); rintro e w3 ⟨bs, rfl, hrg, hb⟩; clear hbel; replace HM := Aside0.mk (HM.out.keep hb); have HRG := Aside0.mk hrg; clear hb hrg)
 replace HM := Aside0.mk (HM.out.alloc #[.pointer (some ⟨bs 0, 0, none⟩), .int .i64 (l.length : Int)] 58)
 replace HRG := Aside0.mk (HRG.out.nextAlloc (.cells #[.pointer (some ⟨bs 0, 0, none⟩), .int .i64 (l.length : Int)] 58))
 generalize w3.alloc (.cells #[.pointer (some ⟨bs 0, 0, none⟩), .int .i64 (l.length : Int)] 58) = w5 at *
 generalize w3.heap.size = g4 at *
 have c0 : w5.cell? ⟨g4, 0, none⟩ = some (.pointer (some ⟨bs 0, 0, none⟩)) := blk_cell HM.out.a0 0
 have c1 : w5.cell? ⟨g4, 1, none⟩ = some (.int .i64 (l.length : Int)) := blk_cell HM.out.a0 1
 have d0 : w5.cell? ⟨g2, 0, none⟩ = some (.pointer none) := blk_cell HM.out.a1 0
 have d1 : w5.cell? ⟨g2, 1, none⟩ = some (.int .i64 0) := blk_cell HM.out.a1 1
 have f0 := blk_frozen HM.out.a1 0
 have f1 := blk_frozen HM.out.a1 1
 go_wp2_with (go_at_call 38; (with_reducible refine (area_calls l.length bs (plX l) (plY l) _ (by omega) HRG.out).mono ?_); rintro e w6 ⟨rfl, hb⟩; replace HRG := Aside0.mk (HRG.out.next hb); replace HM := Aside0.mk (HM.out.keep hb); clear hb c0 c1 d0 d1 f0 f1; have c0 : w6.cell? ⟨g4, 0, none⟩ = some (.pointer (some ⟨bs 0, 0, none⟩)) := blk_cell HM.out.a0 0; have c1 : w6.cell? ⟨g4, 1, none⟩ = some (.int .i64 (l.length : Int)) := blk_cell HM.out.a0 1; have d0 : w6.cell? ⟨g2, 0, none⟩ = some (.pointer none) := blk_cell HM.out.a1 0; have d1 : w6.cell? ⟨g2, 1, none⟩ = some (.int .i64 0) := blk_cell HM.out.a1 1; have f0 := blk_frozen HM.out.a1 0; have f1 := blk_frozen HM.out.a1 1)
 have HZ := HM.out.put2_1 (.pointer (some ⟨bs 0, 0, none⟩)) (.int .i64 (l.length : Int))
 have hne := HRG.out.ne HM.out.a1 (by decide)
 have hR2 := (HRG.out.farS (g := g2) hne 0 (.pointer (some ⟨bs 0, 0, none⟩))).farS (g := g2) hne 1 (.int .i64 (l.length : Int))
 exact bodyPost_ret (results_ct rfl _ _ g2 68 #[.pointer (some ⟨bs 0, 0, none⟩), .int .i64 (l.length : Int)] (0, 0) _ rfl HZ.a1 Try.underlying68 rfl (by kernel_rfl)) rfl ⟨bs, rfl, hR2, HZ.1⟩
def impl_ParcelValid.v (l0 : List (S33)) : Bool := prB l0
def impl_ParcelValid.f (l0 : List (S33)) : Option Bool := some (impl_ParcelValid.v l0)
set_option maxHeartbeats 4000000 in
theorem impl_ParcelValid.calls (A0 : Option Addr) (c0 : Nat) (l0 : List (S33)) (r : Bool) (w : World) (hr0 : Kd.C k33 w A0 l0.length l0) (hc0 : l0.length ≤ c0) (h : impl_ParcelValid.f l0 = some r) :
  Calls Try.prog 13 #[.slice A0 l0.length c0] w fun e w' => e = .returned (.bool r) ∧ Below w.heap.size w w' := by
 have HR := Aside0.mk hr0
 have HC := Aside0.mk hc0
 have HM := Aside0.mk (Hd.nil w)
 have h := Option.some.inj h
 clear hr0
 cases hv : prB l0 with
 | false =>
  have HV := Aside0.mk hv
  unfold impl_ParcelValid.v at h
  rw [hv] at h
  obtain rfl := h
  clear hv
  go_enter Try.func13, Try.ntmps13
  go_upto_region 2 with (go_at_call 42; have hbel := HM.out.1; (with_reducible refine (parcelOf_no A0 c0 l0 _ (Kd.C_below HR.out hbel) HC.out HV.out).mono ?_); rintro e w3 ⟨rfl, hb⟩; clear hbel; replace HM := Aside0.mk (HM.out.keep hb); clear hb)
  replace HM := Aside0.mk (HM.out.alloc #[.pointer none, .int .i64 0] 68)
  generalize w3.alloc (.cells #[.pointer none, .int .i64 0] 68) = w5 at *
  generalize w3.heap.size = g4 at *
  have c0 : w5.cell? ⟨g4, 0, none⟩ = some (.pointer none) := blk_cell HM.out.a0 0
  have c1 : w5.cell? ⟨g4, 1, none⟩ = some (.int .i64 0) := blk_cell HM.out.a0 1
  go_wp2_with fail
  go_ret
  exact ⟨rfl, HM.out.1⟩
 | true =>
  have HV := Aside0.mk hv
  unfold impl_ParcelValid.v at h
  rw [hv] at h
  obtain rfl := h
  have hvi := vdB_iff.1 (okB_vd (prB_ok hv))
  clear hv
  go_enter Try.func13, Try.ntmps13
  go_upto_region 2 with (go_at_call 42; have hbel := HM.out.1; (with_reducible refine (parcelOf_yes A0 c0 l0 _ (Kd.C_below HR.out hbel) HC.out HV.out).mono ?_); rintro e w3 ⟨bs, rfl, hrg, hb⟩; clear hbel; replace HM := Aside0.mk (HM.out.keep hb); have HRG := Aside0.mk hrg; clear hb hrg)
  replace HM := Aside0.mk (HM.out.alloc #[.pointer (some ⟨bs 0, 0, none⟩), .int .i64 (l0.length : Int)] 68)
  replace HRG := Aside0.mk (HRG.out.nextAlloc (.cells #[.pointer (some ⟨bs 0, 0, none⟩), .int .i64 (l0.length : Int)] 68))
  generalize w3.alloc (.cells #[.pointer (some ⟨bs 0, 0, none⟩), .int .i64 (l0.length : Int)] 68) = w5 at *
  generalize w3.heap.size = g4 at *
  have c0 : w5.cell? ⟨g4, 0, none⟩ = some (.pointer (some ⟨bs 0, 0, none⟩)) := blk_cell HM.out.a0 0
  have c1 : w5.cell? ⟨g4, 1, none⟩ = some (.int .i64 (l0.length : Int)) := blk_cell HM.out.a0 1
  go_wp2_with fail
  go_ret
  exact ⟨rfl, HM.out.1⟩
def impl_absInt.f (a0 : Int) : Option (Int) := if a0 < 0 then (some (wrap64 (-a0))) else (some a0)
set_option maxHeartbeats 8000000 in
set_option maxRecDepth 100000 in
theorem impl_absInt.calls (a0 : Int) (r : Int) (w : World) (h : impl_absInt.f a0 = some r) :
  Calls Try.prog 44 #[.int .i64 a0] w fun e w' => e = .returned (.int .i64 r) ∧ Drawn0 w w' := by
 have H : (if a0 < 0 then (some (wrap64 (-a0))) else (some a0)) = some r := h
 clear h
 by_cases c2 : a0 < 0
 ·rw [if_pos c2] at H
  have c2b0 : decide (a0 < 0) = true := decide_eq_true c2
  clear c2
  obtain rfl := Option.some.inj H
  go_enter Try.func44, Try.ntmps44
  go_wp2
  go_ret
  exact ⟨by first | rfl | (simp; done) | (simp [*]; done), by repeat (first | exact Drawn0.refl _ | apply Drawn0.step)⟩
 ·rw [if_neg c2] at H
  have c2b0 : decide (a0 < 0) = false := decide_eq_false c2
  clear c2
  obtain rfl := Option.some.inj H
  go_enter Try.func44, Try.ntmps44
  go_wp2
  go_ret
  exact ⟨by first | rfl | (simp; done) | (simp [*]; done), by repeat (first | exact Drawn0.refl _ | apply Drawn0.step)⟩
end Go.Proofs.Ytfonigbkoligmaa.P
-- squeezed

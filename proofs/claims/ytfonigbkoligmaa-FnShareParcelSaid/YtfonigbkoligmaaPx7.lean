import Derived.Test.YtfonigbkoligmaaPx0
import Derived.Test.YtfonigbkoligmaaPx3
import Derived.Test.YtfonigbkoligmaaPx4
import Derived.Test.YtfonigbkoligmaaPx6
namespace Go.Proofs.Ytfonigbkoligmaa.P
open Go.RowKit Go.Proofs.YtfonigbkoligmaaW.PrintWords Go.Proofs.YtfonigbkoligmaaW.PrintLast Go.Proofs.YtfonigbkoligmaaW.PrintMore
attribute [local go_sem] max2_int min2_int max_two min_two max_three min_three max_four min_four
set_option linter.unusedVariables false
set_option linter.unusedSimpArgs false
mutual
def impl_QuoOf.j0 : Nat → Int → Int → Bool → Option (Int × Int × Bool)
 | 0, _, _, _ => none
 | k + 1, x0, x1, x19 => if x19 = true then (some (0, 0, false)) else (if x1 < 0 then (impl_QuoOf.j1 k (wrap64 (-x0)) (wrap64 (-x1))) else (impl_QuoOf.j1 k x0 x1))
def impl_QuoOf.j1 : Nat → Int → Int → Option (Int × Int × Bool)
 | 0, _, _ => none
 | k + 1, x0, x1 => (impl_gcdInt.f k x0 x1).bind fun t305 => (if t305 = 0 then (none) else ((impl_QuoValid.f k (wrap64 (Int.tdiv x0 t305)) (wrap64 (Int.tdiv x1 t305))).bind fun t307 => (if t307 = true then (some (wrap64 (Int.tdiv x0 t305), wrap64 (Int.tdiv x1 t305), true)) else (some (0, 0, false)))))
end
def impl_QuoOf.f (k : Nat) (a0 : Int) (a1 : Int) : Option (Int × Int × Bool) := if a1 = 0 then (impl_QuoOf.j0 k a0 a1 true) else ((impl_within.f a0 4000000000000000000).bind fun t303 => (if t303 = true then ((impl_within.f a1 4000000000000000000).bind fun t304 => (impl_QuoOf.j0 k a0 a1 (!t304))) else (impl_QuoOf.j0 k a0 a1 true)))
theorem impl_QuoOf.mono_l : ∀ k, (∀ y0 y1 y2, LeO (impl_QuoOf.j0 k y0 y1 y2) (impl_QuoOf.j0 (k + 1) y0 y1 y2)) ∧ (∀ y0 y1, LeO (impl_QuoOf.j1 k y0 y1) (impl_QuoOf.j1 (k + 1) y0 y1))
 | 0 => ⟨fun _ _ _ r h => by simp [impl_QuoOf.j0] at h, fun _ _ r h => by simp [impl_QuoOf.j1] at h⟩
 | k + 1 => by
  obtain ⟨ih0, ih1⟩ := impl_QuoOf.mono_l k
  refine ⟨?_, ?_⟩
  ·intro y0 y1 y2
   unfold impl_QuoOf.j0
   repeat' first
   | (with_reducible exact ih0 _ _ _)
   | (with_reducible exact ih1 _ _)
   | (with_reducible exact impl_QuoValid.mono _ _ _)
   | (with_reducible exact impl_gcdInt.mono _ _ _)
   | (with_reducible exact LeO.refl _)
   | (with_reducible exact LeO.none _)
   | (with_reducible refine LeO.ite ?_ ?_)
   | (with_reducible refine LeO.bind ?_ (fun _ => ?_))
   | exact ih0 _ _ _
   | exact ih1 _ _
   | exact impl_QuoValid.mono _ _ _
   | exact impl_gcdInt.mono _ _ _
   | exact LeO.none _
   | refine LeO.ite ?_ ?_
   | refine LeO.bind ?_ (fun _ => ?_)
  ·intro y0 y1
   unfold impl_QuoOf.j1
   repeat' first
   | (with_reducible exact ih0 _ _ _)
   | (with_reducible exact ih1 _ _)
   | (with_reducible exact impl_QuoValid.mono _ _ _)
   | (with_reducible exact impl_gcdInt.mono _ _ _)
   | (with_reducible exact LeO.refl _)
   | (with_reducible exact LeO.none _)
   | (with_reducible refine LeO.ite ?_ ?_)
   | (with_reducible refine LeO.bind ?_ (fun _ => ?_))
   | exact ih0 _ _ _
   | exact ih1 _ _
   | exact impl_QuoValid.mono _ _ _
   | exact impl_gcdInt.mono _ _ _
   | exact LeO.none _
   | refine LeO.ite ?_ ?_
   | refine LeO.bind ?_ (fun _ => ?_)
theorem impl_QuoOf.mono : ∀ a0 a1 k, LeO (impl_QuoOf.f k a0 a1) (impl_QuoOf.f (k + 1) a0 a1) := by
 intro a0 a1 k
 obtain ⟨ih0, ih1⟩ := impl_QuoOf.mono_l k
 unfold impl_QuoOf.f
 repeat' first
   | (with_reducible exact ih0 _ _ _)
   | (with_reducible exact ih1 _ _)
   | (with_reducible exact impl_QuoValid.mono _ _ _)
   | (with_reducible exact impl_gcdInt.mono _ _ _)
   | (with_reducible exact LeO.refl _)
   | (with_reducible exact LeO.none _)
   | (with_reducible refine LeO.ite ?_ ?_)
   | (with_reducible refine LeO.bind ?_ (fun _ => ?_))
   | exact ih0 _ _ _
   | exact ih1 _ _
   | exact impl_QuoValid.mono _ _ _
   | exact impl_gcdInt.mono _ _ _
   | exact LeO.none _
   | refine LeO.ite ?_ ?_
   | refine LeO.bind ?_ (fun _ => ?_)
def impl_QuoOf.T6 : Bool × List (List Nat × List Nat) := (true,[([],[]),([],[]),([0,1],[0,1]),([],[]),([],[]),([3,4],[3,4]),([2,5],[2,5]),([],[]),([7,6,0,1,2,3,4,5,6,7],[6,7])])
def impl_QuoOf.B6 : List Nat := [0,0,3,0,0,24,63,0,255]
theorem impl_QuoOf.tab6 : rtab .any (opsOf Try.f48 6) = impl_QuoOf.T6 := by kernel_rfl
theorem impl_QuoOf.bits6 : waitsOk impl_QuoOf.T6.2 impl_QuoOf.B6 = true := by kernel_rfl
set_option maxHeartbeats 8000000 in
set_option maxRecDepth 100000 in
theorem impl_QuoOf.calls (k : Nat) (a0 : Int) (a1 : Int) (r1 : Int) (r2 : Int) (r3 : Bool) (w : World) (h : impl_QuoOf.f k a0 a1 = some (r1, r2, r3)) :
  Calls Try.prog 48 #[.int .i64 a0, .int .i64 a1] w fun e w' => e = .returned (.tuple #[.agg #[.int .i64 r1, .int .i64 r2], .bool r3]) ∧ Below w.heap.size w w' := by
 have hu39 := Try.underlying39
 have HB := Aside0.mk (Below.refl w.heap.size w)
 have H : (if a1 = 0 then (impl_QuoOf.j0 k a0 a1 true) else ((impl_within.f a0 4000000000000000000).bind fun t303 => (if t303 = true then ((impl_within.f a1 4000000000000000000).bind fun t304 => (impl_QuoOf.j0 k a0 a1 (!t304))) else (impl_QuoOf.j0 k a0 a1 true)))) = some (r1, r2, r3) := h
 clear h
 have HC3 := Aside0.mk H
 clear H
 go_enter Try.func48, Try.ntmps48
 go_upto_region 1 with (first | ((with_reducible refine gate_dst (N := 4) rfl ?_); refine bx_ 4 (cs := #[.int .i64 0, .int .i64 0]) (t := 39) ?_; intro gb302 hg w4 hbox hb; have n0_ := Aside0.mk (below_step (lb HB.out) hb); have n1_ := Aside0.mk (hbox); have n2_ := Aside0.mk ((by rw [hg]; exact (below_size (lb HB.out)) : w.heap.size ≤ gb302)); have n3_ := Aside0.mk ((by rw [hg]; exact (below_size (lb HB.out)) : w.heap.size ≤ gb302)); clear HB; have HB := n0_; have BK302 := n1_; have GW302 := n2_; have GE302 := n3_; clear n0_ n1_ n2_ n3_; clear hb hbox hg))
 (try simp only [Act.put, List.setIfInBounds_toArray, List.set_cons_zero, List.set_cons_succ])
 go_cut [19] (fun v19 wc => ∃ (kq : Nat) (x19_2 : Bool), v19 = .bool x19_2 ∧ Aside0 (impl_QuoOf.j0 kq a0 a1 x19_2 = some (r1, r2, r3)) ∧ Aside0 (kq ≤ k) ∧ Aside0 (wc.heap[gb302]? = some (.cells #[.int .i64 0, .int .i64 0] 39 (0, 0))) ∧ Aside0 (Below w.heap.size w wc))
 case first =>
  have H := HC3.out
  clear HC3
  by_cases c5 : a1 = 0
  ·rw [if_pos c5] at H
   have c5b0 : (a1 == 0) = true := beq_iff_eq.mpr c5
   have c5b1 : (a1 != 0) = false := bne_eq_false_iff_eq.mpr c5
   clear c5
   (first | rw [c5b0] | (simp only [i64_w, i32_w]; rw [c5b0]) | skip)
   have H' := Aside0.mk H
   clear H
   go_wp2
   go_meet
   case rel => exact ⟨_, (true), (by first | rfl | (simp; done) | (simp [*]; done)), H', ⟨by first | omega | exact Nat.le_refl _⟩, ⟨bu BK302.out⟩, ⟨lb HB.out⟩⟩
  ·rw [if_neg c5] at H
   have c5b0 : (a1 == 0) = false := beq_eq_false_iff_ne.mpr c5
   have c5b1 : (a1 != 0) = true := bne_iff_ne.mpr c5
   (first | rw [c5b0] | (simp only [i64_w, i32_w]; rw [c5b0]) | skip)
   replace H := Option.bind_eq_some_iff.mp H
   obtain ⟨t303, A60, H⟩ := H
   replace H : (if t303 = true then ((impl_within.f a1 4000000000000000000).bind fun t304 => (impl_QuoOf.j0 k a0 a1 (!t304))) else (impl_QuoOf.j0 k a0 a1 true)) = some (r1, r2, r3) := H
   have A6 := Aside0.mk A60
   clear A60
   by_cases c7 : t303 = true
   ·subst c7
    have H1 : ((impl_within.f a1 4000000000000000000).bind fun t304 => (impl_QuoOf.j0 k a0 a1 (!t304))) = some (r1, r2, r3) := by rw [if_pos rfl] at H; exact H
    clear H
    have H := H1
    clear H1
    replace H := Option.bind_eq_some_iff.mp H
    obtain ⟨t304, A80, H⟩ := H
    replace H : (impl_QuoOf.j0 k a0 a1 (!t304)) = some (r1, r2, r3) := H
    have A8 := Aside0.mk A80
    clear A80
    have H' := Aside0.mk H
    clear H
    go_wp2_with (first | (go_at_call 73; (with_reducible refine (impl_within.calls a0 4000000000000000000 true _ A6.out).mono ?_); rintro e w' ⟨rfl, ⟨nd, rfl⟩⟩) | (go_at_call 73; (with_reducible refine (impl_within.calls a1 4000000000000000000 t304 _ A8.out).mono ?_); rintro e w' ⟨rfl, ⟨nd, rfl⟩⟩))
    go_meet
    case rel => exact ⟨_, (!t304), (by first | rfl | (simp; done) | (simp [*]; done)), H', ⟨by first | omega | exact Nat.le_refl _⟩, ⟨bu BK302.out⟩, ⟨lb HB.out⟩⟩
   ·replace c7 := Bool.eq_false_iff.mpr c7
    subst c7
    have H1 : (impl_QuoOf.j0 k a0 a1 true) = some (r1, r2, r3) := by rw [if_neg (show ¬ (false = true) by decide)] at H; exact H
    clear H
    have H := H1
    clear H1
    have H' := Aside0.mk H
    clear H
    go_wp2_with (first | (go_at_call 73; (with_reducible refine (impl_within.calls a0 4000000000000000000 false _ A6.out).mono ?_); rintro e w' ⟨rfl, ⟨nd, rfl⟩⟩))
    go_meet
    case rel => exact ⟨_, (true), (by first | rfl | (simp; done) | (simp [*]; done)), H', ⟨by first | omega | exact Nat.le_refl _⟩, ⟨bu BK302.out⟩, ⟨lb HB.out⟩⟩
 case rest =>
  clear HC3
  try clear p2
  try clear c4
  try clear c5
  try clear c5b0
  try clear c5b1
  try clear c7
  obtain ⟨kq, x19_2, rfl, HA, HJ2, BK302, HB⟩ := hcut
  cases kq with
  | zero => exact absurd HA.out (by simp [impl_QuoOf.j0])
  | succ kj2 =>
   have H := HA.out
   clear HA
   simp only [impl_QuoOf.j0] at H
   by_cases c9 : x19_2 = true
   ·subst c9
    have H1 : (some (0, 0, false)) = some (r1, r2, r3) := by rw [if_pos rfl] at H; exact H
    clear H
    have H := H1
    clear H1
    simp only [Option.some.injEq, Prod.mk.injEq] at H
    obtain ⟨rfl, rfl, rfl⟩ := H
    have hcz10_0 : wc.cell? ⟨gb302, 0, none⟩ = some (.int .i64 0) := (blk_cell BK302.out 0).trans rfl
    have hcz10_1 : wc.cell? ⟨gb302, 1, none⟩ = some (.int .i64 0) := (blk_cell BK302.out 1).trans rfl
    have hfz10_0 := blk_frozen BK302.out 0
    have hfz10_1 := blk_frozen BK302.out 1
    go_wp2
    refine bodyPost_ret (results_ct rfl _ _ gb302 39 #[.int .i64 0, .int .i64 0] (0, 0) _ rfl (bp BK302.out) Try.underlying39 rfl (by kernel_rfl)) rfl ?_
    exact ⟨er, lb HB.out⟩
   ·replace c9 := Bool.eq_false_iff.mpr c9
    subst c9
    have H1 : (if a1 < 0 then (impl_QuoOf.j1 kj2 (wrap64 (-a0)) (wrap64 (-a1))) else (impl_QuoOf.j1 kj2 a0 a1)) = some (r1, r2, r3) := by rw [if_neg (show ¬ (false = true) by decide)] at H; exact H
    clear H
    have H := H1
    clear H1
    have HC11 := Aside0.mk H
    clear H
    go_upto_if 22 with (fail)
    go_cut [0, 1] (fun v0 v1 wc => ∃ (kq : Nat) (x0_10 : Int) (x1_10 : Int), v0 = .int .i64 x0_10 ∧ v1 = .int .i64 x1_10 ∧ Aside0 (impl_QuoOf.j1 kq x0_10 x1_10 = some (r1, r2, r3)) ∧ Aside0 (kq ≤ kj2) ∧ Aside0 (wc.heap[gb302]? = some (.cells #[.int .i64 0, .int .i64 0] 39 (0, 0))) ∧ Aside0 (Below w.heap.size w wc))
    case first =>
     have H := HC11.out
     clear HC11
     by_cases c12 : a1 < 0
     ·rw [if_pos c12] at H
      have c12b0 : decide (a1 < 0) = true := decide_eq_true c12
      clear c12
      (first | rw [c12b0] | (simp only [i64_w, i32_w]; rw [c12b0]) | skip)
      have H' := Aside0.mk H
      clear H
      go_wp2
      go_meet
      case rel => exact ⟨_, (wrap64 (-a0)), (wrap64 (-a1)), (by first | rfl | (simp; done) | (simp [*]; done)), (by first | rfl | (simp; done) | (simp [*]; done)), H', ⟨by have := HJ2.out; first | omega | exact Nat.le_refl _⟩, ⟨bu BK302.out⟩, ⟨lb HB.out⟩⟩
     ·rw [if_neg c12] at H
      have c12b0 : decide (a1 < 0) = false := decide_eq_false c12
      clear c12
      (first | rw [c12b0] | (simp only [i64_w, i32_w]; rw [c12b0]) | skip)
      have H' := Aside0.mk H
      clear H
      go_wp2
      go_meet
      case rel => exact ⟨_, (a0), (a1), (by first | rfl | (simp; done) | (simp [*]; done)), (by first | rfl | (simp; done) | (simp [*]; done)), H', ⟨by have := HJ2.out; first | omega | exact Nat.le_refl _⟩, ⟨bu BK302.out⟩, ⟨lb HB.out⟩⟩
    case rest =>
     clear HC11
     try clear c1
     try clear p2
     try clear c4
     try clear c5
     try clear c5b0
     try clear c5b1
     try clear p6
     try clear c7
     try clear c9
     try clear c12
     try clear c12b0
     try clear hcz10_0
     try clear hcz10_1
     try clear hfz10_0
     try clear hfz10_1
     try clear p2
     obtain ⟨kq, x0_10, x1_10, rfl, rfl, HA, HJ10, BK302, HB⟩ := hcut
     cases kq with
     | zero => exact absurd HA.out (by simp [impl_QuoOf.j1])
     | succ kj10 =>
      have H := HA.out
      clear HA
      simp only [impl_QuoOf.j1] at H
      replace H := Option.bind_eq_some_iff.mp H
      obtain ⟨t305, A130, H⟩ := H
      replace H : (if t305 = 0 then (none) else ((impl_QuoValid.f kj10 (wrap64 (Int.tdiv x0_10 t305)) (wrap64 (Int.tdiv x1_10 t305))).bind fun t307 => (if t307 = true then (some (wrap64 (Int.tdiv x0_10 t305), wrap64 (Int.tdiv x1_10 t305), true)) else (some (0, 0, false))))) = some (r1, r2, r3) := H
      have A13 := Aside0.mk A130
      clear A130
      by_cases c14 : t305 = 0
      ·rw [if_pos c14] at H
       exact absurd H (by simp)
      ·rw [if_neg c14] at H
       have c14b0 : (t305 == 0) = false := beq_eq_false_iff_ne.mpr c14
       have c14b1 : (t305 != 0) = true := bne_iff_ne.mpr c14
       replace H := Option.bind_eq_some_iff.mp H
       obtain ⟨t307, A150, H⟩ := H
       replace H : (if t307 = true then (some (wrap64 (Int.tdiv x0_10 t305), wrap64 (Int.tdiv x1_10 t305), true)) else (some (0, 0, false))) = some (r1, r2, r3) := H
       have A15 := Aside0.mk A150
       clear A150
       by_cases c16 : t307 = true
       ·subst c16
        have H1 : (some (wrap64 (Int.tdiv x0_10 t305), wrap64 (Int.tdiv x1_10 t305), true)) = some (r1, r2, r3) := by rw [if_pos rfl] at H; exact H
        clear H
        have H := H1
        clear H1
        simp only [Option.some.injEq, Prod.mk.injEq] at H
        obtain ⟨rfl, rfl, rfl⟩ := H
        try go_wp2_with (first | ((with_reducible refine gate_callee (f := 71) rfl ?_); refine goesL_ (some 29) rfl rfl Try.func71 (by kernel_rfl) rfl #[.int .i64 x0_10, .int .i64 x1_10] rfl al ?_; (with_reducible refine (impl_gcdInt.calls kj10 x0_10 x1_10 t305 _ A13.out).mono ?_); rintro e w' ⟨rfl, ⟨nd, rfl⟩⟩; refine ⟨_, rfl, ?_⟩; (try (rw [drewN_self wc]; generalize hq_ : World.drewN wc _ = wc; have n0_ : Aside0 (wc.heap[gb302]? = some (.cells #[.int .i64 0, .int .i64 0] 39 (0, 0))) := ⟨by rw [← hq_]; exact (bf BK302.out)⟩; have n1_ : Aside0 (Below w.heap.size w wc) := ⟨by rw [← hq_]; exact (lb HB.out)⟩; clear BK302 HB hq_; have BK302 := n0_; have HB := n1_; clear n0_ n1_))))
        have n0_ := Aside0.mk (blk_drew BK302.out)
        have n1_ := Aside0.mk (below_drew1 HB.out)
        clear BK302 HB
        have BK302 := n0_
        have HB := n1_
        clear n0_ n1_
        refine start_ (n := 9) (S := fun w' => True) (ds := []) #[false,false,false,false,false,false,false,false,false] (by kernel_rfl) rfl rfl trivial (fun hHeld => ?_); refine with_tabW impl_QuoOf.tab6 impl_QuoOf.bits6 (fun HT_ HW_ => ?_)
        generalize wc.drew = w17 at BK302 HB hHeld ⊢
        refine pq_ 0 (some 30) ?_
        refine pq_ 1 (some 31) ?_
        refine pq_ 2 (some 32) ?_
        refine pq_ 3 (some 33) ?_
        refine pq_ 4 (some 34) ?_
        refine pq_ 5 (some 35) ?_
        refine pq_ 6 (some 36) ?_
        refine one_ (i := 7) (N := some 7) #[true,true,true,true,true,true,true,true,false] rfl rfl (one_of HT_.out (by kernel_rfl)) (by decide) (fun K hK => ?_)
        refine box_step ?hg (N := 7) ?hd (cs := #[.int .i64 0, .int .i64 0]) (t := 39) ?hr ?_; (case hd => rfl); (case hg => rfl); (case hr => first | (go_simp; done) | (go_simp; rfl))
        intro gb306 hg w18 hbox hb
        have n0_ := Aside0.mk (blk_below (bf BK302.out) hb)
        have n1_ := Aside0.mk (below_step (lb HB.out) hb)
        have n2_ := Aside0.mk (hbox)
        have n3_ := Aside0.mk ((by rw [hg]; exact (below_size (lb HB.out)) : w.heap.size ≤ gb306))
        have n4_ := Aside0.mk ((by rw [hg]; exact (below_size (lb HB.out)) : w.heap.size ≤ gb306))
        have n5_ := Aside0.mk ((by rw [hg]; exact Nat.ne_of_lt (blk_lt (bf BK302.out)) : gb302 ≠ gb306))
        have n6_ := Aside0.mk ((by rw [hg]; exact Nat.ne_of_gt (blk_lt (bf BK302.out)) : gb306 ≠ gb302))
        clear BK302 HB
        have BK302 := n0_
        have HB := n1_
        have BK306 := n2_
        have GW306 := n3_
        have GE306 := n4_
        have NB302_306 := n5_
        have NB306_302 := n6_
        clear n0_ n1_ n2_ n3_ n4_ n5_ n6_ hb hbox hg
        refine hK.out _ _ trivial (fun hHeld => ?_)
        clear hK K
        refine norm_ (a' := ?_) ?_ ?_
        rotate_left
        ·show Act.put _ (some 7) _ = _
         simp only [Act.put, List.setIfInBounds_toArray, List.set_cons_zero, List.set_cons_succ, i64_w, i32_w]
         rfl
        refine one_ (i := 8) (N := none) #[true,true,true,true,true,true,true,true,true] rfl rfl (one_of HT_.out (by kernel_rfl)) (by decide) (fun K hK => ?_)
        have hs19 : w18.cell? ⟨gb306, 0, none⟩ = some (.int .i64 0) := (blk_cell BK306.out 0).trans rfl
        have hfs19 := blk_frozen BK306.out 0
        have hns19_0 := NB302_306.out
        have hms19_0 := NB306_302.out
        have hs20 : w18.cell? ⟨gb306, 1, none⟩ = some (.int .i64 0) := (blk_cell BK306.out 1).trans rfl
        have hfs20 := blk_frozen BK306.out 1
        have hns20_0 := NB302_306.out
        have hms20_0 := NB306_302.out
        refine skip_ (w1 := ?_) (by rfl) rfl ?_ ?_
        rotate_left
        ·go_simp
         rfl
        refine hK.out _ _ trivial (fun hHeld => ?_)
        clear hK K
        refine done_ (done_of HT_.out (by kernel_rfl)) ?_
        have hnb21 := NB306_302.out
        have hnc21 := NB302_306.out
        have hcz22_0 : w18.cell? ⟨gb306, 0, none⟩ = some (.int .i64 0) := (blk_cell BK306.out 0).trans rfl
        have hcz22_1 : w18.cell? ⟨gb306, 1, none⟩ = some (.int .i64 0) := (blk_cell BK306.out 1).trans rfl
        have hfz22_0 := blk_frozen BK306.out 0
        have hfz22_1 := blk_frozen BK306.out 1
        try go_wp2_with (first | ((with_reducible refine gate_callee (f := 74) rfl ?_); refine goesL_ (some 38) rfl rfl Try.func74 (by kernel_rfl) rfl #[.agg #[.int .i64 (wrap64 (Int.tdiv x0_10 t305)), .int .i64 (wrap64 (Int.tdiv x1_10 t305))]] rfl al ?_; (with_reducible refine (impl_QuoValid.calls kj10 (wrap64 (Int.tdiv x0_10 t305)) (wrap64 (Int.tdiv x1_10 t305)) true _ A15.out).mono ?_); rintro e w23 ⟨rfl, hb⟩; refine ⟨_, rfl, ?_⟩; have n0_ := Aside0.mk (blk_below (bf BK302.out) hb); have n1_ := Aside0.mk (blk_below (bp BK306.out) hb); have n2_ := Aside0.mk (below_step (lb HB.out) hb); clear BK302; clear BK306; clear HB; have BK302 := n0_; have BK306 := n1_; have HB := n2_; clear n0_ n1_ n2_; (try clear hb); (try clear hb2); (try clear hk); (try clear hi); have hcz24_0 : w23.cell? ⟨gb306, 0, none⟩ = some (.int .i64 (wrap64 (Int.tdiv x0_10 t305))) := (blk_cell BK306.out 0).trans rfl; have hcz24_1 : w23.cell? ⟨gb306, 1, none⟩ = some (.int .i64 (wrap64 (Int.tdiv x1_10 t305))) := (blk_cell BK306.out 1).trans rfl; have hfz24_0 := blk_frozen BK306.out 0; have hfz24_1 := blk_frozen BK306.out 1; have hcz25_0 : w23.cell? ⟨gb302, 0, none⟩ = some (.int .i64 0) := (blk_cell BK302.out 0).trans rfl; have hcz25_1 : w23.cell? ⟨gb302, 1, none⟩ = some (.int .i64 0) := (blk_cell BK302.out 1).trans rfl; have hfz25_0 := blk_frozen BK302.out 0; have hfz25_1 := blk_frozen BK302.out 1))
        refine bodyPost_ret (results_ct rfl _ _ gb302 39 #[.int .i64 (wrap64 (Int.tdiv x0_10 t305)), .int .i64 (wrap64 (Int.tdiv x1_10 t305))] (0, 0) _ rfl (bp BK302.out) Try.underlying39 rfl (by kernel_rfl)) rfl ?_
        exact ⟨er, lb HB.out⟩
       ·replace c16 := Bool.eq_false_iff.mpr c16
        subst c16
        have H1 : (some (0, 0, false)) = some (r1, r2, r3) := by rw [if_neg (show ¬ (false = true) by decide)] at H; exact H
        clear H
        have H := H1
        clear H1
        simp only [Option.some.injEq, Prod.mk.injEq] at H
        obtain ⟨rfl, rfl, rfl⟩ := H
        try go_wp2_with (first | ((with_reducible refine gate_callee (f := 71) rfl ?_); refine goesL_ (some 29) rfl rfl Try.func71 (by kernel_rfl) rfl #[.int .i64 x0_10, .int .i64 x1_10] rfl al ?_; (with_reducible refine (impl_gcdInt.calls kj10 x0_10 x1_10 t305 _ A13.out).mono ?_); rintro e w' ⟨rfl, ⟨nd, rfl⟩⟩; refine ⟨_, rfl, ?_⟩; (try (rw [drewN_self wc]; generalize hq_ : World.drewN wc _ = wc; have n0_ : Aside0 (wc.heap[gb302]? = some (.cells #[.int .i64 0, .int .i64 0] 39 (0, 0))) := ⟨by rw [← hq_]; exact (bf BK302.out)⟩; have n1_ : Aside0 (Below w.heap.size w wc) := ⟨by rw [← hq_]; exact (lb HB.out)⟩; clear BK302 HB hq_; have BK302 := n0_; have HB := n1_; clear n0_ n1_))))
        have n0_ := Aside0.mk (blk_drew BK302.out)
        have n1_ := Aside0.mk (below_drew1 HB.out)
        clear BK302 HB
        have BK302 := n0_
        have HB := n1_
        clear n0_ n1_
        refine start_ (n := 9) (S := fun w' => True) (ds := []) #[false,false,false,false,false,false,false,false,false] (by kernel_rfl) rfl rfl trivial (fun hHeld => ?_); refine with_tabW impl_QuoOf.tab6 impl_QuoOf.bits6 (fun HT_ HW_ => ?_)
        generalize wc.drew = w26 at BK302 HB hHeld ⊢
        refine pq_ 0 (some 30) ?_
        refine pq_ 1 (some 31) ?_
        refine pq_ 2 (some 32) ?_
        refine pq_ 3 (some 33) ?_
        refine pq_ 4 (some 34) ?_
        refine pq_ 5 (some 35) ?_
        refine pq_ 6 (some 36) ?_
        refine one_ (i := 7) (N := some 7) #[true,true,true,true,true,true,true,true,false] rfl rfl (one_of HT_.out (by kernel_rfl)) (by decide) (fun K hK => ?_)
        refine box_step ?hg (N := 7) ?hd (cs := #[.int .i64 0, .int .i64 0]) (t := 39) ?hr ?_; (case hd => rfl); (case hg => rfl); (case hr => first | (go_simp; done) | (go_simp; rfl))
        intro gb306 hg w27 hbox hb
        have n0_ := Aside0.mk (blk_below (bf BK302.out) hb)
        have n1_ := Aside0.mk (below_step (lb HB.out) hb)
        have n2_ := Aside0.mk (hbox)
        have n3_ := Aside0.mk ((by rw [hg]; exact (below_size (lb HB.out)) : w.heap.size ≤ gb306))
        have n4_ := Aside0.mk ((by rw [hg]; exact (below_size (lb HB.out)) : w.heap.size ≤ gb306))
        have n5_ := Aside0.mk ((by rw [hg]; exact Nat.ne_of_lt (blk_lt (bf BK302.out)) : gb302 ≠ gb306))
        have n6_ := Aside0.mk ((by rw [hg]; exact Nat.ne_of_gt (blk_lt (bf BK302.out)) : gb306 ≠ gb302))
        clear BK302 HB
        have BK302 := n0_
        have HB := n1_
        have BK306 := n2_
        have GW306 := n3_
        have GE306 := n4_
        have NB302_306 := n5_
        have NB306_302 := n6_
        clear n0_ n1_ n2_ n3_ n4_ n5_ n6_ hb hbox hg
        refine hK.out _ _ trivial (fun hHeld => ?_)
        clear hK K
        refine norm_ (a' := ?_) ?_ ?_
        rotate_left
        ·show Act.put _ (some 7) _ = _
         simp only [Act.put, List.setIfInBounds_toArray, List.set_cons_zero, List.set_cons_succ, i64_w, i32_w]
         rfl
        refine one_ (i := 8) (N := none) #[true,true,true,true,true,true,true,true,true] rfl rfl (one_of HT_.out (by kernel_rfl)) (by decide) (fun K hK => ?_)
        have hs28 : w27.cell? ⟨gb306, 0, none⟩ = some (.int .i64 0) := (blk_cell BK306.out 0).trans rfl
        have hfs28 := blk_frozen BK306.out 0
        have hns28_0 := NB302_306.out
        have hms28_0 := NB306_302.out
        have hs29 : w27.cell? ⟨gb306, 1, none⟩ = some (.int .i64 0) := (blk_cell BK306.out 1).trans rfl
        have hfs29 := blk_frozen BK306.out 1
        have hns29_0 := NB302_306.out
        have hms29_0 := NB306_302.out
        refine skip_ (w1 := ?_) (by rfl) rfl ?_ ?_
        rotate_left
        ·go_simp
         rfl
        refine hK.out _ _ trivial (fun hHeld => ?_)
        clear hK K
        refine done_ (done_of HT_.out (by kernel_rfl)) ?_
        have hnb30 := NB306_302.out
        have hnc30 := NB302_306.out
        have hcz31_0 : w27.cell? ⟨gb306, 0, none⟩ = some (.int .i64 0) := (blk_cell BK306.out 0).trans rfl
        have hcz31_1 : w27.cell? ⟨gb306, 1, none⟩ = some (.int .i64 0) := (blk_cell BK306.out 1).trans rfl
        have hfz31_0 := blk_frozen BK306.out 0
        have hfz31_1 := blk_frozen BK306.out 1
        try go_wp2_with (first | ((with_reducible refine gate_callee (f := 74) rfl ?_); refine goesL_ (some 38) rfl rfl Try.func74 (by kernel_rfl) rfl #[.agg #[.int .i64 (wrap64 (Int.tdiv x0_10 t305)), .int .i64 (wrap64 (Int.tdiv x1_10 t305))]] rfl al ?_; (with_reducible refine (impl_QuoValid.calls kj10 (wrap64 (Int.tdiv x0_10 t305)) (wrap64 (Int.tdiv x1_10 t305)) false _ A15.out).mono ?_); rintro e w32 ⟨rfl, hb⟩; refine ⟨_, rfl, ?_⟩; have n0_ := Aside0.mk (blk_below (bf BK302.out) hb); have n1_ := Aside0.mk (blk_below (bp BK306.out) hb); have n2_ := Aside0.mk (below_step (lb HB.out) hb); clear BK302; clear BK306; clear HB; have BK302 := n0_; have BK306 := n1_; have HB := n2_; clear n0_ n1_ n2_; (try clear hb); (try clear hb2); (try clear hk); (try clear hi); have hcz33_0 : w32.cell? ⟨gb302, 0, none⟩ = some (.int .i64 0) := (blk_cell BK302.out 0).trans rfl; have hcz33_1 : w32.cell? ⟨gb302, 1, none⟩ = some (.int .i64 0) := (blk_cell BK302.out 1).trans rfl; have hfz33_0 := blk_frozen BK302.out 0; have hfz33_1 := blk_frozen BK302.out 1))
        refine bodyPost_ret (results_ct rfl _ _ gb302 39 #[.int .i64 0, .int .i64 0] (0, 0) _ rfl (bp BK302.out) Try.underlying39 rfl (by kernel_rfl)) rfl ?_
        exact ⟨er, lb HB.out⟩
def impl_ParcelShare.f (k : Nat) (l0 : List (S33)) (a1 : Int) (a2 : Int) : Option (Int × Int × Bool) := (impl_ParcelSplit.f k l0 a1 a2).bind fun bt309 => (if bt309.2.2 = true then ((impl_PolyArea.f bt309.1).bind fun bt316 => ((impl_PolyArea.f l0).bind fun bt318 => ((impl_QuoOf.f k bt316.1 bt318.1).bind fun bt320 => (some (bt320.1, bt320.2.1, bt320.2.2))))) else (some (0, 0, false)))
theorem impl_ParcelShare.mono : ∀ a0 a1 a2 k, LeO (impl_ParcelShare.f k a0 a1 a2) (impl_ParcelShare.f (k + 1) a0 a1 a2) := by
 intro a0 a1 a2 k
 unfold impl_ParcelShare.f
 repeat' first
   | (with_reducible exact impl_ParcelSplit.mono _ _ _ _)
   | (with_reducible exact impl_QuoOf.mono _ _ _)
   | (with_reducible exact LeO.refl _)
   | (with_reducible exact LeO.none _)
   | (with_reducible refine LeO.ite ?_ ?_)
   | (with_reducible refine LeO.bind ?_ (fun _ => ?_))
   | exact impl_ParcelSplit.mono _ _ _ _
   | exact impl_QuoOf.mono _ _ _
   | exact LeO.none _
   | refine LeO.ite ?_ ?_
   | refine LeO.bind ?_ (fun _ => ?_)
set_option maxHeartbeats 8000000 in
set_option maxRecDepth 100000 in
theorem impl_ParcelShare.calls (k : Nat) (A0 : Option Addr) (c0 : Nat) (l0 : List (S33)) (a1 : Int) (a2 : Int) (r1 : Int) (r2 : Int) (r3 : Bool) (w : World) (hr0 : Kd.C k33 w A0 l0.length l0) (hc0 : l0.length ≤ c0) (h : impl_ParcelShare.f k l0 a1 a2 = some (r1, r2, r3)) :
  Calls Try.prog 17 #[.slice A0 l0.length c0, .int .i64 a1, .int .i64 a2] w fun e w' => e = .returned (.tuple #[.agg #[.int .i64 r1, .int .i64 r2], .bool r3]) ∧ Below w.heap.size w w' := by
 have hu39 := Try.underlying39
 have HR0 := Aside0.mk hr0
 have HC0 := Aside0.mk hc0
 clear hr0 hc0
 have HB := Aside0.mk (Below.refl w.heap.size w)
 have H : ((impl_ParcelSplit.f k l0 a1 a2).bind fun bt309 => (if bt309.2.2 = true then ((impl_PolyArea.f bt309.1).bind fun bt316 => ((impl_PolyArea.f l0).bind fun bt318 => ((impl_QuoOf.f k bt316.1 bt318.1).bind fun bt320 => (some (bt320.1, bt320.2.1, bt320.2.2))))) else (some (0, 0, false)))) = some (r1, r2, r3) := h
 clear h
 replace H := Option.bind_eq_some_iff.mp H
 obtain ⟨⟨t309, t310, t311⟩, A40, H⟩ := H
 replace H : (if t311 = true then ((impl_PolyArea.f t309).bind fun bt316 => ((impl_PolyArea.f l0).bind fun bt318 => ((impl_QuoOf.f k bt316.1 bt318.1).bind fun bt320 => (some (bt320.1, bt320.2.1, bt320.2.2))))) else (some (0, 0, false))) = some (r1, r2, r3) := H
 have A4 := Aside0.mk A40
 clear A40
 by_cases c5 : t311 = true
 ·subst c5
  have H1 : ((impl_PolyArea.f t309).bind fun bt316 => ((impl_PolyArea.f l0).bind fun bt318 => ((impl_QuoOf.f k bt316.1 bt318.1).bind fun bt320 => (some (bt320.1, bt320.2.1, bt320.2.2))))) = some (r1, r2, r3) := by rw [if_pos rfl] at H; exact H
  clear H
  have H := H1
  clear H1
  replace H := Option.bind_eq_some_iff.mp H
  obtain ⟨⟨t316, t317⟩, A60, H⟩ := H
  replace H : ((impl_PolyArea.f l0).bind fun bt318 => ((impl_QuoOf.f k t316 bt318.1).bind fun bt320 => (some (bt320.1, bt320.2.1, bt320.2.2)))) = some (r1, r2, r3) := H
  have A6 := Aside0.mk A60
  clear A60
  replace H := Option.bind_eq_some_iff.mp H
  obtain ⟨⟨t318, t319⟩, A70, H⟩ := H
  replace H : ((impl_QuoOf.f k t316 t318).bind fun bt320 => (some (bt320.1, bt320.2.1, bt320.2.2))) = some (r1, r2, r3) := H
  have A7 := Aside0.mk A70
  clear A70
  replace H := Option.bind_eq_some_iff.mp H
  obtain ⟨⟨t320, t321, t322⟩, A80, H⟩ := H
  replace H : (some (t320, t321, t322)) = some (r1, r2, r3) := H
  have A8 := Aside0.mk A80
  clear A80
  simp only [Option.some.injEq, Prod.mk.injEq] at H
  obtain ⟨rfl, rfl, rfl⟩ := H
  go_enter Try.func17, Try.ntmps17
  go_wp2_with (first | ((with_reducible refine gate_dst (N := 6) rfl ?_); refine bx_ 6 (cs := #[.int .i64 0, .int .i64 0]) (t := 39) ?_; intro gb308 hg w9 hbox hb; have n0_ := Aside0.mk (below_step (lb HB.out) hb); have n1_ := Aside0.mk (hbox); have n2_ := Aside0.mk ((by rw [hg]; exact (below_size (lb HB.out)) : w.heap.size ≤ gb308)); have n3_ := Aside0.mk ((by rw [hg]; exact (below_size (lb HB.out)) : w.heap.size ≤ gb308)); clear HB; have HB := n0_; have BK308 := n1_; have GW308 := n2_; have GE308 := n3_; clear n0_ n1_ n2_ n3_; clear hb hbox hg) | ((with_reducible refine gate_callee (f := 8) rfl ?_); refine goesL_ (some 19) rfl rfl Try.func8 (by kernel_rfl) rfl #[.slice A0 l0.length c0, .int .i64 a1, .int .i64 a2] rfl al ?_; (with_reducible refine (impl_ParcelSplit.calls k _ _ l0 a1 a2 t309 t310 true _ ?side1 ?side2 A4.out).mono ?_); (case side1 => exact cm (Kd.C_below HR0.out HB.out)); (case side2 => exact HC0.out); rintro e w10 ⟨v312, v314, rfl, ho0, ho1, hb⟩; refine ⟨_, rfl, ?_⟩; have n0_ := Aside0.mk (Kd.R_lower ho0 (below_size (lb HB.out))); have n1_ := Aside0.mk (Kd.R_lower ho1 (below_size (lb HB.out))); have n2_ := Aside0.mk (blk_below (bf BK308.out) hb); have n3_ := Aside0.mk (below_step (lb HB.out) hb); clear BK308; clear HB; have HO313 := n0_; have HO315 := n1_; have BK308 := n2_; have HB := n3_; clear n0_ n1_ n2_ n3_; (try clear hb); (try clear hb2); (try clear hk); (try clear hi); (try clear ho0); (try clear ho1); obtain ⟨Ao11, co11, eo11⟩ := Kd.R_slice HO313.out; subst eo11) | ((with_reducible refine gate_callee (f := 11) rfl ?_); refine goesL_ (some 28) rfl rfl Try.func11 (by kernel_rfl) rfl #[.slice Ao11 t309.length co11] rfl al ?_; (with_reducible refine (impl_PolyArea.calls _ _ t309 t316 t317 _ ?side1 ?side2 A6.out).mono ?_); (case side1 => exact cm (Kd.R_reads' HO313.out).2.2); (case side2 => exact (Kd.R_reads' HO313.out).2.1); rintro e w12 ⟨rfl, hb⟩; refine ⟨_, rfl, ?_⟩; have n0_ := Aside0.mk (Kd.R_below (rm HO313.out) hb); have n1_ := Aside0.mk (Kd.R_below (rm HO315.out) hb); have n2_ := Aside0.mk (blk_below (bf BK308.out) hb); have n3_ := Aside0.mk (below_step (lb HB.out) hb); clear HO313; clear HO315; clear BK308; clear HB; have HO313 := n0_; have HO315 := n1_; have BK308 := n2_; have HB := n3_; clear n0_ n1_ n2_ n3_; (try clear hb); (try clear hb2); (try clear hk); (try clear hi)) | ((with_reducible refine gate_callee (f := 11) rfl ?_); refine goesL_ (some 33) rfl rfl Try.func11 (by kernel_rfl) rfl #[.slice A0 l0.length c0] rfl al ?_; (with_reducible refine (impl_PolyArea.calls _ _ l0 t318 t319 _ ?side1 ?side2 A7.out).mono ?_); (case side1 => exact cm (Kd.C_below HR0.out HB.out)); (case side2 => exact HC0.out); rintro e w13 ⟨rfl, hb⟩; refine ⟨_, rfl, ?_⟩; have n0_ := Aside0.mk (Kd.R_below (rm HO313.out) hb); have n1_ := Aside0.mk (Kd.R_below (rm HO315.out) hb); have n2_ := Aside0.mk (blk_below (bf BK308.out) hb); have n3_ := Aside0.mk (below_step (lb HB.out) hb); clear HO313; clear HO315; clear BK308; clear HB; have HO313 := n0_; have HO315 := n1_; have BK308 := n2_; have HB := n3_; clear n0_ n1_ n2_ n3_; (try clear hb); (try clear hb2); (try clear hk); (try clear hi)) | ((with_reducible refine gate_callee (f := 48) rfl ?_); refine goesL_ (some 38) rfl rfl Try.func48 (by kernel_rfl) rfl #[.int .i64 t316, .int .i64 t318] rfl al ?_; (with_reducible refine (impl_QuoOf.calls k t316 t318 t320 t321 t322 _ A8.out).mono ?_); rintro e w14 ⟨rfl, hb⟩; refine ⟨_, rfl, ?_⟩; have n0_ := Aside0.mk (Kd.R_below (rm HO313.out) hb); have n1_ := Aside0.mk (Kd.R_below (rm HO315.out) hb); have n2_ := Aside0.mk (blk_below (bf BK308.out) hb); have n3_ := Aside0.mk (below_step (lb HB.out) hb); clear HO313; clear HO315; clear BK308; clear HB; have HO313 := n0_; have HO315 := n1_; have BK308 := n2_; have HB := n3_; clear n0_ n1_ n2_ n3_; (try clear hb); (try clear hb2); (try clear hk); (try clear hi); have hcz15_0 : w14.cell? ⟨gb308, 0, none⟩ = some (.int .i64 0) := (blk_cell BK308.out 0).trans rfl; have hcz15_1 : w14.cell? ⟨gb308, 1, none⟩ = some (.int .i64 0) := (blk_cell BK308.out 1).trans rfl; have hfz15_0 := blk_frozen BK308.out 0; have hfz15_1 := blk_frozen BK308.out 1))
  refine bodyPost_ret (results_ct rfl _ _ gb308 39 #[.int .i64 t320, .int .i64 t321] (0, 0) _ rfl (bp BK308.out) Try.underlying39 rfl (by kernel_rfl)) rfl ?_
  exact ⟨er, lb HB.out⟩
 ·replace c5 := Bool.eq_false_iff.mpr c5
  subst c5
  have H1 : (some (0, 0, false)) = some (r1, r2, r3) := by rw [if_neg (show ¬ (false = true) by decide)] at H; exact H
  clear H
  have H := H1
  clear H1
  simp only [Option.some.injEq, Prod.mk.injEq] at H
  obtain ⟨rfl, rfl, rfl⟩ := H
  go_enter Try.func17, Try.ntmps17
  go_wp2_with (first | ((with_reducible refine gate_dst (N := 6) rfl ?_); refine bx_ 6 (cs := #[.int .i64 0, .int .i64 0]) (t := 39) ?_; intro gb308 hg w16 hbox hb; have n0_ := Aside0.mk (below_step (lb HB.out) hb); have n1_ := Aside0.mk (hbox); have n2_ := Aside0.mk ((by rw [hg]; exact (below_size (lb HB.out)) : w.heap.size ≤ gb308)); have n3_ := Aside0.mk ((by rw [hg]; exact (below_size (lb HB.out)) : w.heap.size ≤ gb308)); clear HB; have HB := n0_; have BK308 := n1_; have GW308 := n2_; have GE308 := n3_; clear n0_ n1_ n2_ n3_; clear hb hbox hg) | ((with_reducible refine gate_callee (f := 8) rfl ?_); refine goesL_ (some 19) rfl rfl Try.func8 (by kernel_rfl) rfl #[.slice A0 l0.length c0, .int .i64 a1, .int .i64 a2] rfl al ?_; (with_reducible refine (impl_ParcelSplit.calls k _ _ l0 a1 a2 t309 t310 false _ ?side1 ?side2 A4.out).mono ?_); (case side1 => exact cm (Kd.C_below HR0.out HB.out)); (case side2 => exact HC0.out); rintro e w17 ⟨v312, v314, rfl, ho0, ho1, hb⟩; refine ⟨_, rfl, ?_⟩; have n0_ := Aside0.mk (Kd.R_lower ho0 (below_size (lb HB.out))); have n1_ := Aside0.mk (Kd.R_lower ho1 (below_size (lb HB.out))); have n2_ := Aside0.mk (blk_below (bf BK308.out) hb); have n3_ := Aside0.mk (below_step (lb HB.out) hb); clear BK308; clear HB; have HO313 := n0_; have HO315 := n1_; have BK308 := n2_; have HB := n3_; clear n0_ n1_ n2_ n3_; (try clear hb); (try clear hb2); (try clear hk); (try clear hi); (try clear ho0); (try clear ho1); have hcz18_0 : w17.cell? ⟨gb308, 0, none⟩ = some (.int .i64 0) := (blk_cell BK308.out 0).trans rfl; have hcz18_1 : w17.cell? ⟨gb308, 1, none⟩ = some (.int .i64 0) := (blk_cell BK308.out 1).trans rfl; have hfz18_0 := blk_frozen BK308.out 0; have hfz18_1 := blk_frozen BK308.out 1))
  refine bodyPost_ret (results_ct rfl _ _ gb308 39 #[.int .i64 0, .int .i64 0] (0, 0) _ rfl (bp BK308.out) Try.underlying39 rfl (by kernel_rfl)) rfl ?_
  exact ⟨er, lb HB.out⟩
def spec_l2Cross.f (a0_0 : Int) (a0_1 : Int) (a1_0 : Int) (a1_1 : Int) : Option (Int) := some (wrap64 ((wrap64 (a0_0 * a1_1)) - (wrap64 (a0_1 * a1_0))))
set_option maxHeartbeats 8000000 in
set_option maxRecDepth 100000 in
theorem spec_l2Cross.calls (a0_0 : Int) (a0_1 : Int) (a1_0 : Int) (a1_1 : Int) (r : Int) (w : World) (h : spec_l2Cross.f a0_0 a0_1 a1_0 a1_1 = some r) :
  Calls Try.prog 78 #[.agg #[.int .i64 a0_0, .int .i64 a0_1], .agg #[.int .i64 a1_0, .int .i64 a1_1]] w fun e w' => e = .returned (.int .i64 r) ∧ Below w.heap.size w w' := by
 have hu33 := Try.underlying33
 have HB := Aside0.mk (Below.refl w.heap.size w)
 have H : (some (wrap64 ((wrap64 (a0_0 * a1_1)) - (wrap64 (a0_1 * a1_0))))) = some r := h
 clear h
 obtain rfl := Option.some.inj H
 go_enter Try.func78, Try.ntmps78
 go_wp2_with (first | ((with_reducible refine gate_dst (N := 2) rfl ?_); refine bx_ 2 (cs := #[.int .i64 a0_0, .int .i64 a0_1]) (t := 33) ?_; intro gb323 hg w3 hbox hb; have n0_ := Aside0.mk (below_step (lb HB.out) hb); have n1_ := Aside0.mk (hbox); have n2_ := Aside0.mk ((by rw [hg]; exact (below_size (lb HB.out)) : w.heap.size ≤ gb323)); have n3_ := Aside0.mk ((by rw [hg]; exact (below_size (lb HB.out)) : w.heap.size ≤ gb323)); clear HB; have HB := n0_; have BK323 := n1_; have GW323 := n2_; have GE323 := n3_; clear n0_ n1_ n2_ n3_; clear hb hbox hg) | ((with_reducible refine gate_dst (N := 3) rfl ?_); refine bx_ 3 (cs := #[.int .i64 a1_0, .int .i64 a1_1]) (t := 33) ?_; intro gb324 hg w4 hbox hb; have n0_ := Aside0.mk (blk_below (bf BK323.out) hb); have n1_ := Aside0.mk (below_step (lb HB.out) hb); have n2_ := Aside0.mk (hbox); have n3_ := Aside0.mk ((by rw [hg]; exact (below_size (lb HB.out)) : w.heap.size ≤ gb324)); have n4_ := Aside0.mk ((by rw [hg]; exact (below_size (lb HB.out)) : w.heap.size ≤ gb324)); have n5_ := Aside0.mk ((by rw [hg]; exact Nat.ne_of_lt (blk_lt (bf BK323.out)) : gb323 ≠ gb324)); have n6_ := Aside0.mk ((by rw [hg]; exact Nat.ne_of_gt (blk_lt (bf BK323.out)) : gb324 ≠ gb323)); clear BK323; clear HB; have BK323 := n0_; have HB := n1_; have BK324 := n2_; have GW324 := n3_; have GE324 := n4_; have NB323_324 := n5_; have NB324_323 := n6_; clear n0_ n1_ n2_ n3_ n4_ n5_ n6_; clear hb hbox hg; have hnb5 := NB323_324.out; have hnc5 := NB324_323.out; have hcz6_0 : w4.cell? ⟨gb323, 0, none⟩ = some (.int .i64 a0_0) := (blk_cell BK323.out 0).trans rfl; have hcz6_1 : w4.cell? ⟨gb323, 1, none⟩ = some (.int .i64 a0_1) := (blk_cell BK323.out 1).trans rfl; have hfz6_0 := blk_frozen BK323.out 0; have hfz6_1 := blk_frozen BK323.out 1; have hcz7_0 : w4.cell? ⟨gb324, 0, none⟩ = some (.int .i64 a1_0) := (blk_cell BK324.out 0).trans rfl; have hcz7_1 : w4.cell? ⟨gb324, 1, none⟩ = some (.int .i64 a1_1) := (blk_cell BK324.out 1).trans rfl; have hfz7_0 := blk_frozen BK324.out 0; have hfz7_1 := blk_frozen BK324.out 1))
 go_ret
 exact ⟨er, lb HB.out⟩
def spec_l31Area.l0 : Nat → List (S33) → Int → Int → Option (Int)
 | 0, _, _, _ => none
 | k + 1, x0, x3, x4 => if x4 < (x0.length : Int) then (if 0 ≤ x4 then (if (x0.length : Int) = 0 then (none) else (if 0 ≤ (Int.tmod (wrap64 (x4 + 1)) (x0.length : Int)) then (if (Int.tmod (wrap64 (x4 + 1)) (x0.length : Int)) < (x0.length : Int) then ((spec_l2Cross.f ((rd_T33 x0 x4).f0) ((rd_T33 x0 x4).f1) ((rd_T33 x0 (Int.tmod (wrap64 (x4 + 1)) (x0.length : Int))).f0) ((rd_T33 x0 (Int.tmod (wrap64 (x4 + 1)) (x0.length : Int))).f1)).bind fun t327 => (spec_l31Area.l0 k x0 (wrap64 (x3 + t327)) (wrap64 (x4 + 1)))) else (none)) else (none))) else (none)) else (some x3)
def spec_l31Area.f (k : Nat) (l0 : List (S33)) : Option (Int) := spec_l31Area.l0 k l0 0 0
theorem spec_l31Area.mono_l : ∀ k, (∀ y0 y1 y2, LeO (spec_l31Area.l0 k y0 y1 y2) (spec_l31Area.l0 (k + 1) y0 y1 y2))
 | 0 => fun _ _ _ r h => by simp [spec_l31Area.l0] at h
 | k + 1 => by
  have ih0 := spec_l31Area.mono_l k
  ·intro y0 y1 y2
   unfold spec_l31Area.l0
   repeat' first
   | (with_reducible exact ih0 _ _ _)
   | (with_reducible exact LeO.refl _)
   | (with_reducible exact LeO.none _)
   | (with_reducible refine LeO.ite ?_ ?_)
   | (with_reducible refine LeO.bind ?_ (fun _ => ?_))
   | exact ih0 _ _ _
   | exact LeO.none _
   | refine LeO.ite ?_ ?_
   | refine LeO.bind ?_ (fun _ => ?_)
theorem spec_l31Area.mono : ∀ a0 k, LeO (spec_l31Area.f k a0) (spec_l31Area.f (k + 1) a0) := by
 intro a0 k
 have ih0 := spec_l31Area.mono_l k
 unfold spec_l31Area.f
 repeat' first
   | (with_reducible exact ih0 _ _ _)
   | (with_reducible exact LeO.refl _)
   | (with_reducible exact LeO.none _)
   | (with_reducible refine LeO.ite ?_ ?_)
   | (with_reducible refine LeO.bind ?_ (fun _ => ?_))
   | exact ih0 _ _ _
   | exact LeO.none _
   | refine LeO.ite ?_ ?_
   | refine LeO.bind ?_ (fun _ => ?_)
def spec_l31Area.T5 : Bool × List (List Nat × List Nat) := (true,[([],[]),([],[]),([],[]),([1,2],[1,2]),([3],[3]),([],[]),([],[]),([6],[6]),([],[]),([8],[8]),([7,9],[7,9]),([5,10],[5,10]),([11],[11]),([4,12],[4,12]),([0,13],[0,13]),([14,13,0,1,2,3,4,5,6,7,8,9,10,11,12,13,14],[0,14])])
def spec_l31Area.B5 : List Nat := [0,0,0,6,14,0,0,64,0,256,960,2016,4064,8190,16383,32767]
theorem spec_l31Area.tab5 : rtab .any (opsOf Try.f50 5) = spec_l31Area.T5 := by kernel_rfl
theorem spec_l31Area.bits5 : waitsOk spec_l31Area.T5.2 spec_l31Area.B5 = true := by kernel_rfl
set_option maxHeartbeats 8000000 in
set_option maxRecDepth 100000 in
theorem spec_l31Area.calls (k : Nat) (A0 : Option Addr) (c0 : Nat) (l0 : List (S33)) (r : Int) (w : World) (hr0 : Kd.C k33 w A0 l0.length l0) (hc0 : l0.length ≤ c0) (h : spec_l31Area.f k l0 = some r) :
  Calls Try.prog 50 #[.slice A0 l0.length c0] w fun e w' => e = .returned (.int .i64 r) ∧ Below w.heap.size w w' := by
 have hu33 := Try.underlying33
 have HR0 := Aside0.mk hr0
 have HC0 := Aside0.mk hc0
 clear hr0 hc0
 have HB := Aside0.mk (Below.refl w.heap.size w)
 have H : (spec_l31Area.l0 k l0 0 0) = some r := h
 clear h
 have H' := Aside0.mk H
 clear H
 go_enter Try.func50, Try.ntmps50
 go_wp2
 go_loopg [3, 4] k (fun kq v3 v4 w' => ∃ (x3_1 : Int) (x4_1 : Int), v3 = .int .i64 x3_1 ∧ v4 = .int .i64 x4_1 ∧ Aside0 (spec_l31Area.l0 kq l0 x3_1 x4_1 = some r) ∧ Aside0 (kq ≤ k) ∧ Aside0 (Below w.heap.size w w'))
 case atStart => exact ⟨(0), (0), (by first | rfl | (simp; done) | (simp [*]; done)), (by first | rfl | (simp; done) | (simp [*]; done)), H', ⟨Nat.le_refl _⟩, ⟨lb HB.out⟩⟩
 case round =>
  clear H'
  obtain ⟨x3_1, x4_1, rfl, rfl, HA, HK1, HB⟩ := hrel
  cases gk with
  | zero => exact absurd HA.out (by simp [spec_l31Area.l0])
  | succ k1 =>
   have H := HA.out
   clear HA
   simp only [spec_l31Area.l0] at H
   by_cases c2 : x4_1 < (l0.length : Int)
   ·rw [if_pos c2] at H
    have c2b0 : decide (x4_1 < (l0.length : Int)) = true := decide_eq_true c2
    clear c2
    by_cases c3 : 0 ≤ x4_1
    ·rw [if_pos c3] at H
     have c3b0 : decide (0 ≤ x4_1) = true := decide_eq_true c3
     clear c3
     by_cases c4 : (l0.length : Int) = 0
     ·rw [if_pos c4] at H
      exact absurd H (by simp)
     ·rw [if_neg c4] at H
      have c4b0 : ((l0.length : Int) == 0) = false := beq_eq_false_iff_ne.mpr c4
      have c4b1 : ((l0.length : Int) != 0) = true := bne_iff_ne.mpr c4
      have c4b2 : ¬ (l0 = []) := fun h_ => c4 (by rw [h_]; rfl)
      obtain ⟨ji5, hji5⟩ : ∃ j_ : Int, (Int.tmod (wrap64 (x4_1 + 1)) (l0.length : Int)) = j_ := ⟨_, rfl⟩
      replace H : (if 0 ≤ (ji5) then (if (ji5) < (l0.length : Int) then ((spec_l2Cross.f ((rd_T33 l0 x4_1).f0) ((rd_T33 l0 x4_1).f1) ((rd_T33 l0 (ji5)).f0) ((rd_T33 l0 (ji5)).f1)).bind fun t327 => (spec_l31Area.l0 k1 l0 (wrap64 (x3_1 + t327)) (wrap64 (x4_1 + 1)))) else (none)) else (none)) = some r := by first | (rw [hji5] at H; exact H) | (simp only [hji5] at H ⊢; exact H)
      by_cases c6 : 0 ≤ (ji5)
      ·rw [if_pos c6] at H
       have c6b0 : decide (0 ≤ (ji5)) = true := decide_eq_true c6
       clear c6
       by_cases c7 : (ji5) < (l0.length : Int)
       ·rw [if_pos c7] at H
        have c7b0 : decide ((ji5) < (l0.length : Int)) = true := decide_eq_true c7
        clear c7
        replace H := Option.bind_eq_some_iff.mp H
        obtain ⟨t327, A80, H⟩ := H
        replace H : (spec_l31Area.l0 k1 l0 (wrap64 (x3_1 + t327)) (wrap64 (x4_1 + 1))) = some r := H
        have A8 := Aside0.mk A80
        clear A80
        have H' := Aside0.mk H
        clear H
        try go_wp2
        have n0_ := Aside0.mk (below_drew1 HB.out)
        clear HB
        have HB := n0_
        clear n0_
        have p325 : 0 ≤ (x4_1 : Int) := oa
        have q325 : x4_1 < (l0.length : Int) := oa
        obtain ⟨ad325, e325, hx325_0, hx325_1⟩ := at_T33 HR0.out x4_1 p325 q325
        have hw325_1 := hx325_1
        have hw325_0 := hx325_0
        cases e325
        replace hx325_0 := (HB.out.cell (World.block_lt_of_cell? w _ hx325_0)).trans hx325_0
        replace hx325_1 := (HB.out.cell (World.block_lt_of_cell? w _ hx325_1)).trans hx325_1
        replace p325 := eq_true p325
        replace q325 := eq_true q325
        have p326 : 0 ≤ ((ji5) : Int) := oa
        have q326 : (ji5) < (l0.length : Int) := oa
        obtain ⟨ad326, e326, hx326_0, hx326_1⟩ := at_T33 HR0.out (ji5) p326 q326
        have hw326_1 := hx326_1
        have hw326_0 := hx326_0
        obtain rfl : ad325 = ad326 := (by injection e326)
        replace hx326_0 := (HB.out.cell (World.block_lt_of_cell? w _ hx326_0)).trans hx326_0
        replace hx326_1 := (HB.out.cell (World.block_lt_of_cell? w _ hx326_1)).trans hx326_1
        replace p326 := eq_true p326
        replace q326 := eq_true q326
        refine start_ (n := 16) (S := fun w' => w'.cell? (ad325.add ((x4_1).toNat * 2)) = some (.int .i64 ((rd_T33 l0 x4_1).f0)) ∧ w'.cell? ⟨(ad325.add ((x4_1).toNat * 2)).block, (ad325.add ((x4_1).toNat * 2)).off + 1, none⟩ = some (.int .i64 ((rd_T33 l0 x4_1).f1)) ∧ w'.cell? (ad325.add (((ji5)).toNat * 2)) = some (.int .i64 ((rd_T33 l0 (ji5)).f0)) ∧ w'.cell? ⟨(ad325.add (((ji5)).toNat * 2)).block, (ad325.add (((ji5)).toNat * 2)).off + 1, none⟩ = some (.int .i64 ((rd_T33 l0 (ji5)).f1))) (ds := []) #[false,false,false,false,false,false,false,false,false,false,false,false,false,false,false,false] (by kernel_rfl) rfl rfl ⟨((HB.out.cell (World.block_lt_of_cell? w _ hw325_0)).trans hw325_0), ((HB.out.cell (World.block_lt_of_cell? w _ hw325_1)).trans hw325_1), ((HB.out.cell (World.block_lt_of_cell? w _ hw326_0)).trans hw326_0), ((HB.out.cell (World.block_lt_of_cell? w _ hw326_1)).trans hw326_1)⟩ (fun hHeld => ?_); refine with_tabW spec_l31Area.tab5 spec_l31Area.bits5 (fun HT_ HW_ => ?_)
        generalize wr.drew = w9 at HB hx325_0 hx325_1 hx326_0 hx326_1 hHeld ⊢
        refine pq_ 0 (some 11) ?_
        refine pq_ 1 (some 12) ?_
        refine pq_ 2 (some 13) ?_
        refine pq_ 3 (some 14) ?_
        refine pq_ 5 (some 16) ?_
        refine pq_ 6 (some 17) ?_
        refine pq_ 7 (some 18) ?_
        refine pq_ 8 (some 19) ?_
        refine pq_ 9 (some 20) ?_
        refine pq_ 10 (some 21) ?_
        refine pq_ 11 (some 22) ?_
        refine tq_ 4 (some 15) ?_
        refine tq_ 12 (some 23) ?_
        refine one_ (i := 13) (N := some 24) #[true,true,true,true,true,true,true,true,true,true,true,true,true,true,false,false] rfl rfl (one_of HT_.out (by kernel_rfl)) (by decide) (fun K hK => ?_)
        refine goes_ Try.func78 (by kernel_rfl) rfl #[.agg #[.int .i64 ((rd_T33 l0 x4_1).f0), .int .i64 ((rd_T33 l0 x4_1).f1)], .agg #[.int .i64 ((rd_T33 l0 (ji5)).f0), .int .i64 ((rd_T33 l0 (ji5)).f1)]] (by rfl) rfl rfl (by (try simp only [List.map_toArray, List.map_cons, List.map_nil]); first | done | (simp only [hji5]; rfl) | rfl | (simp only [List.length_drop, List.length_take]; rfl)) ?_
        with_reducible refine (spec_l2Cross.calls ((rd_T33 l0 x4_1).f0) ((rd_T33 l0 x4_1).f1) ((rd_T33 l0 (ji5)).f0) ((rd_T33 l0 (ji5)).f1) t327 _ A8.out).mono ?_
        rintro e w10 ⟨rfl, hb⟩
        refine ⟨_, rfl, ?_⟩
        have n0_ := Aside0.mk (below_step (lb HB.out) hb)
        clear HB
        have HB := n0_
        clear n0_
        (try clear hb);(try clear hb2);(try clear hk);(try clear hi)
        refine hK.out _ _ ⟨((HB.out.cell (World.block_lt_of_cell? w _ hw325_0)).trans hw325_0), ((HB.out.cell (World.block_lt_of_cell? w _ hw325_1)).trans hw325_1), ((HB.out.cell (World.block_lt_of_cell? w _ hw326_0)).trans hw326_0), ((HB.out.cell (World.block_lt_of_cell? w _ hw326_1)).trans hw326_1)⟩ (fun hHeld => ?_)
        clear hK K
        refine norm_ (a' := ?_) ?_ ?_
        rotate_left
        ·show Act.put _ (some 24) _ = _
         simp only [Act.put, List.setIfInBounds_toArray, List.set_cons_zero, List.set_cons_succ, i64_w, i32_w]
         rfl
        refine pq_ 14 (some 25) ?_
        refine pq_ 15 (some 3) ?_
        refine done_ (done_of HT_.out (by kernel_rfl)) ?_
        try go_wp2
        go_roundg k1
        case measure => have := HK1.out; omega
        case rel => exact ⟨(wrap64 (x3_1 + t327)), (wrap64 (x4_1 + 1)), (by first | rfl | (simp; done) | (simp [*]; done)), (by first | rfl | (simp; done) | (simp [*]; done)), H', ⟨by have := HK1.out; omega⟩, ⟨lb HB.out⟩⟩
       ·rw [if_neg c7] at H
        exact absurd H (by simp)
      ·rw [if_neg c6] at H
       exact absurd H (by simp)
    ·rw [if_neg c3] at H
     exact absurd H (by simp)
   ·rw [if_neg c2] at H
    have c2b0 : decide (x4_1 < (l0.length : Int)) = false := decide_eq_false c2
    clear c2
    obtain rfl := Option.some.inj H
    go_wp2
    go_ret
    exact ⟨er, lb HB.out⟩
def spec_l1Sign.f (a0 : Int) : Option (Int) := some (mx (-1) (mn 1 a0))
set_option maxHeartbeats 8000000 in
set_option maxRecDepth 100000 in
theorem spec_l1Sign.calls (a0 : Int) (r : Int) (w : World) (h : spec_l1Sign.f a0 = some r) :
  Calls Try.prog 83 #[.int .i64 a0] w fun e w' => e = .returned (.int .i64 r) ∧ Below w.heap.size w w' := by
 have HB := Aside0.mk (Below.refl w.heap.size w)
 have H : (some (mx (-1) (mn 1 a0))) = some r := h
 clear h
 obtain ⟨ji2, hji2⟩ : ∃ j_ : Int, (mn 1 a0) = j_ := ⟨_, rfl⟩
 replace H : (some (mx (-1) (ji2))) = some r := by first | (rw [hji2] at H; exact H) | (simp only [hji2] at H ⊢; exact H)
 (try (have hji2h : ji2 ≤ 1 := by (rw [← hji2]; unfold mn; (repeat' split) <;> omega)))
 (try (have hji2g : ji2 ≤ 64 := by omega))
 have hji2_ : (if a0 < 1 then a0 else 1) = ji2 := hji2
 obtain ⟨ji3, hji3⟩ : ∃ j_ : Int, (mx (-1) (ji2)) = j_ := ⟨_, rfl⟩
 replace H : (some ji3) = some r := by first | (rw [hji3] at H; exact H) | (simp only [hji3] at H ⊢; exact H)
 have hji3_ : (if (-1) < (ji2) then (ji2) else (-1)) = ji3 := hji3
 obtain rfl := Option.some.inj H
 go_enter Try.func83, Try.ntmps83
 go_wp2
 go_ret
 exact ⟨by first | rfl | (simp [errW_none, errW_some] <;> rfl) | (simp only [← hji2, ← hji3]; first | rfl | (simp [errW_none, errW_some] <;> rfl)) | (simp [*, errW_none, errW_some] <;> rfl), lb HB.out⟩
def spec_l2Step.f (a0_0 : Int) (a0_1 : Int) (a1_0 : Int) (a1_1 : Int) : Option (Int × Int) := some (wrap64 (a1_0 - a0_0), wrap64 (a1_1 - a0_1))
set_option maxHeartbeats 8000000 in
set_option maxRecDepth 100000 in
theorem spec_l2Step.calls (a0_0 : Int) (a0_1 : Int) (a1_0 : Int) (a1_1 : Int) (r1 : Int) (r2 : Int) (w : World) (h : spec_l2Step.f a0_0 a0_1 a1_0 a1_1 = some (r1, r2)) :
  Calls Try.prog 84 #[.agg #[.int .i64 a0_0, .int .i64 a0_1], .agg #[.int .i64 a1_0, .int .i64 a1_1]] w fun e w' => e = .returned (.agg #[.int .i64 r1, .int .i64 r2]) ∧ Below w.heap.size w w' := by
 have hu33 := Try.underlying33
 have HB := Aside0.mk (Below.refl w.heap.size w)
 have H : (some (wrap64 (a1_0 - a0_0), wrap64 (a1_1 - a0_1))) = some (r1, r2) := h
 clear h
 simp only [Option.some.injEq, Prod.mk.injEq] at H
 obtain ⟨rfl, rfl⟩ := H
 go_enter Try.func84, Try.ntmps84
 go_wp2_with (first | ((with_reducible refine gate_dst (N := 2) rfl ?_); refine bx_ 2 (cs := #[.int .i64 a0_0, .int .i64 a0_1]) (t := 33) ?_; intro gb328 hg w3 hbox hb; have n0_ := Aside0.mk (below_step (lb HB.out) hb); have n1_ := Aside0.mk (hbox); have n2_ := Aside0.mk ((by rw [hg]; exact (below_size (lb HB.out)) : w.heap.size ≤ gb328)); have n3_ := Aside0.mk ((by rw [hg]; exact (below_size (lb HB.out)) : w.heap.size ≤ gb328)); clear HB; have HB := n0_; have BK328 := n1_; have GW328 := n2_; have GE328 := n3_; clear n0_ n1_ n2_ n3_; clear hb hbox hg) | ((with_reducible refine gate_dst (N := 3) rfl ?_); refine bx_ 3 (cs := #[.int .i64 a1_0, .int .i64 a1_1]) (t := 33) ?_; intro gb329 hg w4 hbox hb; have n0_ := Aside0.mk (blk_below (bf BK328.out) hb); have n1_ := Aside0.mk (below_step (lb HB.out) hb); have n2_ := Aside0.mk (hbox); have n3_ := Aside0.mk ((by rw [hg]; exact (below_size (lb HB.out)) : w.heap.size ≤ gb329)); have n4_ := Aside0.mk ((by rw [hg]; exact (below_size (lb HB.out)) : w.heap.size ≤ gb329)); have n5_ := Aside0.mk ((by rw [hg]; exact Nat.ne_of_lt (blk_lt (bf BK328.out)) : gb328 ≠ gb329)); have n6_ := Aside0.mk ((by rw [hg]; exact Nat.ne_of_gt (blk_lt (bf BK328.out)) : gb329 ≠ gb328)); clear BK328; clear HB; have BK328 := n0_; have HB := n1_; have BK329 := n2_; have GW329 := n3_; have GE329 := n4_; have NB328_329 := n5_; have NB329_328 := n6_; clear n0_ n1_ n2_ n3_ n4_ n5_ n6_; clear hb hbox hg) | ((with_reducible refine gate_dst (N := 4) rfl ?_); refine bx_ 4 (cs := #[.int .i64 0, .int .i64 0]) (t := 33) ?_; intro gb330 hg w5 hbox hb; have n0_ := Aside0.mk (blk_below (bf BK328.out) hb); have n1_ := Aside0.mk (blk_below (bf BK329.out) hb); have n2_ := Aside0.mk (below_step (lb HB.out) hb); have n3_ := Aside0.mk (hbox); have n4_ := Aside0.mk ((by rw [hg]; exact (below_size (lb HB.out)) : w.heap.size ≤ gb330)); have n5_ := Aside0.mk ((by rw [hg]; exact (below_size (lb HB.out)) : w.heap.size ≤ gb330)); have n6_ := Aside0.mk ((by rw [hg]; exact Nat.ne_of_lt (blk_lt (bf BK328.out)) : gb328 ≠ gb330)); have n7_ := Aside0.mk ((by rw [hg]; exact Nat.ne_of_gt (blk_lt (bf BK328.out)) : gb330 ≠ gb328)); have n8_ := Aside0.mk ((by rw [hg]; exact Nat.ne_of_lt (blk_lt (bf BK329.out)) : gb329 ≠ gb330)); have n9_ := Aside0.mk ((by rw [hg]; exact Nat.ne_of_gt (blk_lt (bf BK329.out)) : gb330 ≠ gb329)); clear BK328; clear BK329; clear HB; have BK328 := n0_; have BK329 := n1_; have HB := n2_; have BK330 := n3_; have GW330 := n4_; have GE330 := n5_; have NB328_330 := n6_; have NB330_328 := n7_; have NB329_330 := n8_; have NB330_329 := n9_; clear n0_ n1_ n2_ n3_ n4_ n5_ n6_ n7_ n8_ n9_; clear hb hbox hg; have hnb6 := NB329_328.out; have hnc6 := NB328_329.out; have hnb7 := NB329_330.out; have hnc7 := NB330_329.out; have hcz8_0 : w5.cell? ⟨gb329, 0, none⟩ = some (.int .i64 a1_0) := (blk_cell BK329.out 0).trans rfl; have hcz8_1 : w5.cell? ⟨gb329, 1, none⟩ = some (.int .i64 a1_1) := (blk_cell BK329.out 1).trans rfl; have hfz8_0 := blk_frozen BK329.out 0; have hfz8_1 := blk_frozen BK329.out 1; have hnb9 := NB328_330.out; have hnc9 := NB330_328.out; have hcz10_0 : w5.cell? ⟨gb328, 0, none⟩ = some (.int .i64 a0_0) := (blk_cell BK328.out 0).trans rfl; have hcz10_1 : w5.cell? ⟨gb328, 1, none⟩ = some (.int .i64 a0_1) := (blk_cell BK328.out 1).trans rfl; have hfz10_0 := blk_frozen BK328.out 0; have hfz10_1 := blk_frozen BK328.out 1; have hcz11_0 : w5.cell? ⟨gb330, 0, none⟩ = some (.int .i64 0) := (blk_cell BK330.out 0).trans rfl; have hcz11_1 : w5.cell? ⟨gb330, 1, none⟩ = some (.int .i64 0) := (blk_cell BK330.out 1).trans rfl; have hfz11_0 := blk_frozen BK330.out 0; have hfz11_1 := blk_frozen BK330.out 1))
 refine bodyPost_ret (results_cell_row rfl _ _ gb330 33 #[.int .i64 (wrap64 (a1_0 - a0_0)), .int .i64 (wrap64 (a1_1 - a0_1))] (0, 0) _ rfl (bp BK330.out) Try.underlying33 rfl (by kernel_rfl)) rfl ?_
 exact ⟨er, lb HB.out⟩
def spec_l31Side.f (a0_0 : Int) (a0_1 : Int) (a1_0 : Int) (a1_1 : Int) (a2_0 : Int) (a2_1 : Int) : Option (Int) := (spec_l2Step.f a0_0 a0_1 a1_0 a1_1).bind fun bt334 => ((spec_l2Step.f a0_0 a0_1 a2_0 a2_1).bind fun bt336 => ((spec_l2Cross.f bt334.1 bt334.2 bt336.1 bt336.2).bind fun t338 => ((spec_l1Sign.f t338).bind fun t339 => (some t339))))
def spec_l31Side.T1 : Bool × List (List Nat × List Nat) := (true,[([],[]),([],[]),([0,1],[0,1]),([],[]),([],[]),([3,4,2],[3,4]),([2,5,5],[2,5]),([6,6],[6]),([7,7,0,1,2,3,4,5,6,7],[7])])
def spec_l31Side.B1 : List Nat := [0,0,3,0,0,31,63,127,255]
theorem spec_l31Side.tab1 : rtab .any (opsOf Try.f55 1) = spec_l31Side.T1 := by kernel_rfl
theorem spec_l31Side.bits1 : waitsOk spec_l31Side.T1.2 spec_l31Side.B1 = true := by kernel_rfl
set_option maxHeartbeats 8000000 in
set_option maxRecDepth 100000 in
theorem spec_l31Side.calls (a0_0 : Int) (a0_1 : Int) (a1_0 : Int) (a1_1 : Int) (a2_0 : Int) (a2_1 : Int) (r : Int) (w : World) (h : spec_l31Side.f a0_0 a0_1 a1_0 a1_1 a2_0 a2_1 = some r) :
  Calls Try.prog 55 #[.agg #[.int .i64 a0_0, .int .i64 a0_1], .agg #[.int .i64 a1_0, .int .i64 a1_1], .agg #[.int .i64 a2_0, .int .i64 a2_1]] w fun e w' => e = .returned (.int .i64 r) ∧ Below w.heap.size w w' := by
 have hu33 := Try.underlying33
 have HB := Aside0.mk (Below.refl w.heap.size w)
 have H : ((spec_l2Step.f a0_0 a0_1 a1_0 a1_1).bind fun bt334 => ((spec_l2Step.f a0_0 a0_1 a2_0 a2_1).bind fun bt336 => ((spec_l2Cross.f bt334.1 bt334.2 bt336.1 bt336.2).bind fun t338 => ((spec_l1Sign.f t338).bind fun t339 => (some t339))))) = some r := h
 clear h
 replace H := Option.bind_eq_some_iff.mp H
 obtain ⟨⟨t334, t335⟩, A40, H⟩ := H
 replace H : ((spec_l2Step.f a0_0 a0_1 a2_0 a2_1).bind fun bt336 => ((spec_l2Cross.f t334 t335 bt336.1 bt336.2).bind fun t338 => ((spec_l1Sign.f t338).bind fun t339 => (some t339)))) = some r := H
 have A4 := Aside0.mk A40
 clear A40
 replace H := Option.bind_eq_some_iff.mp H
 obtain ⟨⟨t336, t337⟩, A50, H⟩ := H
 replace H : ((spec_l2Cross.f t334 t335 t336 t337).bind fun t338 => ((spec_l1Sign.f t338).bind fun t339 => (some t339))) = some r := H
 have A5 := Aside0.mk A50
 clear A50
 replace H := Option.bind_eq_some_iff.mp H
 obtain ⟨t338, A60, H⟩ := H
 replace H : ((spec_l1Sign.f t338).bind fun t339 => (some t339)) = some r := H
 have A6 := Aside0.mk A60
 clear A60
 replace H := Option.bind_eq_some_iff.mp H
 obtain ⟨t339, A70, H⟩ := H
 replace H : (some t339) = some r := H
 have A7 := Aside0.mk A70
 clear A70
 obtain rfl := Option.some.inj H
 go_enter Try.func55, Try.ntmps55
 try go_wp2_with (first | ((with_reducible refine gate_dst (N := 3) rfl ?_); refine bx_ 3 (cs := #[.int .i64 a0_0, .int .i64 a0_1]) (t := 33) ?_; intro gb331 hg w8 hbox hb; have n0_ := Aside0.mk (below_step (lb HB.out) hb); have n1_ := Aside0.mk (hbox); have n2_ := Aside0.mk ((by rw [hg]; exact (below_size (lb HB.out)) : w.heap.size ≤ gb331)); have n3_ := Aside0.mk ((by rw [hg]; exact (below_size (lb HB.out)) : w.heap.size ≤ gb331)); clear HB; have HB := n0_; have BK331 := n1_; have GW331 := n2_; have GE331 := n3_; clear n0_ n1_ n2_ n3_; clear hb hbox hg) | ((with_reducible refine gate_dst (N := 4) rfl ?_); refine bx_ 4 (cs := #[.int .i64 a1_0, .int .i64 a1_1]) (t := 33) ?_; intro gb332 hg w9 hbox hb; have n0_ := Aside0.mk (blk_below (bf BK331.out) hb); have n1_ := Aside0.mk (below_step (lb HB.out) hb); have n2_ := Aside0.mk (hbox); have n3_ := Aside0.mk ((by rw [hg]; exact (below_size (lb HB.out)) : w.heap.size ≤ gb332)); have n4_ := Aside0.mk ((by rw [hg]; exact (below_size (lb HB.out)) : w.heap.size ≤ gb332)); have n5_ := Aside0.mk ((by rw [hg]; exact Nat.ne_of_lt (blk_lt (bf BK331.out)) : gb331 ≠ gb332)); have n6_ := Aside0.mk ((by rw [hg]; exact Nat.ne_of_gt (blk_lt (bf BK331.out)) : gb332 ≠ gb331)); clear BK331; clear HB; have BK331 := n0_; have HB := n1_; have BK332 := n2_; have GW332 := n3_; have GE332 := n4_; have NB331_332 := n5_; have NB332_331 := n6_; clear n0_ n1_ n2_ n3_ n4_ n5_ n6_; clear hb hbox hg) | ((with_reducible refine gate_dst (N := 5) rfl ?_); refine bx_ 5 (cs := #[.int .i64 a2_0, .int .i64 a2_1]) (t := 33) ?_; intro gb333 hg w10 hbox hb; have n0_ := Aside0.mk (blk_below (bf BK331.out) hb); have n1_ := Aside0.mk (blk_below (bf BK332.out) hb); have n2_ := Aside0.mk (below_step (lb HB.out) hb); have n3_ := Aside0.mk (hbox); have n4_ := Aside0.mk ((by rw [hg]; exact (below_size (lb HB.out)) : w.heap.size ≤ gb333)); have n5_ := Aside0.mk ((by rw [hg]; exact (below_size (lb HB.out)) : w.heap.size ≤ gb333)); have n6_ := Aside0.mk ((by rw [hg]; exact Nat.ne_of_lt (blk_lt (bf BK331.out)) : gb331 ≠ gb333)); have n7_ := Aside0.mk ((by rw [hg]; exact Nat.ne_of_gt (blk_lt (bf BK331.out)) : gb333 ≠ gb331)); have n8_ := Aside0.mk ((by rw [hg]; exact Nat.ne_of_lt (blk_lt (bf BK332.out)) : gb332 ≠ gb333)); have n9_ := Aside0.mk ((by rw [hg]; exact Nat.ne_of_gt (blk_lt (bf BK332.out)) : gb333 ≠ gb332)); clear BK331; clear BK332; clear HB; have BK331 := n0_; have BK332 := n1_; have HB := n2_; have BK333 := n3_; have GW333 := n4_; have GE333 := n5_; have NB331_333 := n6_; have NB333_331 := n7_; have NB332_333 := n8_; have NB333_332 := n9_; clear n0_ n1_ n2_ n3_ n4_ n5_ n6_ n7_ n8_ n9_; clear hb hbox hg))
 have n0_ := Aside0.mk (blk_drew BK331.out)
 have n1_ := Aside0.mk (blk_drew BK332.out)
 have n2_ := Aside0.mk (blk_drew BK333.out)
 have n3_ := Aside0.mk (below_drew1 HB.out)
 clear BK331 BK332 BK333 HB
 have BK331 := n0_
 have BK332 := n1_
 have BK333 := n2_
 have HB := n3_
 clear n0_ n1_ n2_ n3_
 refine start_ (n := 9) (S := fun w' => w'.cell? ⟨gb331, 0, none⟩ = some (.int .i64 a0_0) ∧ w'.cell? ⟨gb331, 1, none⟩ = some (.int .i64 a0_1) ∧ w'.cell? ⟨gb332, 0, none⟩ = some (.int .i64 a1_0) ∧ w'.cell? ⟨gb332, 1, none⟩ = some (.int .i64 a1_1) ∧ w'.cell? ⟨gb333, 0, none⟩ = some (.int .i64 a2_0) ∧ w'.cell? ⟨gb333, 1, none⟩ = some (.int .i64 a2_1)) (ds := []) #[false,false,false,false,false,false,false,false,false] (by kernel_rfl) rfl rfl ⟨(blk_cell BK331.out 0).trans rfl, (blk_cell BK331.out 1).trans rfl, (blk_cell BK332.out 0).trans rfl, (blk_cell BK332.out 1).trans rfl, (blk_cell BK333.out 0).trans rfl, (blk_cell BK333.out 1).trans rfl⟩ (fun hHeld => ?_); refine with_tabW spec_l31Side.tab1 spec_l31Side.bits1 (fun HT_ HW_ => ?_)
 generalize w10.drew = w11 at BK331 BK332 BK333 HB hHeld ⊢
 refine tq_ 0 (some 7) ?_
 refine tq_ 1 (some 8) ?_
 refine tq_ 3 (some 10) ?_
 refine tq_ 4 (some 11) ?_
 refine one_ (i := 2) (N := some 9) #[true,true,true,true,true,false,false,false,false] rfl rfl (one_of HT_.out (by kernel_rfl)) (by decide) (fun K hK => ?_)
 refine goes_ Try.func84 (by kernel_rfl) rfl #[.agg #[.int .i64 a0_0, .int .i64 a0_1], .agg #[.int .i64 a1_0, .int .i64 a1_1]] (by rfl) rfl rfl al ?_
 with_reducible refine (spec_l2Step.calls a0_0 a0_1 a1_0 a1_1 t334 t335 _ A4.out).mono ?_
 rintro e w12 ⟨rfl, hb⟩
 refine ⟨_, rfl, ?_⟩
 have n0_ := Aside0.mk (blk_below (bf BK331.out) hb)
 have n1_ := Aside0.mk (blk_below (bf BK332.out) hb)
 have n2_ := Aside0.mk (blk_below (bf BK333.out) hb)
 have n3_ := Aside0.mk (below_step (lb HB.out) hb)
 clear BK331 BK332 BK333 HB
 have BK331 := n0_
 have BK332 := n1_
 have BK333 := n2_
 have HB := n3_
 clear n0_ n1_ n2_ n3_
 (try clear hb);(try clear hb2);(try clear hk);(try clear hi)
 refine hK.out _ _ ⟨(blk_cell BK331.out 0).trans rfl, (blk_cell BK331.out 1).trans rfl, (blk_cell BK332.out 0).trans rfl, (blk_cell BK332.out 1).trans rfl, (blk_cell BK333.out 0).trans rfl, (blk_cell BK333.out 1).trans rfl⟩ (fun hHeld => ?_)
 clear hK K
 refine norm_ (a' := ?_) ?_ ?_
 rotate_left
 ·show Act.put _ (some 9) _ = _
  simp only [Act.put, List.setIfInBounds_toArray, List.set_cons_zero, List.set_cons_succ, i64_w, i32_w]
  rfl
 refine one_ (i := 5) (N := some 12) #[true,true,true,true,true,true,false,false,false] rfl rfl (one_of HT_.out (by kernel_rfl)) (by decide) (fun K hK => ?_)
 refine goes_ Try.func84 (by kernel_rfl) rfl #[.agg #[.int .i64 a0_0, .int .i64 a0_1], .agg #[.int .i64 a2_0, .int .i64 a2_1]] (by rfl) rfl rfl al ?_
 with_reducible refine (spec_l2Step.calls a0_0 a0_1 a2_0 a2_1 t336 t337 _ A5.out).mono ?_
 rintro e w13 ⟨rfl, hb⟩
 refine ⟨_, rfl, ?_⟩
 have n0_ := Aside0.mk (blk_below (bf BK331.out) hb)
 have n1_ := Aside0.mk (blk_below (bf BK332.out) hb)
 have n2_ := Aside0.mk (blk_below (bf BK333.out) hb)
 have n3_ := Aside0.mk (below_step (lb HB.out) hb)
 clear BK331 BK332 BK333 HB
 have BK331 := n0_
 have BK332 := n1_
 have BK333 := n2_
 have HB := n3_
 clear n0_ n1_ n2_ n3_
 (try clear hb);(try clear hb2);(try clear hk);(try clear hi)
 refine hK.out _ _ ⟨(blk_cell BK331.out 0).trans rfl, (blk_cell BK331.out 1).trans rfl, (blk_cell BK332.out 0).trans rfl, (blk_cell BK332.out 1).trans rfl, (blk_cell BK333.out 0).trans rfl, (blk_cell BK333.out 1).trans rfl⟩ (fun hHeld => ?_)
 clear hK K
 refine norm_ (a' := ?_) ?_ ?_
 rotate_left
 ·show Act.put _ (some 12) _ = _
  simp only [Act.put, List.setIfInBounds_toArray, List.set_cons_zero, List.set_cons_succ, i64_w, i32_w]
  rfl
 refine one_ (i := 6) (N := some 13) #[true,true,true,true,true,true,true,false,false] rfl rfl (one_of HT_.out (by kernel_rfl)) (by decide) (fun K hK => ?_)
 refine goes_ Try.func78 (by kernel_rfl) rfl #[.agg #[.int .i64 t334, .int .i64 t335], .agg #[.int .i64 t336, .int .i64 t337]] (by rfl) rfl rfl al ?_
 with_reducible refine (spec_l2Cross.calls t334 t335 t336 t337 t338 _ A6.out).mono ?_
 rintro e w14 ⟨rfl, hb⟩
 refine ⟨_, rfl, ?_⟩
 have n0_ := Aside0.mk (blk_below (bf BK331.out) hb)
 have n1_ := Aside0.mk (blk_below (bf BK332.out) hb)
 have n2_ := Aside0.mk (blk_below (bf BK333.out) hb)
 have n3_ := Aside0.mk (below_step (lb HB.out) hb)
 clear BK331 BK332 BK333 HB
 have BK331 := n0_
 have BK332 := n1_
 have BK333 := n2_
 have HB := n3_
 clear n0_ n1_ n2_ n3_
 (try clear hb);(try clear hb2);(try clear hk);(try clear hi)
 refine hK.out _ _ ⟨(blk_cell BK331.out 0).trans rfl, (blk_cell BK331.out 1).trans rfl, (blk_cell BK332.out 0).trans rfl, (blk_cell BK332.out 1).trans rfl, (blk_cell BK333.out 0).trans rfl, (blk_cell BK333.out 1).trans rfl⟩ (fun hHeld => ?_)
 clear hK K
 refine norm_ (a' := ?_) ?_ ?_
 rotate_left
 ·show Act.put _ (some 13) _ = _
  simp only [Act.put, List.setIfInBounds_toArray, List.set_cons_zero, List.set_cons_succ, i64_w, i32_w]
  rfl
 refine one_ (i := 7) (N := some 14) #[true,true,true,true,true,true,true,true,false] rfl rfl (one_of HT_.out (by kernel_rfl)) (by decide) (fun K hK => ?_)
 refine goes_ Try.func83 (by kernel_rfl) rfl #[.int .i64 t338] (by rfl) rfl rfl al ?_
 with_reducible refine (spec_l1Sign.calls t338 t339 _ A7.out).mono ?_
 rintro e w15 ⟨rfl, hb⟩
 refine ⟨_, rfl, ?_⟩
 have n0_ := Aside0.mk (blk_below (bf BK331.out) hb)
 have n1_ := Aside0.mk (blk_below (bf BK332.out) hb)
 have n2_ := Aside0.mk (blk_below (bf BK333.out) hb)
 have n3_ := Aside0.mk (below_step (lb HB.out) hb)
 clear BK331 BK332 BK333 HB
 have BK331 := n0_
 have BK332 := n1_
 have BK333 := n2_
 have HB := n3_
 clear n0_ n1_ n2_ n3_
 (try clear hb);(try clear hb2);(try clear hk);(try clear hi)
 refine hK.out _ _ ⟨(blk_cell BK331.out 0).trans rfl, (blk_cell BK331.out 1).trans rfl, (blk_cell BK332.out 0).trans rfl, (blk_cell BK332.out 1).trans rfl, (blk_cell BK333.out 0).trans rfl, (blk_cell BK333.out 1).trans rfl⟩ (fun hHeld => ?_)
 clear hK K
 refine norm_ (a' := ?_) ?_ ?_
 rotate_left
 ·show Act.put _ (some 14) _ = _
  simp only [Act.put, List.setIfInBounds_toArray, List.set_cons_zero, List.set_cons_succ, i64_w, i32_w]
  rfl
 refine pq_ 8 (some 6) ?_
 refine done_ (done_of HT_.out (by kernel_rfl)) ?_
 try go_wp2
 go_ret
 exact ⟨er, lb HB.out⟩
def spec_l2On.f (a0_0 : Int) (a0_1 : Int) (a1_0 : Int) (a1_1 : Int) (a2_0 : Int) (a2_1 : Int) : Option (Bool) := (spec_l2Step.f a0_0 a0_1 a1_0 a1_1).bind fun bt343 => ((spec_l2Step.f a0_0 a0_1 a2_0 a2_1).bind fun bt345 => ((spec_l2Cross.f bt343.1 bt343.2 bt345.1 bt345.2).bind fun t347 => (if t347 = 0 then ((spec_l6In.f a2_0 (mn a0_0 a1_0) (mx a0_0 a1_0)).bind fun t348 => (if t348 = true then ((spec_l6In.f a2_1 (mn a0_1 a1_1) (mx a0_1 a1_1)).bind fun t349 => (some t349)) else (some false))) else (some false))))
def spec_l2On.T1 : Bool × List (List Nat × List Nat) := (true,[([],[]),([],[]),([0,1],[0,1]),([],[]),([],[]),([3,4,2],[3,4]),([2,5,5],[2,5]),([6],[6])])
def spec_l2On.B1 : List Nat := [0,0,3,0,0,31,63,127]
theorem spec_l2On.tab1 : rtab .any (opsOf Try.f87 1) = spec_l2On.T1 := by kernel_rfl
theorem spec_l2On.bits1 : waitsOk spec_l2On.T1.2 spec_l2On.B1 = true := by kernel_rfl
set_option maxHeartbeats 8000000 in
set_option maxRecDepth 100000 in
theorem spec_l2On.calls (a0_0 : Int) (a0_1 : Int) (a1_0 : Int) (a1_1 : Int) (a2_0 : Int) (a2_1 : Int) (r : Bool) (w : World) (h : spec_l2On.f a0_0 a0_1 a1_0 a1_1 a2_0 a2_1 = some r) :
  Calls Try.prog 87 #[.agg #[.int .i64 a0_0, .int .i64 a0_1], .agg #[.int .i64 a1_0, .int .i64 a1_1], .agg #[.int .i64 a2_0, .int .i64 a2_1]] w fun e w' => e = .returned (.bool r) ∧ Below w.heap.size w w' := by
 have hu33 := Try.underlying33
 have HB := Aside0.mk (Below.refl w.heap.size w)
 have H : ((spec_l2Step.f a0_0 a0_1 a1_0 a1_1).bind fun bt343 => ((spec_l2Step.f a0_0 a0_1 a2_0 a2_1).bind fun bt345 => ((spec_l2Cross.f bt343.1 bt343.2 bt345.1 bt345.2).bind fun t347 => (if t347 = 0 then ((spec_l6In.f a2_0 (mn a0_0 a1_0) (mx a0_0 a1_0)).bind fun t348 => (if t348 = true then ((spec_l6In.f a2_1 (mn a0_1 a1_1) (mx a0_1 a1_1)).bind fun t349 => (some t349)) else (some false))) else (some false))))) = some r := h
 clear h
 replace H := Option.bind_eq_some_iff.mp H
 obtain ⟨⟨t343, t344⟩, A40, H⟩ := H
 replace H : ((spec_l2Step.f a0_0 a0_1 a2_0 a2_1).bind fun bt345 => ((spec_l2Cross.f t343 t344 bt345.1 bt345.2).bind fun t347 => (if t347 = 0 then ((spec_l6In.f a2_0 (mn a0_0 a1_0) (mx a0_0 a1_0)).bind fun t348 => (if t348 = true then ((spec_l6In.f a2_1 (mn a0_1 a1_1) (mx a0_1 a1_1)).bind fun t349 => (some t349)) else (some false))) else (some false)))) = some r := H
 have A4 := Aside0.mk A40
 clear A40
 replace H := Option.bind_eq_some_iff.mp H
 obtain ⟨⟨t345, t346⟩, A50, H⟩ := H
 replace H : ((spec_l2Cross.f t343 t344 t345 t346).bind fun t347 => (if t347 = 0 then ((spec_l6In.f a2_0 (mn a0_0 a1_0) (mx a0_0 a1_0)).bind fun t348 => (if t348 = true then ((spec_l6In.f a2_1 (mn a0_1 a1_1) (mx a0_1 a1_1)).bind fun t349 => (some t349)) else (some false))) else (some false))) = some r := H
 have A5 := Aside0.mk A50
 clear A50
 replace H := Option.bind_eq_some_iff.mp H
 obtain ⟨t347, A60, H⟩ := H
 replace H : (if t347 = 0 then ((spec_l6In.f a2_0 (mn a0_0 a1_0) (mx a0_0 a1_0)).bind fun t348 => (if t348 = true then ((spec_l6In.f a2_1 (mn a0_1 a1_1) (mx a0_1 a1_1)).bind fun t349 => (some t349)) else (some false))) else (some false)) = some r := H
 have A6 := Aside0.mk A60
 clear A60
 by_cases c7 : t347 = 0
 ·rw [if_pos c7] at H
  have c7b0 : (t347 == 0) = true := beq_iff_eq.mpr c7
  have c7b1 : (t347 != 0) = false := bne_eq_false_iff_eq.mpr c7
  clear c7
  obtain ⟨ji8, hji8⟩ : ∃ j_ : Int, (mn a0_0 a1_0) = j_ := ⟨_, rfl⟩
  replace H : ((spec_l6In.f a2_0 (ji8) (mx a0_0 a1_0)).bind fun t348 => (if t348 = true then ((spec_l6In.f a2_1 (mn a0_1 a1_1) (mx a0_1 a1_1)).bind fun t349 => (some t349)) else (some false))) = some r := by first | (rw [hji8] at H; exact H) | (simp only [hji8] at H ⊢; exact H)
  (try rw [hji8] at A4)
  (try rw [hji8] at A5)
  (try rw [hji8] at A6)
  have hji8_ : (if a1_0 < a0_0 then a1_0 else a0_0) = ji8 := hji8
  obtain ⟨ji9, hji9⟩ : ∃ j_ : Int, (mx a0_0 a1_0) = j_ := ⟨_, rfl⟩
  replace H : ((spec_l6In.f a2_0 (ji8) (ji9)).bind fun t348 => (if t348 = true then ((spec_l6In.f a2_1 (mn a0_1 a1_1) (mx a0_1 a1_1)).bind fun t349 => (some t349)) else (some false))) = some r := by first | (rw [hji9] at H; exact H) | (simp only [hji9] at H ⊢; exact H)
  (try rw [hji9] at A4)
  (try rw [hji9] at A5)
  (try rw [hji9] at A6)
  have hji9_ : (if a0_0 < a1_0 then a1_0 else a0_0) = ji9 := hji9
  replace H := Option.bind_eq_some_iff.mp H
  obtain ⟨t348, A100, H⟩ := H
  replace H : (if t348 = true then ((spec_l6In.f a2_1 (mn a0_1 a1_1) (mx a0_1 a1_1)).bind fun t349 => (some t349)) else (some false)) = some r := H
  have A10 := Aside0.mk A100
  clear A100
  by_cases c11 : t348 = true
  ·subst c11
   have H1 : ((spec_l6In.f a2_1 (mn a0_1 a1_1) (mx a0_1 a1_1)).bind fun t349 => (some t349)) = some r := by rw [if_pos rfl] at H; exact H
   clear H
   have H := H1
   clear H1
   obtain ⟨ji12, hji12⟩ : ∃ j_ : Int, (mn a0_1 a1_1) = j_ := ⟨_, rfl⟩
   replace H : ((spec_l6In.f a2_1 (ji12) (mx a0_1 a1_1)).bind fun t349 => (some t349)) = some r := by first | (rw [hji12] at H; exact H) | (simp only [hji12] at H ⊢; exact H)
   (try rw [hji12] at A4)
   (try rw [hji12] at A5)
   (try rw [hji12] at A6)
   (try rw [hji12] at A10)
   have hji12_ : (if a1_1 < a0_1 then a1_1 else a0_1) = ji12 := hji12
   obtain ⟨ji13, hji13⟩ : ∃ j_ : Int, (mx a0_1 a1_1) = j_ := ⟨_, rfl⟩
   replace H : ((spec_l6In.f a2_1 (ji12) (ji13)).bind fun t349 => (some t349)) = some r := by first | (rw [hji13] at H; exact H) | (simp only [hji13] at H ⊢; exact H)
   (try rw [hji13] at A4)
   (try rw [hji13] at A5)
   (try rw [hji13] at A6)
   (try rw [hji13] at A10)
   have hji13_ : (if a0_1 < a1_1 then a1_1 else a0_1) = ji13 := hji13
   replace H := Option.bind_eq_some_iff.mp H
   obtain ⟨t349, A140, H⟩ := H
   replace H : (some t349) = some r := H
   have A14 := Aside0.mk A140
   clear A140
   obtain rfl := Option.some.inj H
   go_enter Try.func87, Try.ntmps87
   try go_wp2_with (first | ((with_reducible refine gate_dst (N := 3) rfl ?_); (try (refine gate_guard (by rfl) ?_; dsimp only)); refine bx_ 3 (cs := #[.int .i64 a0_0, .int .i64 a0_1]) (t := 33) ?_; intro gb340 hg w15 hbox hb; have n0_ := Aside0.mk (below_step (lb HB.out) hb); have n1_ := Aside0.mk (hbox); have n2_ := Aside0.mk ((by rw [hg]; exact (below_size (lb HB.out)) : w.heap.size ≤ gb340)); have n3_ := Aside0.mk ((by rw [hg]; exact (below_size (lb HB.out)) : w.heap.size ≤ gb340)); clear HB; have HB := n0_; have BK340 := n1_; have GW340 := n2_; have GE340 := n3_; clear n0_ n1_ n2_ n3_; clear hb hbox hg) | ((with_reducible refine gate_dst (N := 4) rfl ?_); (try (refine gate_guard (by rfl) ?_; dsimp only)); refine bx_ 4 (cs := #[.int .i64 a1_0, .int .i64 a1_1]) (t := 33) ?_; intro gb341 hg w16 hbox hb; have n0_ := Aside0.mk (blk_below (bf BK340.out) hb); have n1_ := Aside0.mk (below_step (lb HB.out) hb); have n2_ := Aside0.mk (hbox); have n3_ := Aside0.mk ((by rw [hg]; exact (below_size (lb HB.out)) : w.heap.size ≤ gb341)); have n4_ := Aside0.mk ((by rw [hg]; exact (below_size (lb HB.out)) : w.heap.size ≤ gb341)); have n5_ := Aside0.mk ((by rw [hg]; exact Nat.ne_of_lt (blk_lt (bf BK340.out)) : gb340 ≠ gb341)); have n6_ := Aside0.mk ((by rw [hg]; exact Nat.ne_of_gt (blk_lt (bf BK340.out)) : gb341 ≠ gb340)); clear BK340; clear HB; have BK340 := n0_; have HB := n1_; have BK341 := n2_; have GW341 := n3_; have GE341 := n4_; have NB340_341 := n5_; have NB341_340 := n6_; clear n0_ n1_ n2_ n3_ n4_ n5_ n6_; clear hb hbox hg) | ((with_reducible refine gate_dst (N := 5) rfl ?_); (try (refine gate_guard (by rfl) ?_; dsimp only)); refine bx_ 5 (cs := #[.int .i64 a2_0, .int .i64 a2_1]) (t := 33) ?_; intro gb342 hg w17 hbox hb; have n0_ := Aside0.mk (blk_below (bf BK340.out) hb); have n1_ := Aside0.mk (blk_below (bf BK341.out) hb); have n2_ := Aside0.mk (below_step (lb HB.out) hb); have n3_ := Aside0.mk (hbox); have n4_ := Aside0.mk ((by rw [hg]; exact (below_size (lb HB.out)) : w.heap.size ≤ gb342)); have n5_ := Aside0.mk ((by rw [hg]; exact (below_size (lb HB.out)) : w.heap.size ≤ gb342)); have n6_ := Aside0.mk ((by rw [hg]; exact Nat.ne_of_lt (blk_lt (bf BK340.out)) : gb340 ≠ gb342)); have n7_ := Aside0.mk ((by rw [hg]; exact Nat.ne_of_gt (blk_lt (bf BK340.out)) : gb342 ≠ gb340)); have n8_ := Aside0.mk ((by rw [hg]; exact Nat.ne_of_lt (blk_lt (bf BK341.out)) : gb341 ≠ gb342)); have n9_ := Aside0.mk ((by rw [hg]; exact Nat.ne_of_gt (blk_lt (bf BK341.out)) : gb342 ≠ gb341)); clear BK340; clear BK341; clear HB; have BK340 := n0_; have BK341 := n1_; have HB := n2_; have BK342 := n3_; have GW342 := n4_; have GE342 := n5_; have NB340_342 := n6_; have NB342_340 := n7_; have NB341_342 := n8_; have NB342_341 := n9_; clear n0_ n1_ n2_ n3_ n4_ n5_ n6_ n7_ n8_ n9_; clear hb hbox hg))
   have n0_ := Aside0.mk (blk_drew BK340.out)
   have n1_ := Aside0.mk (blk_drew BK341.out)
   have n2_ := Aside0.mk (blk_drew BK342.out)
   have n3_ := Aside0.mk (below_drew1 HB.out)
   clear BK340 BK341 BK342 HB
   have BK340 := n0_
   have BK341 := n1_
   have BK342 := n2_
   have HB := n3_
   clear n0_ n1_ n2_ n3_
   refine start_ (n := 8) (S := fun w' => w'.cell? ⟨gb340, 0, none⟩ = some (.int .i64 a0_0) ∧ w'.cell? ⟨gb340, 1, none⟩ = some (.int .i64 a0_1) ∧ w'.cell? ⟨gb341, 0, none⟩ = some (.int .i64 a1_0) ∧ w'.cell? ⟨gb341, 1, none⟩ = some (.int .i64 a1_1) ∧ w'.cell? ⟨gb342, 0, none⟩ = some (.int .i64 a2_0) ∧ w'.cell? ⟨gb342, 1, none⟩ = some (.int .i64 a2_1)) (ds := []) #[false,false,false,false,false,false,false,false] (by kernel_rfl) rfl rfl ⟨(blk_cell BK340.out 0).trans rfl, (blk_cell BK340.out 1).trans rfl, (blk_cell BK341.out 0).trans rfl, (blk_cell BK341.out 1).trans rfl, (blk_cell BK342.out 0).trans rfl, (blk_cell BK342.out 1).trans rfl⟩ (fun hHeld => ?_); refine with_tabW spec_l2On.tab1 spec_l2On.bits1 (fun HT_ HW_ => ?_)
   generalize w17.drew = w18 at BK340 BK341 BK342 HB hHeld ⊢
   refine tq_ 0 (some 7) ?_
   refine tq_ 1 (some 8) ?_
   refine tq_ 3 (some 10) ?_
   refine tq_ 4 (some 11) ?_
   refine one_ (i := 2) (N := some 9) #[true,true,true,true,true,false,false,false] rfl rfl (one_of HT_.out (by kernel_rfl)) (by decide) (fun K hK => ?_)
   refine goes_ Try.func84 (by kernel_rfl) rfl #[.agg #[.int .i64 a0_0, .int .i64 a0_1], .agg #[.int .i64 a1_0, .int .i64 a1_1]] (by rfl) rfl rfl al ?_
   with_reducible refine (spec_l2Step.calls a0_0 a0_1 a1_0 a1_1 t343 t344 _ A4.out).mono ?_
   rintro e w19 ⟨rfl, hb⟩
   refine ⟨_, rfl, ?_⟩
   have n0_ := Aside0.mk (blk_below (bf BK340.out) hb)
   have n1_ := Aside0.mk (blk_below (bf BK341.out) hb)
   have n2_ := Aside0.mk (blk_below (bf BK342.out) hb)
   have n3_ := Aside0.mk (below_step (lb HB.out) hb)
   clear BK340 BK341 BK342 HB
   have BK340 := n0_
   have BK341 := n1_
   have BK342 := n2_
   have HB := n3_
   clear n0_ n1_ n2_ n3_
   (try clear hb);(try clear hb2);(try clear hk);(try clear hi)
   refine hK.out _ _ ⟨(blk_cell BK340.out 0).trans rfl, (blk_cell BK340.out 1).trans rfl, (blk_cell BK341.out 0).trans rfl, (blk_cell BK341.out 1).trans rfl, (blk_cell BK342.out 0).trans rfl, (blk_cell BK342.out 1).trans rfl⟩ (fun hHeld => ?_)
   clear hK K
   refine norm_ (a' := ?_) ?_ ?_
   rotate_left
   ·show Act.put _ (some 9) _ = _
    simp only [Act.put, List.setIfInBounds_toArray, List.set_cons_zero, List.set_cons_succ, i64_w, i32_w]
    rfl
   refine one_ (i := 5) (N := some 12) #[true,true,true,true,true,true,false,false] rfl rfl (one_of HT_.out (by kernel_rfl)) (by decide) (fun K hK => ?_)
   refine goes_ Try.func84 (by kernel_rfl) rfl #[.agg #[.int .i64 a0_0, .int .i64 a0_1], .agg #[.int .i64 a2_0, .int .i64 a2_1]] (by rfl) rfl rfl al ?_
   with_reducible refine (spec_l2Step.calls a0_0 a0_1 a2_0 a2_1 t345 t346 _ A5.out).mono ?_
   rintro e w20 ⟨rfl, hb⟩
   refine ⟨_, rfl, ?_⟩
   have n0_ := Aside0.mk (blk_below (bf BK340.out) hb)
   have n1_ := Aside0.mk (blk_below (bf BK341.out) hb)
   have n2_ := Aside0.mk (blk_below (bf BK342.out) hb)
   have n3_ := Aside0.mk (below_step (lb HB.out) hb)
   clear BK340 BK341 BK342 HB
   have BK340 := n0_
   have BK341 := n1_
   have BK342 := n2_
   have HB := n3_
   clear n0_ n1_ n2_ n3_
   (try clear hb);(try clear hb2);(try clear hk);(try clear hi)
   refine hK.out _ _ ⟨(blk_cell BK340.out 0).trans rfl, (blk_cell BK340.out 1).trans rfl, (blk_cell BK341.out 0).trans rfl, (blk_cell BK341.out 1).trans rfl, (blk_cell BK342.out 0).trans rfl, (blk_cell BK342.out 1).trans rfl⟩ (fun hHeld => ?_)
   clear hK K
   refine norm_ (a' := ?_) ?_ ?_
   rotate_left
   ·show Act.put _ (some 12) _ = _
    simp only [Act.put, List.setIfInBounds_toArray, List.set_cons_zero, List.set_cons_succ, i64_w, i32_w]
    rfl
   refine one_ (i := 6) (N := some 13) #[true,true,true,true,true,true,true,false] rfl rfl (one_of HT_.out (by kernel_rfl)) (by decide) (fun K hK => ?_)
   refine goes_ Try.func78 (by kernel_rfl) rfl #[.agg #[.int .i64 t343, .int .i64 t344], .agg #[.int .i64 t345, .int .i64 t346]] (by rfl) rfl rfl al ?_
   with_reducible refine (spec_l2Cross.calls t343 t344 t345 t346 t347 _ A6.out).mono ?_
   rintro e w21 ⟨rfl, hb⟩
   refine ⟨_, rfl, ?_⟩
   have n0_ := Aside0.mk (blk_below (bf BK340.out) hb)
   have n1_ := Aside0.mk (blk_below (bf BK341.out) hb)
   have n2_ := Aside0.mk (blk_below (bf BK342.out) hb)
   have n3_ := Aside0.mk (below_step (lb HB.out) hb)
   clear BK340 BK341 BK342 HB
   have BK340 := n0_
   have BK341 := n1_
   have BK342 := n2_
   have HB := n3_
   clear n0_ n1_ n2_ n3_
   (try clear hb);(try clear hb2);(try clear hk);(try clear hi)
   refine hK.out _ _ ⟨(blk_cell BK340.out 0).trans rfl, (blk_cell BK340.out 1).trans rfl, (blk_cell BK341.out 0).trans rfl, (blk_cell BK341.out 1).trans rfl, (blk_cell BK342.out 0).trans rfl, (blk_cell BK342.out 1).trans rfl⟩ (fun hHeld => ?_)
   clear hK K
   refine norm_ (a' := ?_) ?_ ?_
   rotate_left
   ·show Act.put _ (some 13) _ = _
    simp only [Act.put, List.setIfInBounds_toArray, List.set_cons_zero, List.set_cons_succ, i64_w, i32_w]
    rfl
   refine pq_ 7 (some 14) ?_
   refine done_ (done_of HT_.out (by kernel_rfl)) ?_
   have hnb22 := NB342_340.out
   have hnc22 := NB340_342.out
   have hnb23 := NB342_341.out
   have hnc23 := NB341_342.out
   have hcz24_0 : w21.cell? ⟨gb342, 0, none⟩ = some (.int .i64 a2_0) := (blk_cell BK342.out 0).trans rfl
   have hcz24_1 : w21.cell? ⟨gb342, 1, none⟩ = some (.int .i64 a2_1) := (blk_cell BK342.out 1).trans rfl
   have hfz24_0 := blk_frozen BK342.out 0
   have hfz24_1 := blk_frozen BK342.out 1
   have hnb25 := NB340_341.out
   have hnc25 := NB341_340.out
   have hcz26_0 : w21.cell? ⟨gb340, 0, none⟩ = some (.int .i64 a0_0) := (blk_cell BK340.out 0).trans rfl
   have hcz26_1 : w21.cell? ⟨gb340, 1, none⟩ = some (.int .i64 a0_1) := (blk_cell BK340.out 1).trans rfl
   have hfz26_0 := blk_frozen BK340.out 0
   have hfz26_1 := blk_frozen BK340.out 1
   have hcz27_0 : w21.cell? ⟨gb341, 0, none⟩ = some (.int .i64 a1_0) := (blk_cell BK341.out 0).trans rfl
   have hcz27_1 : w21.cell? ⟨gb341, 1, none⟩ = some (.int .i64 a1_1) := (blk_cell BK341.out 1).trans rfl
   have hfz27_0 := blk_frozen BK341.out 0
   have hfz27_1 := blk_frozen BK341.out 1
   try go_wp2_with (first | ((with_reducible refine gate_callee (f := 36) rfl ?_); refine goesL_ (some 27) rfl rfl Try.func36 (by kernel_rfl) rfl #[.int .i64 a2_0, .int .i64 ji8, .int .i64 ji9] rfl (by (try simp only [List.map_toArray, List.map_cons, List.map_nil]); first | done | (simp only [hji8, hji9]; rfl) | rfl | (simp only [List.length_drop, List.length_take]; rfl)) ?_; (with_reducible refine (spec_l6In.calls a2_0 ji8 ji9 true _ A10.out).mono ?_); rintro e w' ⟨rfl, ⟨nd, rfl⟩⟩; refine ⟨_, rfl, ?_⟩) | (go_at_call 36; (with_reducible refine (spec_l6In.calls a2_1 ji12 ji13 t349 _ A14.out).mono ?_); rintro e w' ⟨rfl, ⟨nd, rfl⟩⟩))
   go_ret
   exact ⟨by first | rfl | (simp [errW_none, errW_some] <;> rfl) | (simp only [← hji8, ← hji9, ← hji12, ← hji13]; first | rfl | (simp [errW_none, errW_some] <;> rfl)) | (simp [*, errW_none, errW_some] <;> rfl), lb HB.out⟩
  ·replace c11 := Bool.eq_false_iff.mpr c11
   subst c11
   have H1 : (some false) = some r := by rw [if_neg (show ¬ (false = true) by decide)] at H; exact H
   clear H
   have H := H1
   clear H1
   obtain rfl := Option.some.inj H
   go_enter Try.func87, Try.ntmps87
   try go_wp2_with (first | ((with_reducible refine gate_dst (N := 3) rfl ?_); (try (refine gate_guard (by rfl) ?_; dsimp only)); refine bx_ 3 (cs := #[.int .i64 a0_0, .int .i64 a0_1]) (t := 33) ?_; intro gb340 hg w28 hbox hb; have n0_ := Aside0.mk (below_step (lb HB.out) hb); have n1_ := Aside0.mk (hbox); have n2_ := Aside0.mk ((by rw [hg]; exact (below_size (lb HB.out)) : w.heap.size ≤ gb340)); have n3_ := Aside0.mk ((by rw [hg]; exact (below_size (lb HB.out)) : w.heap.size ≤ gb340)); clear HB; have HB := n0_; have BK340 := n1_; have GW340 := n2_; have GE340 := n3_; clear n0_ n1_ n2_ n3_; clear hb hbox hg) | ((with_reducible refine gate_dst (N := 4) rfl ?_); (try (refine gate_guard (by rfl) ?_; dsimp only)); refine bx_ 4 (cs := #[.int .i64 a1_0, .int .i64 a1_1]) (t := 33) ?_; intro gb341 hg w29 hbox hb; have n0_ := Aside0.mk (blk_below (bf BK340.out) hb); have n1_ := Aside0.mk (below_step (lb HB.out) hb); have n2_ := Aside0.mk (hbox); have n3_ := Aside0.mk ((by rw [hg]; exact (below_size (lb HB.out)) : w.heap.size ≤ gb341)); have n4_ := Aside0.mk ((by rw [hg]; exact (below_size (lb HB.out)) : w.heap.size ≤ gb341)); have n5_ := Aside0.mk ((by rw [hg]; exact Nat.ne_of_lt (blk_lt (bf BK340.out)) : gb340 ≠ gb341)); have n6_ := Aside0.mk ((by rw [hg]; exact Nat.ne_of_gt (blk_lt (bf BK340.out)) : gb341 ≠ gb340)); clear BK340; clear HB; have BK340 := n0_; have HB := n1_; have BK341 := n2_; have GW341 := n3_; have GE341 := n4_; have NB340_341 := n5_; have NB341_340 := n6_; clear n0_ n1_ n2_ n3_ n4_ n5_ n6_; clear hb hbox hg) | ((with_reducible refine gate_dst (N := 5) rfl ?_); (try (refine gate_guard (by rfl) ?_; dsimp only)); refine bx_ 5 (cs := #[.int .i64 a2_0, .int .i64 a2_1]) (t := 33) ?_; intro gb342 hg w30 hbox hb; have n0_ := Aside0.mk (blk_below (bf BK340.out) hb); have n1_ := Aside0.mk (blk_below (bf BK341.out) hb); have n2_ := Aside0.mk (below_step (lb HB.out) hb); have n3_ := Aside0.mk (hbox); have n4_ := Aside0.mk ((by rw [hg]; exact (below_size (lb HB.out)) : w.heap.size ≤ gb342)); have n5_ := Aside0.mk ((by rw [hg]; exact (below_size (lb HB.out)) : w.heap.size ≤ gb342)); have n6_ := Aside0.mk ((by rw [hg]; exact Nat.ne_of_lt (blk_lt (bf BK340.out)) : gb340 ≠ gb342)); have n7_ := Aside0.mk ((by rw [hg]; exact Nat.ne_of_gt (blk_lt (bf BK340.out)) : gb342 ≠ gb340)); have n8_ := Aside0.mk ((by rw [hg]; exact Nat.ne_of_lt (blk_lt (bf BK341.out)) : gb341 ≠ gb342)); have n9_ := Aside0.mk ((by rw [hg]; exact Nat.ne_of_gt (blk_lt (bf BK341.out)) : gb342 ≠ gb341)); clear BK340; clear BK341; clear HB; have BK340 := n0_; have BK341 := n1_; have HB := n2_; have BK342 := n3_; have GW342 := n4_; have GE342 := n5_; have NB340_342 := n6_; have NB342_340 := n7_; have NB341_342 := n8_; have NB342_341 := n9_; clear n0_ n1_ n2_ n3_ n4_ n5_ n6_ n7_ n8_ n9_; clear hb hbox hg))
   have n0_ := Aside0.mk (blk_drew BK340.out)
   have n1_ := Aside0.mk (blk_drew BK341.out)
   have n2_ := Aside0.mk (blk_drew BK342.out)
   have n3_ := Aside0.mk (below_drew1 HB.out)
   clear BK340 BK341 BK342 HB
   have BK340 := n0_
   have BK341 := n1_
   have BK342 := n2_
   have HB := n3_
   clear n0_ n1_ n2_ n3_
   refine start_ (n := 8) (S := fun w' => w'.cell? ⟨gb340, 0, none⟩ = some (.int .i64 a0_0) ∧ w'.cell? ⟨gb340, 1, none⟩ = some (.int .i64 a0_1) ∧ w'.cell? ⟨gb341, 0, none⟩ = some (.int .i64 a1_0) ∧ w'.cell? ⟨gb341, 1, none⟩ = some (.int .i64 a1_1) ∧ w'.cell? ⟨gb342, 0, none⟩ = some (.int .i64 a2_0) ∧ w'.cell? ⟨gb342, 1, none⟩ = some (.int .i64 a2_1)) (ds := []) #[false,false,false,false,false,false,false,false] (by kernel_rfl) rfl rfl ⟨(blk_cell BK340.out 0).trans rfl, (blk_cell BK340.out 1).trans rfl, (blk_cell BK341.out 0).trans rfl, (blk_cell BK341.out 1).trans rfl, (blk_cell BK342.out 0).trans rfl, (blk_cell BK342.out 1).trans rfl⟩ (fun hHeld => ?_); refine with_tabW spec_l2On.tab1 spec_l2On.bits1 (fun HT_ HW_ => ?_)
   generalize w30.drew = w31 at BK340 BK341 BK342 HB hHeld ⊢
   refine tq_ 0 (some 7) ?_
   refine tq_ 1 (some 8) ?_
   refine tq_ 3 (some 10) ?_
   refine tq_ 4 (some 11) ?_
   refine one_ (i := 2) (N := some 9) #[true,true,true,true,true,false,false,false] rfl rfl (one_of HT_.out (by kernel_rfl)) (by decide) (fun K hK => ?_)
   refine goes_ Try.func84 (by kernel_rfl) rfl #[.agg #[.int .i64 a0_0, .int .i64 a0_1], .agg #[.int .i64 a1_0, .int .i64 a1_1]] (by rfl) rfl rfl al ?_
   with_reducible refine (spec_l2Step.calls a0_0 a0_1 a1_0 a1_1 t343 t344 _ A4.out).mono ?_
   rintro e w32 ⟨rfl, hb⟩
   refine ⟨_, rfl, ?_⟩
   have n0_ := Aside0.mk (blk_below (bf BK340.out) hb)
   have n1_ := Aside0.mk (blk_below (bf BK341.out) hb)
   have n2_ := Aside0.mk (blk_below (bf BK342.out) hb)
   have n3_ := Aside0.mk (below_step (lb HB.out) hb)
   clear BK340 BK341 BK342 HB
   have BK340 := n0_
   have BK341 := n1_
   have BK342 := n2_
   have HB := n3_
   clear n0_ n1_ n2_ n3_
   (try clear hb);(try clear hb2);(try clear hk);(try clear hi)
   refine hK.out _ _ ⟨(blk_cell BK340.out 0).trans rfl, (blk_cell BK340.out 1).trans rfl, (blk_cell BK341.out 0).trans rfl, (blk_cell BK341.out 1).trans rfl, (blk_cell BK342.out 0).trans rfl, (blk_cell BK342.out 1).trans rfl⟩ (fun hHeld => ?_)
   clear hK K
   refine norm_ (a' := ?_) ?_ ?_
   rotate_left
   ·show Act.put _ (some 9) _ = _
    simp only [Act.put, List.setIfInBounds_toArray, List.set_cons_zero, List.set_cons_succ, i64_w, i32_w]
    rfl
   refine one_ (i := 5) (N := some 12) #[true,true,true,true,true,true,false,false] rfl rfl (one_of HT_.out (by kernel_rfl)) (by decide) (fun K hK => ?_)
   refine goes_ Try.func84 (by kernel_rfl) rfl #[.agg #[.int .i64 a0_0, .int .i64 a0_1], .agg #[.int .i64 a2_0, .int .i64 a2_1]] (by rfl) rfl rfl al ?_
   with_reducible refine (spec_l2Step.calls a0_0 a0_1 a2_0 a2_1 t345 t346 _ A5.out).mono ?_
   rintro e w33 ⟨rfl, hb⟩
   refine ⟨_, rfl, ?_⟩
   have n0_ := Aside0.mk (blk_below (bf BK340.out) hb)
   have n1_ := Aside0.mk (blk_below (bf BK341.out) hb)
   have n2_ := Aside0.mk (blk_below (bf BK342.out) hb)
   have n3_ := Aside0.mk (below_step (lb HB.out) hb)
   clear BK340 BK341 BK342 HB
   have BK340 := n0_
   have BK341 := n1_
   have BK342 := n2_
   have HB := n3_
   clear n0_ n1_ n2_ n3_
   (try clear hb);(try clear hb2);(try clear hk);(try clear hi)
   refine hK.out _ _ ⟨(blk_cell BK340.out 0).trans rfl, (blk_cell BK340.out 1).trans rfl, (blk_cell BK341.out 0).trans rfl, (blk_cell BK341.out 1).trans rfl, (blk_cell BK342.out 0).trans rfl, (blk_cell BK342.out 1).trans rfl⟩ (fun hHeld => ?_)
   clear hK K
   refine norm_ (a' := ?_) ?_ ?_
   rotate_left
   ·show Act.put _ (some 12) _ = _
    simp only [Act.put, List.setIfInBounds_toArray, List.set_cons_zero, List.set_cons_succ, i64_w, i32_w]
    rfl
   refine one_ (i := 6) (N := some 13) #[true,true,true,true,true,true,true,false] rfl rfl (one_of HT_.out (by kernel_rfl)) (by decide) (fun K hK => ?_)
   refine goes_ Try.func78 (by kernel_rfl) rfl #[.agg #[.int .i64 t343, .int .i64 t344], .agg #[.int .i64 t345, .int .i64 t346]] (by rfl) rfl rfl al ?_
   with_reducible refine (spec_l2Cross.calls t343 t344 t345 t346 t347 _ A6.out).mono ?_
   rintro e w34 ⟨rfl, hb⟩
   refine ⟨_, rfl, ?_⟩
   have n0_ := Aside0.mk (blk_below (bf BK340.out) hb)
   have n1_ := Aside0.mk (blk_below (bf BK341.out) hb)
   have n2_ := Aside0.mk (blk_below (bf BK342.out) hb)
   have n3_ := Aside0.mk (below_step (lb HB.out) hb)
   clear BK340 BK341 BK342 HB
   have BK340 := n0_
   have BK341 := n1_
   have BK342 := n2_
   have HB := n3_
   clear n0_ n1_ n2_ n3_
   (try clear hb);(try clear hb2);(try clear hk);(try clear hi)
   refine hK.out _ _ ⟨(blk_cell BK340.out 0).trans rfl, (blk_cell BK340.out 1).trans rfl, (blk_cell BK341.out 0).trans rfl, (blk_cell BK341.out 1).trans rfl, (blk_cell BK342.out 0).trans rfl, (blk_cell BK342.out 1).trans rfl⟩ (fun hHeld => ?_)
   clear hK K
   refine norm_ (a' := ?_) ?_ ?_
   rotate_left
   ·show Act.put _ (some 13) _ = _
    simp only [Act.put, List.setIfInBounds_toArray, List.set_cons_zero, List.set_cons_succ, i64_w, i32_w]
    rfl
   refine pq_ 7 (some 14) ?_
   refine done_ (done_of HT_.out (by kernel_rfl)) ?_
   have hnb35 := NB342_340.out
   have hnc35 := NB340_342.out
   have hnb36 := NB342_341.out
   have hnc36 := NB341_342.out
   have hcz37_0 : w34.cell? ⟨gb342, 0, none⟩ = some (.int .i64 a2_0) := (blk_cell BK342.out 0).trans rfl
   have hcz37_1 : w34.cell? ⟨gb342, 1, none⟩ = some (.int .i64 a2_1) := (blk_cell BK342.out 1).trans rfl
   have hfz37_0 := blk_frozen BK342.out 0
   have hfz37_1 := blk_frozen BK342.out 1
   have hnb38 := NB340_341.out
   have hnc38 := NB341_340.out
   have hcz39_0 : w34.cell? ⟨gb340, 0, none⟩ = some (.int .i64 a0_0) := (blk_cell BK340.out 0).trans rfl
   have hcz39_1 : w34.cell? ⟨gb340, 1, none⟩ = some (.int .i64 a0_1) := (blk_cell BK340.out 1).trans rfl
   have hfz39_0 := blk_frozen BK340.out 0
   have hfz39_1 := blk_frozen BK340.out 1
   have hcz40_0 : w34.cell? ⟨gb341, 0, none⟩ = some (.int .i64 a1_0) := (blk_cell BK341.out 0).trans rfl
   have hcz40_1 : w34.cell? ⟨gb341, 1, none⟩ = some (.int .i64 a1_1) := (blk_cell BK341.out 1).trans rfl
   have hfz40_0 := blk_frozen BK341.out 0
   have hfz40_1 := blk_frozen BK341.out 1
   try go_wp2_with (first | ((with_reducible refine gate_callee (f := 36) rfl ?_); refine goesL_ (some 27) rfl rfl Try.func36 (by kernel_rfl) rfl #[.int .i64 a2_0, .int .i64 ji8, .int .i64 ji9] rfl (by (try simp only [List.map_toArray, List.map_cons, List.map_nil]); first | done | (simp only [hji8, hji9]; rfl) | rfl | (simp only [List.length_drop, List.length_take]; rfl)) ?_; (with_reducible refine (spec_l6In.calls a2_0 ji8 ji9 false _ A10.out).mono ?_); rintro e w' ⟨rfl, ⟨nd, rfl⟩⟩; refine ⟨_, rfl, ?_⟩))
   go_ret
   exact ⟨by first | rfl | (simp [errW_none, errW_some] <;> rfl) | (simp only [← hji8, ← hji9]; first | rfl | (simp [errW_none, errW_some] <;> rfl)) | (simp [*, errW_none, errW_some] <;> rfl), lb HB.out⟩
 ·rw [if_neg c7] at H
  have c7b0 : (t347 == 0) = false := beq_eq_false_iff_ne.mpr c7
  have c7b1 : (t347 != 0) = true := bne_iff_ne.mpr c7
  obtain rfl := Option.some.inj H
  go_enter Try.func87, Try.ntmps87
  try go_wp2_with (first | ((with_reducible refine gate_dst (N := 3) rfl ?_); (try (refine gate_guard (by rfl) ?_; dsimp only)); refine bx_ 3 (cs := #[.int .i64 a0_0, .int .i64 a0_1]) (t := 33) ?_; intro gb340 hg w41 hbox hb; have n0_ := Aside0.mk (below_step (lb HB.out) hb); have n1_ := Aside0.mk (hbox); have n2_ := Aside0.mk ((by rw [hg]; exact (below_size (lb HB.out)) : w.heap.size ≤ gb340)); have n3_ := Aside0.mk ((by rw [hg]; exact (below_size (lb HB.out)) : w.heap.size ≤ gb340)); clear HB; have HB := n0_; have BK340 := n1_; have GW340 := n2_; have GE340 := n3_; clear n0_ n1_ n2_ n3_; clear hb hbox hg) | ((with_reducible refine gate_dst (N := 4) rfl ?_); (try (refine gate_guard (by rfl) ?_; dsimp only)); refine bx_ 4 (cs := #[.int .i64 a1_0, .int .i64 a1_1]) (t := 33) ?_; intro gb341 hg w42 hbox hb; have n0_ := Aside0.mk (blk_below (bf BK340.out) hb); have n1_ := Aside0.mk (below_step (lb HB.out) hb); have n2_ := Aside0.mk (hbox); have n3_ := Aside0.mk ((by rw [hg]; exact (below_size (lb HB.out)) : w.heap.size ≤ gb341)); have n4_ := Aside0.mk ((by rw [hg]; exact (below_size (lb HB.out)) : w.heap.size ≤ gb341)); have n5_ := Aside0.mk ((by rw [hg]; exact Nat.ne_of_lt (blk_lt (bf BK340.out)) : gb340 ≠ gb341)); have n6_ := Aside0.mk ((by rw [hg]; exact Nat.ne_of_gt (blk_lt (bf BK340.out)) : gb341 ≠ gb340)); clear BK340; clear HB; have BK340 := n0_; have HB := n1_; have BK341 := n2_; have GW341 := n3_; have GE341 := n4_; have NB340_341 := n5_; have NB341_340 := n6_; clear n0_ n1_ n2_ n3_ n4_ n5_ n6_; clear hb hbox hg) | ((with_reducible refine gate_dst (N := 5) rfl ?_); (try (refine gate_guard (by rfl) ?_; dsimp only)); refine bx_ 5 (cs := #[.int .i64 a2_0, .int .i64 a2_1]) (t := 33) ?_; intro gb342 hg w43 hbox hb; have n0_ := Aside0.mk (blk_below (bf BK340.out) hb); have n1_ := Aside0.mk (blk_below (bf BK341.out) hb); have n2_ := Aside0.mk (below_step (lb HB.out) hb); have n3_ := Aside0.mk (hbox); have n4_ := Aside0.mk ((by rw [hg]; exact (below_size (lb HB.out)) : w.heap.size ≤ gb342)); have n5_ := Aside0.mk ((by rw [hg]; exact (below_size (lb HB.out)) : w.heap.size ≤ gb342)); have n6_ := Aside0.mk ((by rw [hg]; exact Nat.ne_of_lt (blk_lt (bf BK340.out)) : gb340 ≠ gb342)); have n7_ := Aside0.mk ((by rw [hg]; exact Nat.ne_of_gt (blk_lt (bf BK340.out)) : gb342 ≠ gb340)); have n8_ := Aside0.mk ((by rw [hg]; exact Nat.ne_of_lt (blk_lt (bf BK341.out)) : gb341 ≠ gb342)); have n9_ := Aside0.mk ((by rw [hg]; exact Nat.ne_of_gt (blk_lt (bf BK341.out)) : gb342 ≠ gb341)); clear BK340; clear BK341; clear HB; have BK340 := n0_; have BK341 := n1_; have HB := n2_; have BK342 := n3_; have GW342 := n4_; have GE342 := n5_; have NB340_342 := n6_; have NB342_340 := n7_; have NB341_342 := n8_; have NB342_341 := n9_; clear n0_ n1_ n2_ n3_ n4_ n5_ n6_ n7_ n8_ n9_; clear hb hbox hg))
  have n0_ := Aside0.mk (blk_drew BK340.out)
  have n1_ := Aside0.mk (blk_drew BK341.out)
  have n2_ := Aside0.mk (blk_drew BK342.out)
  have n3_ := Aside0.mk (below_drew1 HB.out)
  clear BK340 BK341 BK342 HB
  have BK340 := n0_
  have BK341 := n1_
  have BK342 := n2_
  have HB := n3_
  clear n0_ n1_ n2_ n3_
  refine start_ (n := 8) (S := fun w' => w'.cell? ⟨gb340, 0, none⟩ = some (.int .i64 a0_0) ∧ w'.cell? ⟨gb340, 1, none⟩ = some (.int .i64 a0_1) ∧ w'.cell? ⟨gb341, 0, none⟩ = some (.int .i64 a1_0) ∧ w'.cell? ⟨gb341, 1, none⟩ = some (.int .i64 a1_1) ∧ w'.cell? ⟨gb342, 0, none⟩ = some (.int .i64 a2_0) ∧ w'.cell? ⟨gb342, 1, none⟩ = some (.int .i64 a2_1)) (ds := []) #[false,false,false,false,false,false,false,false] (by kernel_rfl) rfl rfl ⟨(blk_cell BK340.out 0).trans rfl, (blk_cell BK340.out 1).trans rfl, (blk_cell BK341.out 0).trans rfl, (blk_cell BK341.out 1).trans rfl, (blk_cell BK342.out 0).trans rfl, (blk_cell BK342.out 1).trans rfl⟩ (fun hHeld => ?_); refine with_tabW spec_l2On.tab1 spec_l2On.bits1 (fun HT_ HW_ => ?_)
  generalize w43.drew = w44 at BK340 BK341 BK342 HB hHeld ⊢
  refine tq_ 0 (some 7) ?_
  refine tq_ 1 (some 8) ?_
  refine tq_ 3 (some 10) ?_
  refine tq_ 4 (some 11) ?_
  refine one_ (i := 2) (N := some 9) #[true,true,true,true,true,false,false,false] rfl rfl (one_of HT_.out (by kernel_rfl)) (by decide) (fun K hK => ?_)
  refine goes_ Try.func84 (by kernel_rfl) rfl #[.agg #[.int .i64 a0_0, .int .i64 a0_1], .agg #[.int .i64 a1_0, .int .i64 a1_1]] (by rfl) rfl rfl al ?_
  with_reducible refine (spec_l2Step.calls a0_0 a0_1 a1_0 a1_1 t343 t344 _ A4.out).mono ?_
  rintro e w45 ⟨rfl, hb⟩
  refine ⟨_, rfl, ?_⟩
  have n0_ := Aside0.mk (blk_below (bf BK340.out) hb)
  have n1_ := Aside0.mk (blk_below (bf BK341.out) hb)
  have n2_ := Aside0.mk (blk_below (bf BK342.out) hb)
  have n3_ := Aside0.mk (below_step (lb HB.out) hb)
  clear BK340 BK341 BK342 HB
  have BK340 := n0_
  have BK341 := n1_
  have BK342 := n2_
  have HB := n3_
  clear n0_ n1_ n2_ n3_
  (try clear hb);(try clear hb2);(try clear hk);(try clear hi)
  refine hK.out _ _ ⟨(blk_cell BK340.out 0).trans rfl, (blk_cell BK340.out 1).trans rfl, (blk_cell BK341.out 0).trans rfl, (blk_cell BK341.out 1).trans rfl, (blk_cell BK342.out 0).trans rfl, (blk_cell BK342.out 1).trans rfl⟩ (fun hHeld => ?_)
  clear hK K
  refine norm_ (a' := ?_) ?_ ?_
  rotate_left
  ·show Act.put _ (some 9) _ = _
   simp only [Act.put, List.setIfInBounds_toArray, List.set_cons_zero, List.set_cons_succ, i64_w, i32_w]
   rfl
  refine one_ (i := 5) (N := some 12) #[true,true,true,true,true,true,false,false] rfl rfl (one_of HT_.out (by kernel_rfl)) (by decide) (fun K hK => ?_)
  refine goes_ Try.func84 (by kernel_rfl) rfl #[.agg #[.int .i64 a0_0, .int .i64 a0_1], .agg #[.int .i64 a2_0, .int .i64 a2_1]] (by rfl) rfl rfl al ?_
  with_reducible refine (spec_l2Step.calls a0_0 a0_1 a2_0 a2_1 t345 t346 _ A5.out).mono ?_
  rintro e w46 ⟨rfl, hb⟩
  refine ⟨_, rfl, ?_⟩
  have n0_ := Aside0.mk (blk_below (bf BK340.out) hb)
  have n1_ := Aside0.mk (blk_below (bf BK341.out) hb)
  have n2_ := Aside0.mk (blk_below (bf BK342.out) hb)
  have n3_ := Aside0.mk (below_step (lb HB.out) hb)
  clear BK340 BK341 BK342 HB
  have BK340 := n0_
  have BK341 := n1_
  have BK342 := n2_
  have HB := n3_
  clear n0_ n1_ n2_ n3_
  (try clear hb);(try clear hb2);(try clear hk);(try clear hi)
  refine hK.out _ _ ⟨(blk_cell BK340.out 0).trans rfl, (blk_cell BK340.out 1).trans rfl, (blk_cell BK341.out 0).trans rfl, (blk_cell BK341.out 1).trans rfl, (blk_cell BK342.out 0).trans rfl, (blk_cell BK342.out 1).trans rfl⟩ (fun hHeld => ?_)
  clear hK K
  refine norm_ (a' := ?_) ?_ ?_
  rotate_left
  ·show Act.put _ (some 12) _ = _
   simp only [Act.put, List.setIfInBounds_toArray, List.set_cons_zero, List.set_cons_succ, i64_w, i32_w]
   rfl
  refine one_ (i := 6) (N := some 13) #[true,true,true,true,true,true,true,false] rfl rfl (one_of HT_.out (by kernel_rfl)) (by decide) (fun K hK => ?_)
  refine goes_ Try.func78 (by kernel_rfl) rfl #[.agg #[.int .i64 t343, .int .i64 t344], .agg #[.int .i64 t345, .int .i64 t346]] (by rfl) rfl rfl al ?_
  with_reducible refine (spec_l2Cross.calls t343 t344 t345 t346 t347 _ A6.out).mono ?_
  rintro e w47 ⟨rfl, hb⟩
  refine ⟨_, rfl, ?_⟩
  have n0_ := Aside0.mk (blk_below (bf BK340.out) hb)
  have n1_ := Aside0.mk (blk_below (bf BK341.out) hb)
  have n2_ := Aside0.mk (blk_below (bf BK342.out) hb)
  have n3_ := Aside0.mk (below_step (lb HB.out) hb)
  clear BK340 BK341 BK342 HB
  have BK340 := n0_
  have BK341 := n1_
  have BK342 := n2_
  have HB := n3_
  clear n0_ n1_ n2_ n3_
  (try clear hb);(try clear hb2);(try clear hk);(try clear hi)
  refine hK.out _ _ ⟨(blk_cell BK340.out 0).trans rfl, (blk_cell BK340.out 1).trans rfl, (blk_cell BK341.out 0).trans rfl, (blk_cell BK341.out 1).trans rfl, (blk_cell BK342.out 0).trans rfl, (blk_cell BK342.out 1).trans rfl⟩ (fun hHeld => ?_)
  clear hK K
  refine norm_ (a' := ?_) ?_ ?_
  rotate_left
  ·show Act.put _ (some 13) _ = _
   simp only [Act.put, List.setIfInBounds_toArray, List.set_cons_zero, List.set_cons_succ, i64_w, i32_w]
   rfl
  refine pq_ 7 (some 14) ?_
  refine done_ (done_of HT_.out (by kernel_rfl)) ?_
  try go_wp2
  go_ret
  exact ⟨er, lb HB.out⟩
end Go.Proofs.Ytfonigbkoligmaa.P
-- squeezed

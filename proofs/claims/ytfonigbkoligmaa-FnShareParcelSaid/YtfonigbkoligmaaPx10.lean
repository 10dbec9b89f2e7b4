import Derived.Test.YtfonigbkoligmaaPx0
import Derived.Test.YtfonigbkoligmaaPx3
import Derived.Test.YtfonigbkoligmaaPx6
import Derived.Test.YtfonigbkoligmaaPx7
import Derived.Test.YtfonigbkoligmaaPx9
namespace Go.Proofs.Ytfonigbkoligmaa.P
open Go.RowKit Go.Proofs.YtfonigbkoligmaaW.PrintWords Go.Proofs.YtfonigbkoligmaaW.PrintLast Go.Proofs.YtfonigbkoligmaaW.PrintMore
attribute [local go_sem] max2_int min2_int max_two min_two max_three min_three max_four min_four
set_option linter.unusedVariables false
set_option linter.unusedSimpArgs false
mutual
def spec_QuoOf.j0 : Nat → Int → Int → Bool → Option (Int × Int × Bool)
 | 0, _, _, _ => none
 | k + 1, x0, x1, x26 => if x26 = true then (some (0, 0, false)) else (if x1 < 0 then (spec_QuoOf.j1 k (wrap64 (-x0)) (wrap64 (-x1))) else (spec_QuoOf.j1 k x0 x1))
def spec_QuoOf.j1 : Nat → Int → Int → Option (Int × Int × Bool)
 | 0, _, _ => none
 | k + 1, x0, x1 => (spec_l1Size.f x0).bind fun t436 => ((spec_l1Common.f k t436 x1).bind fun t437 => (if t437 = 0 then (none) else ((spec_QuoValid.f k (wrap64 (Int.tdiv x0 t437)) (wrap64 (Int.tdiv x1 t437))).bind fun t439 => (if t439 = true then (some (wrap64 (Int.tdiv x0 t437), wrap64 (Int.tdiv x1 t437), true)) else (some (0, 0, false))))))
end
def spec_QuoOf.f (k : Nat) (a0 : Int) (a1 : Int) : Option (Int × Int × Bool) := (spec_l6In.f a0 (-4000000000000000000) 4000000000000000000).bind fun t434 => (if t434 = true then ((spec_l6In.f a1 (-4000000000000000000) 4000000000000000000).bind fun t435 => (if t435 = true then (spec_QuoOf.j0 k a0 a1 (a1 == 0)) else (spec_QuoOf.j0 k a0 a1 true))) else (spec_QuoOf.j0 k a0 a1 true))
theorem spec_QuoOf.mono_l : ∀ k, (∀ y0 y1 y2, LeO (spec_QuoOf.j0 k y0 y1 y2) (spec_QuoOf.j0 (k + 1) y0 y1 y2)) ∧ (∀ y0 y1, LeO (spec_QuoOf.j1 k y0 y1) (spec_QuoOf.j1 (k + 1) y0 y1))
 | 0 => ⟨fun _ _ _ r h => by simp [spec_QuoOf.j0] at h, fun _ _ r h => by simp [spec_QuoOf.j1] at h⟩
 | k + 1 => by
  obtain ⟨ih0, ih1⟩ := spec_QuoOf.mono_l k
  refine ⟨?_, ?_⟩
  ·intro y0 y1 y2
   unfold spec_QuoOf.j0
   repeat' first
   | (with_reducible exact ih0 _ _ _)
   | (with_reducible exact ih1 _ _)
   | (with_reducible exact spec_QuoValid.mono _ _ _)
   | (with_reducible exact spec_l1Common.mono _ _ _)
   | (with_reducible exact LeO.refl _)
   | (with_reducible exact LeO.none _)
   | (with_reducible refine LeO.ite ?_ ?_)
   | (with_reducible refine LeO.bind ?_ (fun _ => ?_))
   | exact ih0 _ _ _
   | exact ih1 _ _
   | exact spec_QuoValid.mono _ _ _
   | exact spec_l1Common.mono _ _ _
   | exact LeO.none _
   | refine LeO.ite ?_ ?_
   | refine LeO.bind ?_ (fun _ => ?_)
  ·intro y0 y1
   unfold spec_QuoOf.j1
   repeat' first
   | (with_reducible exact ih0 _ _ _)
   | (with_reducible exact ih1 _ _)
   | (with_reducible exact spec_QuoValid.mono _ _ _)
   | (with_reducible exact spec_l1Common.mono _ _ _)
   | (with_reducible exact LeO.refl _)
   | (with_reducible exact LeO.none _)
   | (with_reducible refine LeO.ite ?_ ?_)
   | (with_reducible refine LeO.bind ?_ (fun _ => ?_))
   | exact ih0 _ _ _
   | exact ih1 _ _
   | exact spec_QuoValid.mono _ _ _
   | exact spec_l1Common.mono _ _ _
   | exact LeO.none _
   | refine LeO.ite ?_ ?_
   | refine LeO.bind ?_ (fun _ => ?_)
theorem spec_QuoOf.mono : ∀ a0 a1 k, LeO (spec_QuoOf.f k a0 a1) (spec_QuoOf.f (k + 1) a0 a1) := by
 intro a0 a1 k
 obtain ⟨ih0, ih1⟩ := spec_QuoOf.mono_l k
 unfold spec_QuoOf.f
 repeat' first
   | (with_reducible exact ih0 _ _ _)
   | (with_reducible exact ih1 _ _)
   | (with_reducible exact spec_QuoValid.mono _ _ _)
   | (with_reducible exact spec_l1Common.mono _ _ _)
   | (with_reducible exact LeO.refl _)
   | (with_reducible exact LeO.none _)
   | (with_reducible refine LeO.ite ?_ ?_)
   | (with_reducible refine LeO.bind ?_ (fun _ => ?_))
   | exact ih0 _ _ _
   | exact ih1 _ _
   | exact spec_QuoValid.mono _ _ _
   | exact spec_l1Common.mono _ _ _
   | exact LeO.none _
   | refine LeO.ite ?_ ?_
   | refine LeO.bind ?_ (fun _ => ?_)
def spec_QuoOf.T8 : Bool × List (List Nat × List Nat) := (true,[([],[]),([],[]),([0,1],[0,1]),([],[]),([],[]),([3,4],[3,4]),([2,5],[2,5]),([],[]),([7,6,0,1,2,3,4,5,6,7],[6,7])])
def spec_QuoOf.B8 : List Nat := [0,0,3,0,0,24,63,0,255]
theorem spec_QuoOf.tab8 : rtab .any (opsOf Try.f49 8) = spec_QuoOf.T8 := by kernel_rfl
theorem spec_QuoOf.bits8 : waitsOk spec_QuoOf.T8.2 spec_QuoOf.B8 = true := by kernel_rfl
set_option maxHeartbeats 8000000 in
set_option maxRecDepth 100000 in
theorem spec_QuoOf.calls (k : Nat) (a0 : Int) (a1 : Int) (r1 : Int) (r2 : Int) (r3 : Bool) (w : World) (h : spec_QuoOf.f k a0 a1 = some (r1, r2, r3)) :
  Calls Try.prog 49 #[.int .i64 a0, .int .i64 a1] w fun e w' => e = .returned (.tuple #[.agg #[.int .i64 r1, .int .i64 r2], .bool r3]) ∧ Below w.heap.size w w' := by
 have hu39 := Try.underlying39
 have HB := Aside0.mk (Below.refl w.heap.size w)
 have H : ((spec_l6In.f a0 (-4000000000000000000) 4000000000000000000).bind fun t434 => (if t434 = true then ((spec_l6In.f a1 (-4000000000000000000) 4000000000000000000).bind fun t435 => (if t435 = true then (spec_QuoOf.j0 k a0 a1 (a1 == 0)) else (spec_QuoOf.j0 k a0 a1 true))) else (spec_QuoOf.j0 k a0 a1 true))) = some (r1, r2, r3) := h
 clear h
 have HC3 := Aside0.mk H
 clear H
 go_enter Try.func49, Try.ntmps49
 go_upto_region 2 with (first | ((with_reducible refine gate_dst (N := 4) rfl ?_); refine bx_ 4 (cs := #[.int .i64 0, .int .i64 0]) (t := 39) ?_; intro gb433 hg w4 hbox hb; have n0_ := Aside0.mk (below_step (lb HB.out) hb); have n1_ := Aside0.mk (hbox); have n2_ := Aside0.mk ((by rw [hg]; exact (below_size (lb HB.out)) : w.heap.size ≤ gb433)); have n3_ := Aside0.mk ((by rw [hg]; exact (below_size (lb HB.out)) : w.heap.size ≤ gb433)); clear HB; have HB := n0_; have BK433 := n1_; have GW433 := n2_; have GE433 := n3_; clear n0_ n1_ n2_ n3_; clear hb hbox hg))
 (try simp only [Act.put, List.setIfInBounds_toArray, List.set_cons_zero, List.set_cons_succ])
 go_cut [26] (fun v26 wc => ∃ (kq : Nat) (x26_2 : Bool), v26 = .bool x26_2 ∧ Aside0 (spec_QuoOf.j0 kq a0 a1 x26_2 = some (r1, r2, r3)) ∧ Aside0 (kq ≤ k) ∧ Aside0 (wc.heap[gb433]? = some (.cells #[.int .i64 0, .int .i64 0] 39 (0, 0))) ∧ Aside0 (Below w.heap.size w wc))
 case first =>
  have H := HC3.out
  clear HC3
  replace H := Option.bind_eq_some_iff.mp H
  obtain ⟨t434, A50, H⟩ := H
  replace H : (if t434 = true then ((spec_l6In.f a1 (-4000000000000000000) 4000000000000000000).bind fun t435 => (if t435 = true then (spec_QuoOf.j0 k a0 a1 (a1 == 0)) else (spec_QuoOf.j0 k a0 a1 true))) else (spec_QuoOf.j0 k a0 a1 true)) = some (r1, r2, r3) := H
  have A5 := Aside0.mk A50
  clear A50
  by_cases c6 : t434 = true
  ·subst c6
   have H1 : ((spec_l6In.f a1 (-4000000000000000000) 4000000000000000000).bind fun t435 => (if t435 = true then (spec_QuoOf.j0 k a0 a1 (a1 == 0)) else (spec_QuoOf.j0 k a0 a1 true))) = some (r1, r2, r3) := by rw [if_pos rfl] at H; exact H
   clear H
   have H := H1
   clear H1
   replace H := Option.bind_eq_some_iff.mp H
   obtain ⟨t435, A70, H⟩ := H
   replace H : (if t435 = true then (spec_QuoOf.j0 k a0 a1 (a1 == 0)) else (spec_QuoOf.j0 k a0 a1 true)) = some (r1, r2, r3) := H
   have A7 := Aside0.mk A70
   clear A70
   by_cases c8 : t435 = true
   ·subst c8
    have H1 : (spec_QuoOf.j0 k a0 a1 (a1 == 0)) = some (r1, r2, r3) := by rw [if_pos rfl] at H; exact H
    clear H
    have H := H1
    clear H1
    have H' := Aside0.mk H
    clear H
    go_wp2_with (first | ((with_reducible refine gate_callee (f := 36) rfl ?_); refine goesL_ (some 13) rfl rfl Try.func36 (by kernel_rfl) rfl #[.int .i64 a0, .int .i64 (-4000000000000000000), .int .i64 4000000000000000000] rfl al ?_; (with_reducible refine (spec_l6In.calls a0 (-4000000000000000000) 4000000000000000000 true _ A5.out).mono ?_); rintro e w' ⟨rfl, ⟨nd, rfl⟩⟩; refine ⟨_, rfl, ?_⟩) | (go_at_call 36; (with_reducible refine (spec_l6In.calls a1 (-4000000000000000000) 4000000000000000000 true _ A7.out).mono ?_); rintro e w' ⟨rfl, ⟨nd, rfl⟩⟩))
    go_meet
    case rel => exact ⟨_, ((a1 == 0)), (by first | rfl | (simp; done) | (simp [*]; done)), H', ⟨by first | omega | exact Nat.le_refl _⟩, ⟨bu BK433.out⟩, ⟨lb HB.out⟩⟩
   ·replace c8 := Bool.eq_false_iff.mpr c8
    subst c8
    have H1 : (spec_QuoOf.j0 k a0 a1 true) = some (r1, r2, r3) := by rw [if_neg (show ¬ (false = true) by decide)] at H; exact H
    clear H
    have H := H1
    clear H1
    have H' := Aside0.mk H
    clear H
    go_wp2_with (first | ((with_reducible refine gate_callee (f := 36) rfl ?_); refine goesL_ (some 13) rfl rfl Try.func36 (by kernel_rfl) rfl #[.int .i64 a0, .int .i64 (-4000000000000000000), .int .i64 4000000000000000000] rfl al ?_; (with_reducible refine (spec_l6In.calls a0 (-4000000000000000000) 4000000000000000000 true _ A5.out).mono ?_); rintro e w' ⟨rfl, ⟨nd, rfl⟩⟩; refine ⟨_, rfl, ?_⟩) | (go_at_call 36; (with_reducible refine (spec_l6In.calls a1 (-4000000000000000000) 4000000000000000000 false _ A7.out).mono ?_); rintro e w' ⟨rfl, ⟨nd, rfl⟩⟩))
    go_meet
    case rel => exact ⟨_, (true), (by first | rfl | (simp; done) | (simp [*]; done)), H', ⟨by first | omega | exact Nat.le_refl _⟩, ⟨bu BK433.out⟩, ⟨lb HB.out⟩⟩
  ·replace c6 := Bool.eq_false_iff.mpr c6
   subst c6
   have H1 : (spec_QuoOf.j0 k a0 a1 true) = some (r1, r2, r3) := by rw [if_neg (show ¬ (false = true) by decide)] at H; exact H
   clear H
   have H := H1
   clear H1
   have H' := Aside0.mk H
   clear H
   go_wp2_with (first | ((with_reducible refine gate_callee (f := 36) rfl ?_); refine goesL_ (some 13) rfl rfl Try.func36 (by kernel_rfl) rfl #[.int .i64 a0, .int .i64 (-4000000000000000000), .int .i64 4000000000000000000] rfl al ?_; (with_reducible refine (spec_l6In.calls a0 (-4000000000000000000) 4000000000000000000 false _ A5.out).mono ?_); rintro e w' ⟨rfl, ⟨nd, rfl⟩⟩; refine ⟨_, rfl, ?_⟩))
   go_meet
   case rel => exact ⟨_, (true), (by first | rfl | (simp; done) | (simp [*]; done)), H', ⟨by first | omega | exact Nat.le_refl _⟩, ⟨bu BK433.out⟩, ⟨lb HB.out⟩⟩
 case rest =>
  clear HC3
  try clear p2
  try clear c3
  try clear c4
  try clear c6
  try clear c8
  obtain ⟨kq, x26_2, rfl, HA, HJ2, BK433, HB⟩ := hcut
  cases kq with
  | zero => exact absurd HA.out (by simp [spec_QuoOf.j0])
  | succ kj2 =>
   have H := HA.out
   clear HA
   simp only [spec_QuoOf.j0] at H
   by_cases c9 : x26_2 = true
   ·subst c9
    have H1 : (some (0, 0, false)) = some (r1, r2, r3) := by rw [if_pos rfl] at H; exact H
    clear H
    have H := H1
    clear H1
    simp only [Option.some.injEq, Prod.mk.injEq] at H
    obtain ⟨rfl, rfl, rfl⟩ := H
    have hcz10_0 : wc.cell? ⟨gb433, 0, none⟩ = some (.int .i64 0) := (blk_cell BK433.out 0).trans rfl
    have hcz10_1 : wc.cell? ⟨gb433, 1, none⟩ = some (.int .i64 0) := (blk_cell BK433.out 1).trans rfl
    have hfz10_0 := blk_frozen BK433.out 0
    have hfz10_1 := blk_frozen BK433.out 1
    go_wp2
    refine bodyPost_ret (results_ct rfl _ _ gb433 39 #[.int .i64 0, .int .i64 0] (0, 0) _ rfl (bp BK433.out) Try.underlying39 rfl (by kernel_rfl)) rfl ?_
    exact ⟨er, lb HB.out⟩
   ·replace c9 := Bool.eq_false_iff.mpr c9
    subst c9
    have H1 : (if a1 < 0 then (spec_QuoOf.j1 kj2 (wrap64 (-a0)) (wrap64 (-a1))) else (spec_QuoOf.j1 kj2 a0 a1)) = some (r1, r2, r3) := by rw [if_neg (show ¬ (false = true) by decide)] at H; exact H
    clear H
    have H := H1
    clear H1
    have HC11 := Aside0.mk H
    clear H
    go_upto_if 29 with (fail)
    go_cut [0, 1] (fun v0 v1 wc => ∃ (kq : Nat) (x0_10 : Int) (x1_10 : Int), v0 = .int .i64 x0_10 ∧ v1 = .int .i64 x1_10 ∧ Aside0 (spec_QuoOf.j1 kq x0_10 x1_10 = some (r1, r2, r3)) ∧ Aside0 (kq ≤ kj2) ∧ Aside0 (wc.heap[gb433]? = some (.cells #[.int .i64 0, .int .i64 0] 39 (0, 0))) ∧ Aside0 (Below w.heap.size w wc))
    case first =>
     have H := HC11.out
     clear HC11
     by_cases c12 : a1 < 0
     ·rw [if_pos c12] at H
      have c12b0 : decide (a1 < 0) = true := decide_eq_true c12
      clear c12
      (first | rw [c12b0] | (simp only [i64_w, i32_w]; rw [c12b0]) | skip)
      have H' := Aside0.mk H
      clear H
      go_wp2
      go_meet
      case rel => exact ⟨_, (wrap64 (-a0)), (wrap64 (-a1)), (by first | rfl | (simp; done) | (simp [*]; done)), (by first | rfl | (simp; done) | (simp [*]; done)), H', ⟨by have := HJ2.out; first | omega | exact Nat.le_refl _⟩, ⟨bu BK433.out⟩, ⟨lb HB.out⟩⟩
     ·rw [if_neg c12] at H
      have c12b0 : decide (a1 < 0) = false := decide_eq_false c12
      clear c12
      (first | rw [c12b0] | (simp only [i64_w, i32_w]; rw [c12b0]) | skip)
      have H' := Aside0.mk H
      clear H
      go_wp2
      go_meet
      case rel => exact ⟨_, (a0), (a1), (by first | rfl | (simp; done) | (simp [*]; done)), (by first | rfl | (simp; done) | (simp [*]; done)), H', ⟨by have := HJ2.out; first | omega | exact Nat.le_refl _⟩, ⟨bu BK433.out⟩, ⟨lb HB.out⟩⟩
    case rest =>
     clear HC11
     try clear c1
     try clear p2
     try clear c3
     try clear c4
     try clear c6
     try clear p6
     try clear c8
     try clear c9
     try clear c12
     try clear c12b0
     try clear hcz10_0
     try clear hcz10_1
     try clear hfz10_0
     try clear hfz10_1
     try clear p2
     obtain ⟨kq, x0_10, x1_10, rfl, rfl, HA, HJ10, BK433, HB⟩ := hcut
     cases kq with
     | zero => exact absurd HA.out (by simp [spec_QuoOf.j1])
     | succ kj10 =>
      have H := HA.out
      clear HA
      simp only [spec_QuoOf.j1] at H
      replace H := Option.bind_eq_some_iff.mp H
      obtain ⟨t436, A130, H⟩ := H
      replace H : ((spec_l1Common.f kj10 t436 x1_10).bind fun t437 => (if t437 = 0 then (none) else ((spec_QuoValid.f kj10 (wrap64 (Int.tdiv x0_10 t437)) (wrap64 (Int.tdiv x1_10 t437))).bind fun t439 => (if t439 = true then (some (wrap64 (Int.tdiv x0_10 t437), wrap64 (Int.tdiv x1_10 t437), true)) else (some (0, 0, false)))))) = some (r1, r2, r3) := H
      have A13 := Aside0.mk A130
      clear A130
      replace H := Option.bind_eq_some_iff.mp H
      obtain ⟨t437, A140, H⟩ := H
      replace H : (if t437 = 0 then (none) else ((spec_QuoValid.f kj10 (wrap64 (Int.tdiv x0_10 t437)) (wrap64 (Int.tdiv x1_10 t437))).bind fun t439 => (if t439 = true then (some (wrap64 (Int.tdiv x0_10 t437), wrap64 (Int.tdiv x1_10 t437), true)) else (some (0, 0, false))))) = some (r1, r2, r3) := H
      have A14 := Aside0.mk A140
      clear A140
      by_cases c15 : t437 = 0
      ·rw [if_pos c15] at H
       exact absurd H (by simp)
      ·rw [if_neg c15] at H
       have c15b0 : (t437 == 0) = false := beq_eq_false_iff_ne.mpr c15
       have c15b1 : (t437 != 0) = true := bne_iff_ne.mpr c15
       replace H := Option.bind_eq_some_iff.mp H
       obtain ⟨t439, A160, H⟩ := H
       replace H : (if t439 = true then (some (wrap64 (Int.tdiv x0_10 t437), wrap64 (Int.tdiv x1_10 t437), true)) else (some (0, 0, false))) = some (r1, r2, r3) := H
       have A16 := Aside0.mk A160
       clear A160
       by_cases c17 : t439 = true
       ·subst c17
        have H1 : (some (wrap64 (Int.tdiv x0_10 t437), wrap64 (Int.tdiv x1_10 t437), true)) = some (r1, r2, r3) := by rw [if_pos rfl] at H; exact H
        clear H
        have H := H1
        clear H1
        simp only [Option.some.injEq, Prod.mk.injEq] at H
        obtain ⟨rfl, rfl, rfl⟩ := H
        try go_wp2_with (first | ((with_reducible refine gate_callee (f := 76) rfl ?_); refine goesL_ (some 35) rfl rfl Try.func76 (by kernel_rfl) rfl #[.int .i64 x0_10] rfl al ?_; (with_reducible refine (spec_l1Size.calls x0_10 t436 _ A13.out).mono ?_); rintro e w18 ⟨rfl, hb⟩; refine ⟨_, rfl, ?_⟩; have n0_ := Aside0.mk (blk_below (bf BK433.out) hb); have n1_ := Aside0.mk (below_step (lb HB.out) hb); clear BK433; clear HB; have BK433 := n0_; have HB := n1_; clear n0_ n1_; (try clear hb); (try clear hb2); (try clear hk); (try clear hi)) | ((with_reducible refine gate_callee (f := 75) rfl ?_); refine goesL_ (some 37) rfl rfl Try.func75 (by kernel_rfl) rfl #[.int .i64 t436, .int .i64 x1_10] rfl al ?_; (with_reducible refine (spec_l1Common.calls kj10 t436 x1_10 t437 _ A14.out).mono ?_); rintro e w' ⟨rfl, ⟨nd, rfl⟩⟩; refine ⟨_, rfl, ?_⟩; (try (rw [drewN_self w18]; generalize hq_ : World.drewN w18 _ = w18; have n0_ : Aside0 (w18.heap[gb433]? = some (.cells #[.int .i64 0, .int .i64 0] 39 (0, 0))) := ⟨by rw [← hq_]; exact (bf BK433.out)⟩; have n1_ : Aside0 (Below w.heap.size w w18) := ⟨by rw [← hq_]; exact (lb HB.out)⟩; clear BK433 HB hq_; have BK433 := n0_; have HB := n1_; clear n0_ n1_))))
        have n0_ := Aside0.mk (blk_drew BK433.out)
        have n1_ := Aside0.mk (below_drew1 HB.out)
        clear BK433 HB
        have BK433 := n0_
        have HB := n1_
        clear n0_ n1_
        refine start_ (n := 9) (S := fun w' => True) (ds := []) #[false,false,false,false,false,false,false,false,false] (by kernel_rfl) rfl rfl trivial (fun hHeld => ?_); refine with_tabW spec_QuoOf.tab8 spec_QuoOf.bits8 (fun HT_ HW_ => ?_)
        generalize w18.drew = w19 at BK433 HB hHeld ⊢
        refine pq_ 0 (some 38) ?_
        refine pq_ 1 (some 39) ?_
        refine pq_ 2 (some 40) ?_
        refine pq_ 3 (some 41) ?_
        refine pq_ 4 (some 42) ?_
        refine pq_ 5 (some 43) ?_
        refine pq_ 6 (some 44) ?_
        refine one_ (i := 7) (N := some 8) #[true,true,true,true,true,true,true,true,false] rfl rfl (one_of HT_.out (by kernel_rfl)) (by decide) (fun K hK => ?_)
        refine box_step ?hg (N := 8) ?hd (cs := #[.int .i64 0, .int .i64 0]) (t := 39) ?hr ?_; (case hd => rfl); (case hg => rfl); (case hr => first | (go_simp; done) | (go_simp; rfl))
        intro gb438 hg w20 hbox hb
        have n0_ := Aside0.mk (blk_below (bf BK433.out) hb)
        have n1_ := Aside0.mk (below_step (lb HB.out) hb)
        have n2_ := Aside0.mk (hbox)
        have n3_ := Aside0.mk ((by rw [hg]; exact (below_size (lb HB.out)) : w.heap.size ≤ gb438))
        have n4_ := Aside0.mk ((by rw [hg]; exact (below_size (lb HB.out)) : w.heap.size ≤ gb438))
        have n5_ := Aside0.mk ((by rw [hg]; exact Nat.ne_of_lt (blk_lt (bf BK433.out)) : gb433 ≠ gb438))
        have n6_ := Aside0.mk ((by rw [hg]; exact Nat.ne_of_gt (blk_lt (bf BK433.out)) : gb438 ≠ gb433))
        clear BK433 HB
        have BK433 := n0_
        have HB := n1_
        have BK438 := n2_
        have GW438 := n3_
        have GE438 := n4_
        have NB433_438 := n5_
        have NB438_433 := n6_
        clear n0_ n1_ n2_ n3_ n4_ n5_ n6_ hb hbox hg
        refine hK.out _ _ trivial (fun hHeld => ?_)
        clear hK K
        refine norm_ (a' := ?_) ?_ ?_
        rotate_left
        ·show Act.put _ (some 8) _ = _
         simp only [Act.put, List.setIfInBounds_toArray, List.set_cons_zero, List.set_cons_succ, i64_w, i32_w]
         rfl
        refine one_ (i := 8) (N := none) #[true,true,true,true,true,true,true,true,true] rfl rfl (one_of HT_.out (by kernel_rfl)) (by decide) (fun K hK => ?_)
        have hs21 : w20.cell? ⟨gb438, 0, none⟩ = some (.int .i64 0) := (blk_cell BK438.out 0).trans rfl
        have hfs21 := blk_frozen BK438.out 0
        have hns21_0 := NB433_438.out
        have hms21_0 := NB438_433.out
        have hs22 : w20.cell? ⟨gb438, 1, none⟩ = some (.int .i64 0) := (blk_cell BK438.out 1).trans rfl
        have hfs22 := blk_frozen BK438.out 1
        have hns22_0 := NB433_438.out
        have hms22_0 := NB438_433.out
        refine skip_ (w1 := ?_) (by rfl) rfl ?_ ?_
        rotate_left
        ·go_simp
         rfl
        refine hK.out _ _ trivial (fun hHeld => ?_)
        clear hK K
        refine done_ (done_of HT_.out (by kernel_rfl)) ?_
        have hnb23 := NB438_433.out
        have hnc23 := NB433_438.out
        have hcz24_0 : w20.cell? ⟨gb438, 0, none⟩ = some (.int .i64 0) := (blk_cell BK438.out 0).trans rfl
        have hcz24_1 : w20.cell? ⟨gb438, 1, none⟩ = some (.int .i64 0) := (blk_cell BK438.out 1).trans rfl
        have hfz24_0 := blk_frozen BK438.out 0
        have hfz24_1 := blk_frozen BK438.out 1
        try go_wp2_with (first | ((with_reducible refine gate_callee (f := 77) rfl ?_); refine goesL_ (some 46) rfl rfl Try.func77 (by kernel_rfl) rfl #[.agg #[.int .i64 (wrap64 (Int.tdiv x0_10 t437)), .int .i64 (wrap64 (Int.tdiv x1_10 t437))]] rfl al ?_; (with_reducible refine (spec_QuoValid.calls kj10 (wrap64 (Int.tdiv x0_10 t437)) (wrap64 (Int.tdiv x1_10 t437)) true _ A16.out).mono ?_); rintro e w25 ⟨rfl, hb⟩; refine ⟨_, rfl, ?_⟩; have n0_ := Aside0.mk (blk_below (bf BK433.out) hb); have n1_ := Aside0.mk (blk_below (bp BK438.out) hb); have n2_ := Aside0.mk (below_step (lb HB.out) hb); clear BK433; clear BK438; clear HB; have BK433 := n0_; have BK438 := n1_; have HB := n2_; clear n0_ n1_ n2_; (try clear hb); (try clear hb2); (try clear hk); (try clear hi); have hcz26_0 : w25.cell? ⟨gb438, 0, none⟩ = some (.int .i64 (wrap64 (Int.tdiv x0_10 t437))) := (blk_cell BK438.out 0).trans rfl; have hcz26_1 : w25.cell? ⟨gb438, 1, none⟩ = some (.int .i64 (wrap64 (Int.tdiv x1_10 t437))) := (blk_cell BK438.out 1).trans rfl; have hfz26_0 := blk_frozen BK438.out 0; have hfz26_1 := blk_frozen BK438.out 1; have hcz27_0 : w25.cell? ⟨gb433, 0, none⟩ = some (.int .i64 0) := (blk_cell BK433.out 0).trans rfl; have hcz27_1 : w25.cell? ⟨gb433, 1, none⟩ = some (.int .i64 0) := (blk_cell BK433.out 1).trans rfl; have hfz27_0 := blk_frozen BK433.out 0; have hfz27_1 := blk_frozen BK433.out 1))
        refine bodyPost_ret (results_ct rfl _ _ gb433 39 #[.int .i64 (wrap64 (Int.tdiv x0_10 t437)), .int .i64 (wrap64 (Int.tdiv x1_10 t437))] (0, 0) _ rfl (bp BK433.out) Try.underlying39 rfl (by kernel_rfl)) rfl ?_
        exact ⟨er, lb HB.out⟩
       ·replace c17 := Bool.eq_false_iff.mpr c17
        subst c17
        have H1 : (some (0, 0, false)) = some (r1, r2, r3) := by rw [if_neg (show ¬ (false = true) by decide)] at H; exact H
        clear H
        have H := H1
        clear H1
        simp only [Option.some.injEq, Prod.mk.injEq] at H
        obtain ⟨rfl, rfl, rfl⟩ := H
        try go_wp2_with (first | ((with_reducible refine gate_callee (f := 76) rfl ?_); refine goesL_ (some 35) rfl rfl Try.func76 (by kernel_rfl) rfl #[.int .i64 x0_10] rfl al ?_; (with_reducible refine (spec_l1Size.calls x0_10 t436 _ A13.out).mono ?_); rintro e w28 ⟨rfl, hb⟩; refine ⟨_, rfl, ?_⟩; have n0_ := Aside0.mk (blk_below (bf BK433.out) hb); have n1_ := Aside0.mk (below_step (lb HB.out) hb); clear BK433; clear HB; have BK433 := n0_; have HB := n1_; clear n0_ n1_; (try clear hb); (try clear hb2); (try clear hk); (try clear hi)) | ((with_reducible refine gate_callee (f := 75) rfl ?_); refine goesL_ (some 37) rfl rfl Try.func75 (by kernel_rfl) rfl #[.int .i64 t436, .int .i64 x1_10] rfl al ?_; (with_reducible refine (spec_l1Common.calls kj10 t436 x1_10 t437 _ A14.out).mono ?_); rintro e w' ⟨rfl, ⟨nd, rfl⟩⟩; refine ⟨_, rfl, ?_⟩; (try (rw [drewN_self w28]; generalize hq_ : World.drewN w28 _ = w28; have n0_ : Aside0 (w28.heap[gb433]? = some (.cells #[.int .i64 0, .int .i64 0] 39 (0, 0))) := ⟨by rw [← hq_]; exact (bf BK433.out)⟩; have n1_ : Aside0 (Below w.heap.size w w28) := ⟨by rw [← hq_]; exact (lb HB.out)⟩; clear BK433 HB hq_; have BK433 := n0_; have HB := n1_; clear n0_ n1_))))
        have n0_ := Aside0.mk (blk_drew BK433.out)
        have n1_ := Aside0.mk (below_drew1 HB.out)
        clear BK433 HB
        have BK433 := n0_
        have HB := n1_
        clear n0_ n1_
        refine start_ (n := 9) (S := fun w' => True) (ds := []) #[false,false,false,false,false,false,false,false,false] (by kernel_rfl) rfl rfl trivial (fun hHeld => ?_); refine with_tabW spec_QuoOf.tab8 spec_QuoOf.bits8 (fun HT_ HW_ => ?_)
        generalize w28.drew = w29 at BK433 HB hHeld ⊢
        refine pq_ 0 (some 38) ?_
        refine pq_ 1 (some 39) ?_
        refine pq_ 2 (some 40) ?_
        refine pq_ 3 (some 41) ?_
        refine pq_ 4 (some 42) ?_
        refine pq_ 5 (some 43) ?_
        refine pq_ 6 (some 44) ?_
        refine one_ (i := 7) (N := some 8) #[true,true,true,true,true,true,true,true,false] rfl rfl (one_of HT_.out (by kernel_rfl)) (by decide) (fun K hK => ?_)
        refine box_step ?hg (N := 8) ?hd (cs := #[.int .i64 0, .int .i64 0]) (t := 39) ?hr ?_; (case hd => rfl); (case hg => rfl); (case hr => first | (go_simp; done) | (go_simp; rfl))
        intro gb438 hg w30 hbox hb
        have n0_ := Aside0.mk (blk_below (bf BK433.out) hb)
        have n1_ := Aside0.mk (below_step (lb HB.out) hb)
        have n2_ := Aside0.mk (hbox)
        have n3_ := Aside0.mk ((by rw [hg]; exact (below_size (lb HB.out)) : w.heap.size ≤ gb438))
        have n4_ := Aside0.mk ((by rw [hg]; exact (below_size (lb HB.out)) : w.heap.size ≤ gb438))
        have n5_ := Aside0.mk ((by rw [hg]; exact Nat.ne_of_lt (blk_lt (bf BK433.out)) : gb433 ≠ gb438))
        have n6_ := Aside0.mk ((by rw [hg]; exact Nat.ne_of_gt (blk_lt (bf BK433.out)) : gb438 ≠ gb433))
        clear BK433 HB
        have BK433 := n0_
        have HB := n1_
        have BK438 := n2_
        have GW438 := n3_
        have GE438 := n4_
        have NB433_438 := n5_
        have NB438_433 := n6_
        clear n0_ n1_ n2_ n3_ n4_ n5_ n6_ hb hbox hg
        refine hK.out _ _ trivial (fun hHeld => ?_)
        clear hK K
        refine norm_ (a' := ?_) ?_ ?_
        rotate_left
        ·show Act.put _ (some 8) _ = _
         simp only [Act.put, List.setIfInBounds_toArray, List.set_cons_zero, List.set_cons_succ, i64_w, i32_w]
         rfl
        refine one_ (i := 8) (N := none) #[true,true,true,true,true,true,true,true,true] rfl rfl (one_of HT_.out (by kernel_rfl)) (by decide) (fun K hK => ?_)
        have hs31 : w30.cell? ⟨gb438, 0, none⟩ = some (.int .i64 0) := (blk_cell BK438.out 0).trans rfl
        have hfs31 := blk_frozen BK438.out 0
        have hns31_0 := NB433_438.out
        have hms31_0 := NB438_433.out
        have hs32 : w30.cell? ⟨gb438, 1, none⟩ = some (.int .i64 0) := (blk_cell BK438.out 1).trans rfl
        have hfs32 := blk_frozen BK438.out 1
        have hns32_0 := NB433_438.out
        have hms32_0 := NB438_433.out
        refine skip_ (w1 := ?_) (by rfl) rfl ?_ ?_
        rotate_left
        ·go_simp
         rfl
        refine hK.out _ _ trivial (fun hHeld => ?_)
        clear hK K
        refine done_ (done_of HT_.out (by kernel_rfl)) ?_
        have hnb33 := NB438_433.out
        have hnc33 := NB433_438.out
        have hcz34_0 : w30.cell? ⟨gb438, 0, none⟩ = some (.int .i64 0) := (blk_cell BK438.out 0).trans rfl
        have hcz34_1 : w30.cell? ⟨gb438, 1, none⟩ = some (.int .i64 0) := (blk_cell BK438.out 1).trans rfl
        have hfz34_0 := blk_frozen BK438.out 0
        have hfz34_1 := blk_frozen BK438.out 1
        try go_wp2_with (first | ((with_reducible refine gate_callee (f := 77) rfl ?_); refine goesL_ (some 46) rfl rfl Try.func77 (by kernel_rfl) rfl #[.agg #[.int .i64 (wrap64 (Int.tdiv x0_10 t437)), .int .i64 (wrap64 (Int.tdiv x1_10 t437))]] rfl al ?_; (with_reducible refine (spec_QuoValid.calls kj10 (wrap64 (Int.tdiv x0_10 t437)) (wrap64 (Int.tdiv x1_10 t437)) false _ A16.out).mono ?_); rintro e w35 ⟨rfl, hb⟩; refine ⟨_, rfl, ?_⟩; have n0_ := Aside0.mk (blk_below (bf BK433.out) hb); have n1_ := Aside0.mk (blk_below (bp BK438.out) hb); have n2_ := Aside0.mk (below_step (lb HB.out) hb); clear BK433; clear BK438; clear HB; have BK433 := n0_; have BK438 := n1_; have HB := n2_; clear n0_ n1_ n2_; (try clear hb); (try clear hb2); (try clear hk); (try clear hi); have hcz36_0 : w35.cell? ⟨gb433, 0, none⟩ = some (.int .i64 0) := (blk_cell BK433.out 0).trans rfl; have hcz36_1 : w35.cell? ⟨gb433, 1, none⟩ = some (.int .i64 0) := (blk_cell BK433.out 1).trans rfl; have hfz36_0 := blk_frozen BK433.out 0; have hfz36_1 := blk_frozen BK433.out 1))
        refine bodyPost_ret (results_ct rfl _ _ gb433 39 #[.int .i64 0, .int .i64 0] (0, 0) _ rfl (bp BK433.out) Try.underlying39 rfl (by kernel_rfl)) rfl ?_
        exact ⟨er, lb HB.out⟩
def spec_ParcelShare.f (k : Nat) (l0 : List (S33)) (a1 : Int) (a2 : Int) : Option (Int × Int × Bool) := (spec_ParcelSplit.f k l0 a1 a2).bind fun bt441 => (if bt441.2.2 = true then ((spec_l31Area.f k bt441.1).bind fun t448 => ((spec_l31Area.f k l0).bind fun t449 => ((spec_QuoOf.f k t448 t449).bind fun bt450 => (some (bt450.1, bt450.2.1, bt450.2.2))))) else (some (0, 0, false)))
theorem spec_ParcelShare.mono : ∀ a0 a1 a2 k, LeO (spec_ParcelShare.f k a0 a1 a2) (spec_ParcelShare.f (k + 1) a0 a1 a2) := by
 intro a0 a1 a2 k
 unfold spec_ParcelShare.f
 repeat' first
   | (with_reducible exact spec_ParcelSplit.mono _ _ _ _)
   | (with_reducible exact spec_QuoOf.mono _ _ _)
   | (with_reducible exact spec_l31Area.mono _ _)
   | (with_reducible exact LeO.refl _)
   | (with_reducible exact LeO.none _)
   | (with_reducible refine LeO.ite ?_ ?_)
   | (with_reducible refine LeO.bind ?_ (fun _ => ?_))
   | exact spec_ParcelSplit.mono _ _ _ _
   | exact spec_QuoOf.mono _ _ _
   | exact spec_l31Area.mono _ _
   | exact LeO.none _
   | refine LeO.ite ?_ ?_
   | refine LeO.bind ?_ (fun _ => ?_)
set_option maxHeartbeats 8000000 in
set_option maxRecDepth 100000 in
theorem spec_ParcelShare.calls (k : Nat) (A0 : Option Addr) (c0 : Nat) (l0 : List (S33)) (a1 : Int) (a2 : Int) (r1 : Int) (r2 : Int) (r3 : Bool) (w : World) (hr0 : Kd.C k33 w A0 l0.length l0) (hc0 : l0.length ≤ c0) (h : spec_ParcelShare.f k l0 a1 a2 = some (r1, r2, r3)) :
  Calls Try.prog 18 #[.slice A0 l0.length c0, .int .i64 a1, .int .i64 a2] w fun e w' => e = .returned (.tuple #[.agg #[.int .i64 r1, .int .i64 r2], .bool r3]) ∧ Below w.heap.size w w' := by
 have hu39 := Try.underlying39
 have HR0 := Aside0.mk hr0
 have HC0 := Aside0.mk hc0
 clear hr0 hc0
 have HB := Aside0.mk (Below.refl w.heap.size w)
 have H : ((spec_ParcelSplit.f k l0 a1 a2).bind fun bt441 => (if bt441.2.2 = true then ((spec_l31Area.f k bt441.1).bind fun t448 => ((spec_l31Area.f k l0).bind fun t449 => ((spec_QuoOf.f k t448 t449).bind fun bt450 => (some (bt450.1, bt450.2.1, bt450.2.2))))) else (some (0, 0, false)))) = some (r1, r2, r3) := h
 clear h
 replace H := Option.bind_eq_some_iff.mp H
 obtain ⟨⟨t441, t442, t443⟩, A40, H⟩ := H
 replace H : (if t443 = true then ((spec_l31Area.f k t441).bind fun t448 => ((spec_l31Area.f k l0).bind fun t449 => ((spec_QuoOf.f k t448 t449).bind fun bt450 => (some (bt450.1, bt450.2.1, bt450.2.2))))) else (some (0, 0, false))) = some (r1, r2, r3) := H
 have A4 := Aside0.mk A40
 clear A40
 by_cases c5 : t443 = true
 ·subst c5
  have H1 : ((spec_l31Area.f k t441).bind fun t448 => ((spec_l31Area.f k l0).bind fun t449 => ((spec_QuoOf.f k t448 t449).bind fun bt450 => (some (bt450.1, bt450.2.1, bt450.2.2))))) = some (r1, r2, r3) := by rw [if_pos rfl] at H; exact H
  clear H
  have H := H1
  clear H1
  replace H := Option.bind_eq_some_iff.mp H
  obtain ⟨t448, A60, H⟩ := H
  replace H : ((spec_l31Area.f k l0).bind fun t449 => ((spec_QuoOf.f k t448 t449).bind fun bt450 => (some (bt450.1, bt450.2.1, bt450.2.2)))) = some (r1, r2, r3) := H
  have A6 := Aside0.mk A60
  clear A60
  replace H := Option.bind_eq_some_iff.mp H
  obtain ⟨t449, A70, H⟩ := H
  replace H : ((spec_QuoOf.f k t448 t449).bind fun bt450 => (some (bt450.1, bt450.2.1, bt450.2.2))) = some (r1, r2, r3) := H
  have A7 := Aside0.mk A70
  clear A70
  replace H := Option.bind_eq_some_iff.mp H
  obtain ⟨⟨t450, t451, t452⟩, A80, H⟩ := H
  replace H : (some (t450, t451, t452)) = some (r1, r2, r3) := H
  have A8 := Aside0.mk A80
  clear A80
  simp only [Option.some.injEq, Prod.mk.injEq] at H
  obtain ⟨rfl, rfl, rfl⟩ := H
  go_enter Try.func18, Try.ntmps18
  go_wp2_with (first | ((with_reducible refine gate_dst (N := 6) rfl ?_); refine bx_ 6 (cs := #[.int .i64 0, .int .i64 0]) (t := 39) ?_; intro gb440 hg w9 hbox hb; have n0_ := Aside0.mk (below_step (lb HB.out) hb); have n1_ := Aside0.mk (hbox); have n2_ := Aside0.mk ((by rw [hg]; exact (below_size (lb HB.out)) : w.heap.size ≤ gb440)); have n3_ := Aside0.mk ((by rw [hg]; exact (below_size (lb HB.out)) : w.heap.size ≤ gb440)); clear HB; have HB := n0_; have BK440 := n1_; have GW440 := n2_; have GE440 := n3_; clear n0_ n1_ n2_ n3_; clear hb hbox hg) | ((with_reducible refine gate_callee (f := 9) rfl ?_); refine goesL_ (some 15) rfl rfl Try.func9 (by kernel_rfl) rfl #[.slice A0 l0.length c0, .int .i64 a1, .int .i64 a2] rfl al ?_; (with_reducible refine (spec_ParcelSplit.calls k _ _ l0 a1 a2 t441 t442 true _ ?side1 ?side2 A4.out).mono ?_); (case side1 => exact cm (Kd.C_below HR0.out HB.out)); (case side2 => exact HC0.out); rintro e w10 ⟨v444, v446, rfl, ho0, ho1, hb⟩; refine ⟨_, rfl, ?_⟩; have n0_ := Aside0.mk (Kd.R_lower ho0 (below_size (lb HB.out))); have n1_ := Aside0.mk (Kd.R_lower ho1 (below_size (lb HB.out))); have n2_ := Aside0.mk (blk_below (bf BK440.out) hb); have n3_ := Aside0.mk (below_step (lb HB.out) hb); clear BK440; clear HB; have HO445 := n0_; have HO447 := n1_; have BK440 := n2_; have HB := n3_; clear n0_ n1_ n2_ n3_; (try clear hb); (try clear hb2); (try clear hk); (try clear hi); (try clear ho0); (try clear ho1); obtain ⟨Ao11, co11, eo11⟩ := Kd.R_slice HO445.out; subst eo11) | ((with_reducible refine gate_callee (f := 50) rfl ?_); refine goesL_ (some 23) rfl rfl Try.func50 (by kernel_rfl) rfl #[.slice Ao11 t441.length co11] rfl al ?_; (with_reducible refine (spec_l31Area.calls k _ _ t441 t448 _ ?side1 ?side2 A6.out).mono ?_); (case side1 => exact cm (Kd.R_reads' HO445.out).2.2); (case side2 => exact (Kd.R_reads' HO445.out).2.1); rintro e w12 ⟨rfl, hb⟩; refine ⟨_, rfl, ?_⟩; have n0_ := Aside0.mk (Kd.R_below (rm HO445.out) hb); have n1_ := Aside0.mk (Kd.R_below (rm HO447.out) hb); have n2_ := Aside0.mk (blk_below (bf BK440.out) hb); have n3_ := Aside0.mk (below_step (lb HB.out) hb); clear HO445; clear HO447; clear BK440; clear HB; have HO445 := n0_; have HO447 := n1_; have BK440 := n2_; have HB := n3_; clear n0_ n1_ n2_ n3_; (try clear hb); (try clear hb2); (try clear hk); (try clear hi)) | ((with_reducible refine gate_callee (f := 50) rfl ?_); refine goesL_ (some 25) rfl rfl Try.func50 (by kernel_rfl) rfl #[.slice A0 l0.length c0] rfl al ?_; (with_reducible refine (spec_l31Area.calls k _ _ l0 t449 _ ?side1 ?side2 A7.out).mono ?_); (case side1 => exact cm (Kd.C_below HR0.out HB.out)); (case side2 => exact HC0.out); rintro e w13 ⟨rfl, hb⟩; refine ⟨_, rfl, ?_⟩; have n0_ := Aside0.mk (Kd.R_below (rm HO445.out) hb); have n1_ := Aside0.mk (Kd.R_below (rm HO447.out) hb); have n2_ := Aside0.mk (blk_below (bf BK440.out) hb); have n3_ := Aside0.mk (below_step (lb HB.out) hb); clear HO445; clear HO447; clear BK440; clear HB; have HO445 := n0_; have HO447 := n1_; have BK440 := n2_; have HB := n3_; clear n0_ n1_ n2_ n3_; (try clear hb); (try clear hb2); (try clear hk); (try clear hi)) | ((with_reducible refine gate_callee (f := 49) rfl ?_); refine goesL_ (some 26) rfl rfl Try.func49 (by kernel_rfl) rfl #[.int .i64 t448, .int .i64 t449] rfl al ?_; (with_reducible refine (spec_QuoOf.calls k t448 t449 t450 t451 t452 _ A8.out).mono ?_); rintro e w14 ⟨rfl, hb⟩; refine ⟨_, rfl, ?_⟩; have n0_ := Aside0.mk (Kd.R_below (rm HO445.out) hb); have n1_ := Aside0.mk (Kd.R_below (rm HO447.out) hb); have n2_ := Aside0.mk (blk_below (bf BK440.out) hb); have n3_ := Aside0.mk (below_step (lb HB.out) hb); clear HO445; clear HO447; clear BK440; clear HB; have HO445 := n0_; have HO447 := n1_; have BK440 := n2_; have HB := n3_; clear n0_ n1_ n2_ n3_; (try clear hb); (try clear hb2); (try clear hk); (try clear hi); have hcz15_0 : w14.cell? ⟨gb440, 0, none⟩ = some (.int .i64 0) := (blk_cell BK440.out 0).trans rfl; have hcz15_1 : w14.cell? ⟨gb440, 1, none⟩ = some (.int .i64 0) := (blk_cell BK440.out 1).trans rfl; have hfz15_0 := blk_frozen BK440.out 0; have hfz15_1 := blk_frozen BK440.out 1))
  refine bodyPost_ret (results_ct rfl _ _ gb440 39 #[.int .i64 t450, .int .i64 t451] (0, 0) _ rfl (bp BK440.out) Try.underlying39 rfl (by kernel_rfl)) rfl ?_
  exact ⟨er, lb HB.out⟩
 ·replace c5 := Bool.eq_false_iff.mpr c5
  subst c5
  have H1 : (some (0, 0, false)) = some (r1, r2, r3) := by rw [if_neg (show ¬ (false = true) by decide)] at H; exact H
  clear H
  have H := H1
  clear H1
  simp only [Option.some.injEq, Prod.mk.injEq] at H
  obtain ⟨rfl, rfl, rfl⟩ := H
  go_enter Try.func18, Try.ntmps18
  go_wp2_with (first | ((with_reducible refine gate_dst (N := 6) rfl ?_); refine bx_ 6 (cs := #[.int .i64 0, .int .i64 0]) (t := 39) ?_; intro gb440 hg w16 hbox hb; have n0_ := Aside0.mk (below_step (lb HB.out) hb); have n1_ := Aside0.mk (hbox); have n2_ := Aside0.mk ((by rw [hg]; exact (below_size (lb HB.out)) : w.heap.size ≤ gb440)); have n3_ := Aside0.mk ((by rw [hg]; exact (below_size (lb HB.out)) : w.heap.size ≤ gb440)); clear HB; have HB := n0_; have BK440 := n1_; have GW440 := n2_; have GE440 := n3_; clear n0_ n1_ n2_ n3_; clear hb hbox hg) | ((with_reducible refine gate_callee (f := 9) rfl ?_); refine goesL_ (some 15) rfl rfl Try.func9 (by kernel_rfl) rfl #[.slice A0 l0.length c0, .int .i64 a1, .int .i64 a2] rfl al ?_; (with_reducible refine (spec_ParcelSplit.calls k _ _ l0 a1 a2 t441 t442 false _ ?side1 ?side2 A4.out).mono ?_); (case side1 => exact cm (Kd.C_below HR0.out HB.out)); (case side2 => exact HC0.out); rintro e w17 ⟨v444, v446, rfl, ho0, ho1, hb⟩; refine ⟨_, rfl, ?_⟩; have n0_ := Aside0.mk (Kd.R_lower ho0 (below_size (lb HB.out))); have n1_ := Aside0.mk (Kd.R_lower ho1 (below_size (lb HB.out))); have n2_ := Aside0.mk (blk_below (bf BK440.out) hb); have n3_ := Aside0.mk (below_step (lb HB.out) hb); clear BK440; clear HB; have HO445 := n0_; have HO447 := n1_; have BK440 := n2_; have HB := n3_; clear n0_ n1_ n2_ n3_; (try clear hb); (try clear hb2); (try clear hk); (try clear hi); (try clear ho0); (try clear ho1); have hcz18_0 : w17.cell? ⟨gb440, 0, none⟩ = some (.int .i64 0) := (blk_cell BK440.out 0).trans rfl; have hcz18_1 : w17.cell? ⟨gb440, 1, none⟩ = some (.int .i64 0) := (blk_cell BK440.out 1).trans rfl; have hfz18_0 := blk_frozen BK440.out 0; have hfz18_1 := blk_frozen BK440.out 1))
  refine bodyPost_ret (results_ct rfl _ _ gb440 39 #[.int .i64 0, .int .i64 0] (0, 0) _ rfl (bp BK440.out) Try.underlying39 rfl (by kernel_rfl)) rfl ?_
  exact ⟨er, lb HB.out⟩
def laws_begunAt.f (l0 : List (S33)) (a1 : Int) : Option ((List (S33))) := (some (([] : List (S33)) : List (S33))).bind fun y453 => (if 0 ≤ a1 then (if a1 ≤ (l0.length : Int) then ((some (l0.drop (a1 : Int).toNat : List (S33))).bind fun y456 => (if y453.length + y456.length < 8796093022208 then ((some (y453 ++ y456 : List (S33))).bind fun y460 => ((some (l0.take (a1 : Int).toNat : List (S33))).bind fun y463 => (if y460.length + y463.length < 8796093022208 then (some (y460 ++ y463)) else (none)))) else (none))) else (none)) else (none))
def laws_begunAt.T1 : Bool × List (List Nat × List Nat) := (true,[([],[]),([],[]),([],[]),([1,2],[1,2]),([0,3],[0,3]),([],[]),([],[]),([5,6],[5,6]),([4,7,4],[4,7]),([8,8,0,1,2,3,4,5,6,7,8],[8])])
def laws_begunAt.B1 : List Nat := [0,0,0,6,15,0,0,96,255,511]
theorem laws_begunAt.tab1 : rtab .any (opsOf Try.f19 1) = laws_begunAt.T1 := by kernel_rfl
theorem laws_begunAt.bits1 : waitsOk laws_begunAt.T1.2 laws_begunAt.B1 = true := by kernel_rfl
set_option maxHeartbeats 8000000 in
set_option maxRecDepth 100000 in
theorem laws_begunAt.calls (A0 : Option Addr) (c0 : Nat) (l0 : List (S33)) (a1 : Int) (r : List (S33)) (w : World) (hr0 : Kd.C k33 w A0 l0.length l0) (hc0 : l0.length ≤ c0) (h : laws_begunAt.f l0 a1 = some r) :
  Calls Try.prog 19 #[.slice A0 l0.length c0, .int .i64 a1] w fun e w' => ∃ v0_ : Value, e = .returned (v0_) ∧ Kd.R k33 33 w' w.heap.size (fun _ => True) v0_ r ∧ Below w.heap.size w w' := by
 have HR0 := Aside0.mk hr0
 have HC0 := Aside0.mk hc0
 clear hr0 hc0
 have HB := Aside0.mk (Below.refl w.heap.size w)
 have H : ((some (([] : List (S33)) : List (S33))).bind fun y453 => (if 0 ≤ a1 then (if a1 ≤ (l0.length : Int) then ((some (l0.drop (a1 : Int).toNat : List (S33))).bind fun y456 => (if y453.length + y456.length < 8796093022208 then ((some (y453 ++ y456 : List (S33))).bind fun y460 => ((some (l0.take (a1 : Int).toNat : List (S33))).bind fun y463 => (if y460.length + y463.length < 8796093022208 then (some (y460 ++ y463)) else (none)))) else (none))) else (none)) else (none))) = some r := h
 clear h
 obtain ⟨y453, hy453⟩ : ∃ y_ : List (S33), y_ = (([] : List (S33))) := ⟨_, rfl⟩
 replace H : (if 0 ≤ a1 then (if a1 ≤ (l0.length : Int) then ((some (l0.drop (a1 : Int).toNat : List (S33))).bind fun y456 => (if y453.length + y456.length < 8796093022208 then ((some (y453 ++ y456 : List (S33))).bind fun y460 => ((some (l0.take (a1 : Int).toNat : List (S33))).bind fun y463 => (if y460.length + y463.length < 8796093022208 then (some (y460 ++ y463)) else (none)))) else (none))) else (none)) else (none)) = some r := by first | (rw [hy453]; with_reducible exact H) | (have H2_ := (Option.bind_some _ _).symm.trans H; rw [hy453]; with_reducible exact H2_) | (have H2_ := (Option.bind_some _ _).symm.trans H; with_reducible exact H2_) | with_reducible exact H | (rw [hy453]; exact H) | exact H
 have Ny453 := Aside0.mk hy453
 clear hy453
 by_cases c3 : 0 ≤ a1
 ·rw [if_pos c3] at H
  have c3b0 := eq_true c3
  have c3b1 : decide (0 ≤ a1) = true := decide_eq_true c3
  clear c3
  by_cases c4 : a1 ≤ (l0.length : Int)
  ·rw [if_pos c4] at H
   have c4b0 := eq_true c4
   have c4b1 : decide (a1 ≤ (l0.length : Int)) = true := decide_eq_true c4
   clear c4
   obtain ⟨y456, hy456⟩ : ∃ y_ : List (S33), y_ = (l0.drop (a1 : Int).toNat) := ⟨_, rfl⟩
   replace H : (if y453.length + y456.length < 8796093022208 then ((some (y453 ++ y456 : List (S33))).bind fun y460 => ((some (l0.take (a1 : Int).toNat : List (S33))).bind fun y463 => (if y460.length + y463.length < 8796093022208 then (some (y460 ++ y463)) else (none)))) else (none)) = some r := by first | (rw [hy456]; with_reducible exact H) | (have H2_ := (Option.bind_some _ _).symm.trans H; rw [hy456]; with_reducible exact H2_) | (have H2_ := (Option.bind_some _ _).symm.trans H; with_reducible exact H2_) | with_reducible exact H | (rw [hy456]; exact H) | exact H
   have Ny456 := Aside0.mk hy456
   clear hy456
   by_cases c5 : y453.length + y456.length < 8796093022208
   ·rw [if_pos c5] at H
    have LMc5 := Aside0.mk c5
    clear c5
    obtain ⟨y460, hy460⟩ : ∃ y_ : List (S33), y_ = (y453 ++ y456) := ⟨_, rfl⟩
    replace H : ((some (l0.take (a1 : Int).toNat : List (S33))).bind fun y463 => (if y460.length + y463.length < 8796093022208 then (some (y460 ++ y463)) else (none))) = some r := by first | (rw [hy460]; with_reducible exact H) | (have H2_ := (Option.bind_some _ _).symm.trans H; rw [hy460]; with_reducible exact H2_) | (have H2_ := (Option.bind_some _ _).symm.trans H; with_reducible exact H2_) | with_reducible exact H | (rw [hy460]; exact H) | exact H
    have Ny460 := Aside0.mk hy460
    clear hy460
    have c6b0 := eq_true (oa : 0 ≤ a1)
    have c7b0 := eq_true (oa : a1 ≤ (l0.length : Int))
    obtain ⟨y463, hy463⟩ : ∃ y_ : List (S33), y_ = (l0.take (a1 : Int).toNat) := ⟨_, rfl⟩
    replace H : (if y460.length + y463.length < 8796093022208 then (some (y460 ++ y463)) else (none)) = some r := by first | (rw [hy463]; with_reducible exact H) | (have H2_ := (Option.bind_some _ _).symm.trans H; rw [hy463]; with_reducible exact H2_) | (have H2_ := (Option.bind_some _ _).symm.trans H; with_reducible exact H2_) | with_reducible exact H | (rw [hy463]; exact H) | exact H
    have Ny463 := Aside0.mk hy463
    clear hy463
    by_cases c8 : y460.length + y463.length < 8796093022208
    ·rw [if_pos c8] at H
     have LMc8 := Aside0.mk c8
     clear c8
     obtain ⟨y467, hy467⟩ : ∃ y_ : List (S33), y_ = (y460 ++ y463) := ⟨_, rfl⟩
     replace H : (some y467) = some r := by first | (rw [hy467]; with_reducible exact H) | (have H2_ := (Option.bind_some _ _).symm.trans H; rw [hy467]; with_reducible exact H2_) | (have H2_ := (Option.bind_some _ _).symm.trans H; with_reducible exact H2_) | with_reducible exact H | (rw [hy467]; exact H) | exact H
     have Ny467 := Aside0.mk hy467
     clear hy467
     obtain rfl := Option.some.inj H
     go_enter Try.func19, Try.ntmps19
     try go_wp2
     have n0_ := Aside0.mk (below_drew1 HB.out)
     clear HB
     have HB := n0_
     clear n0_
     have q10 : (a1 : Int) ≤ ((l0.length : Int) : Int) := oa
     obtain ⟨i010, hi010, _, hsz10, _⟩ := info_parts info33
     have hroom10 : l0.length ≤ c0 := HC0.out
     have hC10 : Kd.C k33 _ A0 l0.length l0 := HR0.out
     have q010 : (0 : Int) ≤ (a1 : Int) := oa
     have hcut10 := cut_from (P := Try.prog) 23 33 .i64 Try.underlying23 hi010 2 hsz10 A0 l0.length c0 a1 q010 q10
     have hr10 := Kd.C_drop (m := (a1 : Int).toNat) (c := c0) hC10 (by omega) hroom10
     obtain ⟨A10, hA10⟩ : ∃ A1, A1 = (if c0 = (a1 : Int).toNat then A0 else (A0 : Option Addr).map (·.add ((a1 : Int).toNat * 2))) := ⟨_, rfl⟩
     obtain ⟨c10, hc10⟩ : ∃ c1, c1 = c0 - (a1 : Int).toNat := ⟨_, rfl⟩
     have hy10 : y456.length = l0.length - (a1 : Int).toNat := (by rw [Ny456.out, List.length_drop] <;> omega)
     rw [show (l0).drop (a1 : Int).toNat = y456 from Ny456.out.symm] at hr10
     replace hr10 : Kd.C k33 _ A10 y456.length y456 := (by rw [hA10]; exact hr10)
     rw [← hy10, ← hA10, ← hc10] at hcut10
     have HR459 := Aside0.mk hr10
     have HC459 := Aside0.mk (show y456.length ≤ c10 from by rw [hy10, hc10]; exact Nat.sub_le_sub_right hroom10 _)
     clear hr10 hC10 hroom10 hi010 hsz10 hc10
     have KY10 := Aside0.mk hy10
     have KA10 := Aside0.mk hA10
     clear hy10 hA10
     replace q10 := eq_true q10
     have q11 : (a1 : Int) ≤ ((l0.length : Int) : Int) := oa
     obtain ⟨i011, hi011, _, hsz11, _⟩ := info_parts info33
     have hroom11 : l0.length ≤ c0 := HC0.out
     have hC11 : Kd.C k33 _ A0 l0.length l0 := HR0.out
     have hcut11 := cut_to (P := Try.prog) 23 33 .i64 Try.underlying23 hi011 A0 l0.length c0 a1 oa q11 hroom11
     have hr11 := Kd.C_take (m := (a1 : Int).toNat) hC11 (by omega)
     have hy11 : y463.length = (a1 : Int).toNat := (by rw [Ny463.out, List.length_take]; omega)
     rw [← Ny463.out] at hr11
     rw [← hy11] at hcut11
     have HR466 := Aside0.mk hr11
     have HC466 := Aside0.mk (show y463.length ≤ c0 from by omega)
     clear hr11 hC11 hroom11 hi011 hsz11
     have KY11 := Aside0.mk hy11
     clear hy11
     replace q11 := eq_true q11
     refine start_ (n := 10) (S := fun w' => True) (ds := []) #[false,false,false,false,false,false,false,false,false,false] (by kernel_rfl) rfl rfl trivial (fun hHeld => ?_); refine with_tabW laws_begunAt.tab1 laws_begunAt.bits1 (fun HT_ HW_ => ?_)
     generalize w.drew = w9 at HB HR459 HR466 hHeld ⊢
     refine pq_ 1 (some 6) ?_
     refine pq_ 2 (some 7) ?_
     refine pq_ 3 (some 8) ?_
     refine pq_ 5 (some 10) ?_
     refine pq_ 6 (some 11) ?_
     refine pq_ 7 (some 12) ?_
     refine one_ (i := 0) (N := some 5) #[true,true,true,true,false,true,true,true,false,false] rfl rfl (one_of HT_.out (by kernel_rfl)) (by decide) (fun K hK => ?_)
     refine Kd.R_lit_step k33 _ 33 ?hg (N := 5) ?hd (xs := ([] : List (S33))) (inner := []) (ok := fun _ => True) (okp := fun _ => True) ?hr ?hp (fun _ hk => hk) trivial (Below.refl _ _) (Nat.le_refl _) (by simp) ?_; (case hd => rfl); (case hg => rfl); (case hr => first | (go_simp; done) | (go_simp; rfl)); (case hp => exact (Reps.none _ _))
     intro v454 w12 ho13 hb hg_ hnew_
     clear hg_ hnew_
     (first | rw [← Ny453.out] at ho13 | (simp only [Int.reduceToNat] at ho13; rw [← Ny453.out] at ho13))
     have n0_ := Aside0.mk (Kd.R_lower ho13 (below_size (lb HB.out)))
     have n1_ := Aside0.mk (below_step (lb HB.out) hb)
     clear HB
     have HO455 := n0_
     have HB := n1_
     clear n0_ n1_ hb ho13
     refine hK.out _ _ trivial (fun hHeld => ?_)
     clear hK K
     refine norm_ (a' := ?_) ?_ ?_
     rotate_left
     ·show Act.put _ (some 5) _ = _
      simp only [Act.put, List.setIfInBounds_toArray, List.set_cons_zero, List.set_cons_succ, i64_w, i32_w]
      rfl
     refine one_ (i := 4) (N := some 9) #[true,true,true,true,true,true,true,true,false,false] rfl rfl (one_of HT_.out (by kernel_rfl)) (by decide) (fun K hK => ?_)
     refine Kd.R_append_rows_step k33 (w0 := w) w.heap.size (by rfl) (.tmp 5) (.tmp 8) 23 33 (.agg #[(.int .i64 0), (.int .i64 0)]) 16 rfl Try.underlying23 info33 rfl (by decide) (by omega) v454 y453 y456 _ _ _ (fun _ => True) (fun _ => False) rfl rfl ?aO ?aR (fun _ _ h => h) (fun _ h => h.elim) ?aF ?aB ?aS ?aL ?_
     (case aR => exact cm (Kd.C_below HR459.out HB.out))
     (case aB => exact (lb HB.out))
     (case aF => exact (fun _ _ => trivial))
     (case aO => exact (rm HO455.out))
     (case aS => exact (below_size (lb HB.out)))
     (case aL => have := LMc5.out; omega)
     intro v461 w14 ho hb hg hat
     rw [← Ny460.out] at ho
     have n0_ := Aside0.mk (hb)
     have n1_ := Aside0.mk (ho)
     clear HB HO455
     have HB := n0_
     have HO462 := n1_
     clear n0_ n1_ ho hb hg hat
     refine hK.out _ _ trivial (fun hHeld => ?_)
     clear hK K
     refine norm_ (a' := ?_) ?_ ?_
     rotate_left
     ·show Act.put _ (some 9) _ = _
      simp only [Act.put, List.setIfInBounds_toArray, List.set_cons_zero, List.set_cons_succ, i64_w, i32_w]
      rfl
     refine one_ (i := 8) (N := some 13) #[true,true,true,true,true,true,true,true,true,false] rfl rfl (one_of HT_.out (by kernel_rfl)) (by decide) (fun K hK => ?_)
     refine Kd.R_append_rows_step k33 (w0 := w) w.heap.size (by rfl) (.tmp 9) (.tmp 12) 23 33 (.agg #[(.int .i64 0), (.int .i64 0)]) 16 rfl Try.underlying23 info33 rfl (by decide) (by omega) v461 y460 y463 _ _ _ (fun _ => True) (fun _ => False) rfl rfl ?aO ?aR (fun _ _ h => h) (fun _ h => h.elim) ?aF ?aB ?aS ?aL ?_
     (case aR => exact cm (Kd.C_below HR466.out HB.out))
     (case aB => exact (lb HB.out))
     (case aF => exact (fun _ _ => trivial))
     (case aO => exact (rm HO462.out))
     (case aS => exact (below_size (lb HB.out)))
     (case aL => have := LMc8.out; omega)
     intro v468 w15 ho hb hg hat
     rw [← Ny467.out] at ho
     have n0_ := Aside0.mk (hb)
     have n1_ := Aside0.mk (ho)
     clear HB HO462
     have HB := n0_
     have HO469 := n1_
     clear n0_ n1_ ho hb hg hat
     refine hK.out _ _ trivial (fun hHeld => ?_)
     clear hK K
     refine norm_ (a' := ?_) ?_ ?_
     rotate_left
     ·show Act.put _ (some 13) _ = _
      simp only [Act.put, List.setIfInBounds_toArray, List.set_cons_zero, List.set_cons_succ, i64_w, i32_w]
      rfl
     refine pq_ 9 (some 4) ?_
     refine done_ (done_of HT_.out (by kernel_rfl)) ?_
     try go_wp2
     go_ret
     exact ⟨_, er, rm HO469.out, lb HB.out⟩
    ·rw [if_neg c8] at H
     exact absurd H (by simp)
   ·rw [if_neg c5] at H
    exact absurd H (by simp)
  ·rw [if_neg c4] at H
   exact absurd H (by simp)
 ·rw [if_neg c3] at H
  exact absurd H (by simp)
theorem wholeParts (x : Int) (w : World) : Calls Try.prog 107 #[.int .i64 x] w fun e w' => e = .returned (.tuple #[.int .i64 x, .int .i64 1]) ∧ w' = w := by
 go_enter Try.func107, Try.ntmps107
 go_wp2
 exact bodyPost_ret (v := .tuple #[.int .i64 x, .int .i64 1]) (results_list (rs := [.tmp 2, .tmp 3]) (vs := [.int .i64 x, .int .i64 1]) rfl (by simp) (.tmp (.tmp .nil))) rfl ⟨rfl, rfl⟩
theorem brokenParts (x y : Int) (w : World) : Calls Try.prog 108 #[.agg #[.int .i64 x, .int .i64 y]] w fun e w' => e = .returned (.tuple #[.int .i64 x, .int .i64 y]) ∧ Below w.heap.size w w' := by
 have HM := Aside0.mk (Hd.nil w)
 go_enter Try.func108, Try.ntmps108
 go_upto_region 1 with ((with_reducible refine gate_dst (N := 1) rfl ?_); refine bx_ 1 (cs := #[.int .i64 x, .int .i64 y]) (t := 105) ?_; intro g1 e_ w_ b_ hb; replace HM := Aside0.mk (HM.out.box hb b_ e_); clear e_ b_ hb)
 have ka0 := blk_cell HM.out.a0 0
 have ka1 := blk_cell HM.out.a0 1
 go_region
 all_goals
  go_wp2_with fail
  first | exact bodyPost_ret (v := .tuple #[.int .i64 x, .int .i64 y]) (results_list (rs := [.tmp 2, .tmp 3]) (vs := [.int .i64 x, .int .i64 y]) rfl (by simp) (.tmp (.tmp .nil))) rfl ⟨rfl, HM.out.1⟩ | exact bodyPost_ret (v := .tuple #[.int .i64 x, .int .i64 y]) (results_list (rs := [.tmp 2, .tmp 3]) (vs := [.int .i64 x, .int .i64 y]) rfl (by simp) (.tmp (.tmp .nil))) rfl ⟨rfl, HM.out.drew.1⟩
def qv (t l : Int) : Value := if l = 1 then .iface 103 (.int .i64 t) else .iface 105 (.agg #[.int .i64 t, .int .i64 l])
theorem qof_no (k : Nat) (t l : Int) (hv : impl_QuoValid.f k t l = some false) (w : World) : Calls Try.prog 51 #[.agg #[.int .i64 t, .int .i64 l]] w fun e w' => e = .returned (.tuple #[.nilIface, .bool false]) ∧ Below w.heap.size w w' := by
 have HV := Aside0.mk hv; clear hv
 have HM := Aside0.mk (Hd.nil w)
 go_enter Try.func51, Try.ntmps51
 go_upto_region 1 with ((with_reducible refine gate_dst (N := 1) rfl ?_); refine bx_ 1 (cs := #[.int .i64 t, .int .i64 l]) (t := 39) ?_; intro g1 e_ w_ b_ hb; replace HM := Aside0.mk (HM.out.box hb b_ e_); clear e_ b_ hb)
 have ka0 := blk_cell HM.out.a0 0
 have ka1 := blk_cell HM.out.a0 1
 go_wp2_with (go_at_call 74; (with_reducible refine (impl_QuoValid.calls k t l _ _ HV.out).mono ?_); rintro e w_ ⟨rfl, hb⟩; replace HM := Aside0.mk (HM.out.keep hb); clear hb; (try clear ka0 ka1); have ka0 := blk_cell HM.out.a0 0; have ka1 := blk_cell HM.out.a0 1)
 exact bodyPost_ret (v := .tuple #[.nilIface, .bool false]) (results_list (rs := [.tmp 2, .tmp 3]) (vs := [.nilIface, .bool false]) rfl (by simp) (.tmp (.tmp .nil))) rfl ⟨rfl, HM.out.1⟩
theorem qof_w (k : Nat) (t : Int) (hv : impl_QuoValid.f k t 1 = some true) (w : World) : Calls Try.prog 51 #[.agg #[.int .i64 t, .int .i64 1]] w fun e w' => e = .returned (.tuple #[.iface 103 (.int .i64 t), .bool true]) ∧ Below w.heap.size w w' := by
 have HV := Aside0.mk hv; clear hv
 have HM := Aside0.mk (Hd.nil w)
 go_enter Try.func51, Try.ntmps51
 go_upto_region 1 with ((with_reducible refine gate_dst (N := 1) rfl ?_); refine bx_ 1 (cs := #[.int .i64 t, .int .i64 1]) (t := 39) ?_; intro g1 e_ w_ b_ hb; replace HM := Aside0.mk (HM.out.box hb b_ e_); clear e_ b_ hb)
 have ka0 := blk_cell HM.out.a0 0
 have ka1 := blk_cell HM.out.a0 1
 go_wp2_with (go_at_call 74; (with_reducible refine (impl_QuoValid.calls k t 1 _ _ HV.out).mono ?_); rintro e w_ ⟨rfl, hb⟩; replace HM := Aside0.mk (HM.out.keep hb); clear hb; (try clear ka0 ka1); have ka0 := blk_cell HM.out.a0 0; have ka1 := blk_cell HM.out.a0 1)
 exact bodyPost_ret (v := .tuple #[.iface 103 (.int .i64 t), .bool true]) (results_list (rs := [.tmp 2, .tmp 3]) (vs := [.iface 103 (.int .i64 t), .bool true]) rfl (by simp) (.tmp (.tmp .nil))) rfl ⟨rfl, HM.out.1⟩
theorem qof_b (k : Nat) (t l : Int) (hv : impl_QuoValid.f k t l = some true) (hl : l ≠ 1) (w : World) : Calls Try.prog 51 #[.agg #[.int .i64 t, .int .i64 l]] w fun e w' => e = .returned (.tuple #[.iface 105 (.agg #[.int .i64 t, .int .i64 l]), .bool true]) ∧ Below w.heap.size w w' := by
 have HV := Aside0.mk hv; clear hv; have hlb : (l == 1) = false := by simpa using hl
 have HM := Aside0.mk (Hd.nil w)
 go_enter Try.func51, Try.ntmps51
 go_upto_region 1 with ((with_reducible refine gate_dst (N := 1) rfl ?_); refine bx_ 1 (cs := #[.int .i64 t, .int .i64 l]) (t := 39) ?_; intro g1 e_ w_ b_ hb; replace HM := Aside0.mk (HM.out.box hb b_ e_); clear e_ b_ hb)
 have ka0 := blk_cell HM.out.a0 0
 have ka1 := blk_cell HM.out.a0 1
 go_wp2_with (go_at_call 74; (with_reducible refine (impl_QuoValid.calls k t l _ _ HV.out).mono ?_); rintro e w_ ⟨rfl, hb⟩; replace HM := Aside0.mk (HM.out.keep hb); clear hb; (try clear ka0 ka1); have ka0 := blk_cell HM.out.a0 0; have ka1 := blk_cell HM.out.a0 1)
 exact bodyPost_ret (v := .tuple #[.iface 105 (.agg #[.int .i64 t, .int .i64 l]), .bool true]) (results_list (rs := [.tmp 2, .tmp 3]) (vs := [.iface 105 (.agg #[.int .i64 t, .int .i64 l]), .bool true]) rfl (by simp) (.tmp (.tmp .nil))) rfl ⟨rfl, HM.out.1⟩
theorem qof_yes (k : Nat) (t l : Int) (hv : impl_QuoValid.f k t l = some true) (w : World) : Calls Try.prog 51 #[.agg #[.int .i64 t, .int .i64 l]] w fun e w' => e = .returned (.tuple #[qv t l, .bool true]) ∧ Below w.heap.size w w' := by
 unfold qv
 by_cases hl : l = 1
 ·subst hl; rw [if_pos rfl]; exact qof_w k t hv w
 ·rw [if_neg hl]; exact qof_b k t l hv hl w
theorem ta_ww (v : Value) (w : World) : (Instr.typeAssert (.iface 103 v) 78 103 true).run Try.prog w = .ok (.tuple #[v, .bool true]) w := by kernel_rfl
theorem ta_bw (v : Value) (w : World) : (Instr.typeAssert (.iface 105 v) 78 103 true).run Try.prog w = .ok (.tuple #[.int .i64 0, .bool false]) w := by kernel_rfl
theorem ta_bb (v : Value) (w : World) : (Instr.typeAssert (.iface 105 v) 78 105 true).run Try.prog w = .ok (.tuple #[v, .bool true]) w := by kernel_rfl
set_option maxHeartbeats 4000000 in
set_option maxRecDepth 100000 in
theorem sum_ww (k : Nat) (t1 t2 r1 r2 : Int) (r3 : Bool) (hq : impl_QuoOf.f k (wrap64 (wrap64 (t1) + t2)) (1) = some (r1, r2, r3)) (w : World) : Calls Try.prog 52 #[.iface 103 (.int .i64 t1), .iface 103 (.int .i64 t2)] w fun e w' => e = .returned (.tuple #[.agg #[.int .i64 r1, .int .i64 r2], .bool r3]) ∧ Below w.heap.size w w' := by
 have HQ := Aside0.mk hq
 clear hq
 have hm : ∀ w : World, (method 230 103 (.int .i64 t2) "loop.example/levellingnet/impl.parts").run Try.prog w = .ok (107, .int .i64 t2) w := fun _ => by kernel_rfl
 have q1 := ta_ww (.int .i64 t1)
 have HM := Aside0.mk (Hd.nil w)
 go_enter Try.func52, Try.ntmps52
 go_wp2_with (first
  | ((with_reducible refine gate_dst (N := 4) rfl ?_); refine bx_ 4 (cs := #[.int .i64 0, .int .i64 0]) (t := 39) ?_; intro g4 e_ w_ b_ hb; replace HM := Aside0.mk (HM.out.box hb b_ e_); clear e_ b_ hb; have kr0 := blk_cell HM.out.a0 0; have kr1 := blk_cell HM.out.a0 1; have krf0 := blk_frozen HM.out.a0 0; have krf1 := blk_frozen HM.out.a0 1)
  | (go_at_call 107; (with_reducible refine (wholeParts t2 _).mono ?_); rintro e w_ ⟨rfl, rfl⟩)
  | (go_at_call 48; (with_reducible refine (impl_QuoOf.calls k (wrap64 (wrap64 (t1) + t2)) (1) r1 r2 r3 _ HQ.out).mono ?_); rintro e w_ ⟨rfl, hb⟩; replace HM := Aside0.mk (HM.out.keep hb); clear hb; (try clear kr0 krf0 kr1 krf1); have kr0 := blk_cell HM.out.a0 0; have kr1 := blk_cell HM.out.a0 1; have krf0 := blk_frozen HM.out.a0 0; have krf1 := blk_frozen HM.out.a0 1))
 have HZ := HM.out.put2 (.int .i64 r1) (.int .i64 r2)
 exact bodyPost_ret (results_ct rfl _ _ g4 39 #[.int .i64 r1, .int .i64 r2] (0, 0) _ rfl HZ.a0 Try.underlying39 rfl (by kernel_rfl)) rfl ⟨rfl, HZ.1⟩
set_option maxHeartbeats 4000000 in
set_option maxRecDepth 100000 in
theorem sum_wb (k : Nat) (t1 t2 l2 r1 r2 : Int) (r3 : Bool) (hq : impl_QuoOf.f k (wrap64 (wrap64 (t1 * l2) + t2)) (l2) = some (r1, r2, r3)) (w : World) : Calls Try.prog 52 #[.iface 103 (.int .i64 t1), .iface 105 (.agg #[.int .i64 t2, .int .i64 l2])] w fun e w' => e = .returned (.tuple #[.agg #[.int .i64 r1, .int .i64 r2], .bool r3]) ∧ Below w.heap.size w w' := by
 have HQ := Aside0.mk hq
 clear hq
 have hm : ∀ w : World, (method 230 105 (.agg #[.int .i64 t2, .int .i64 l2]) "loop.example/levellingnet/impl.parts").run Try.prog w = .ok (108, .agg #[.int .i64 t2, .int .i64 l2]) w := fun _ => by kernel_rfl
 have q1 := ta_ww (.int .i64 t1)
 have HM := Aside0.mk (Hd.nil w)
 go_enter Try.func52, Try.ntmps52
 go_wp2_with (first
  | ((with_reducible refine gate_dst (N := 4) rfl ?_); refine bx_ 4 (cs := #[.int .i64 0, .int .i64 0]) (t := 39) ?_; intro g4 e_ w_ b_ hb; replace HM := Aside0.mk (HM.out.box hb b_ e_); clear e_ b_ hb; have kr0 := blk_cell HM.out.a0 0; have kr1 := blk_cell HM.out.a0 1; have krf0 := blk_frozen HM.out.a0 0; have krf1 := blk_frozen HM.out.a0 1)
  | (go_at_call 108; (with_reducible refine (brokenParts t2 l2 _).mono ?_); rintro e w_ ⟨rfl, hb⟩; replace HM := Aside0.mk (HM.out.keep hb); clear hb; (try clear kr0 krf0 kr1 krf1); have kr0 := blk_cell HM.out.a0 0; have kr1 := blk_cell HM.out.a0 1; have krf0 := blk_frozen HM.out.a0 0; have krf1 := blk_frozen HM.out.a0 1)
  | (go_at_call 48; (with_reducible refine (impl_QuoOf.calls k (wrap64 (wrap64 (t1 * l2) + t2)) (l2) r1 r2 r3 _ HQ.out).mono ?_); rintro e w_ ⟨rfl, hb⟩; replace HM := Aside0.mk (HM.out.keep hb); clear hb; (try clear kr0 krf0 kr1 krf1); have kr0 := blk_cell HM.out.a0 0; have kr1 := blk_cell HM.out.a0 1; have krf0 := blk_frozen HM.out.a0 0; have krf1 := blk_frozen HM.out.a0 1))
 have HZ := HM.out.put2 (.int .i64 r1) (.int .i64 r2)
 exact bodyPost_ret (results_ct rfl _ _ g4 39 #[.int .i64 r1, .int .i64 r2] (0, 0) _ rfl HZ.a0 Try.underlying39 rfl (by kernel_rfl)) rfl ⟨rfl, HZ.1⟩
set_option maxHeartbeats 4000000 in
set_option maxRecDepth 100000 in
theorem sum_bw (k : Nat) (t1 l1 t2 r1 r2 : Int) (r3 : Bool) (hq : impl_QuoOf.f k (wrap64 (wrap64 (t1) + wrap64 (t2 * l1))) (wrap64 l1) = some (r1, r2, r3)) (w : World) : Calls Try.prog 52 #[.iface 105 (.agg #[.int .i64 t1, .int .i64 l1]), .iface 103 (.int .i64 t2)] w fun e w' => e = .returned (.tuple #[.agg #[.int .i64 r1, .int .i64 r2], .bool r3]) ∧ Below w.heap.size w w' := by
 have HQ := Aside0.mk hq
 clear hq
 have hm : ∀ w : World, (method 230 103 (.int .i64 t2) "loop.example/levellingnet/impl.parts").run Try.prog w = .ok (107, .int .i64 t2) w := fun _ => by kernel_rfl
 have q1 := ta_bw (.agg #[.int .i64 t1, .int .i64 l1])
 have q2 := ta_bb (.agg #[.int .i64 t1, .int .i64 l1])
 have HM := Aside0.mk (Hd.nil w)
 go_enter Try.func52, Try.ntmps52
 go_wp2_with (first
  | ((with_reducible refine gate_dst (N := 4) rfl ?_); refine bx_ 4 (cs := #[.int .i64 0, .int .i64 0]) (t := 39) ?_; intro g4 e_ w_ b_ hb; replace HM := Aside0.mk (HM.out.box hb b_ e_); clear e_ b_ hb; have kr0 := blk_cell HM.out.a0 0; have kr1 := blk_cell HM.out.a0 1; have krf0 := blk_frozen HM.out.a0 0; have krf1 := blk_frozen HM.out.a0 1)
  | ((with_reducible refine gate_dst (N := 9) rfl ?_); refine bx_ 9 (cs := #[.int .i64 0, .int .i64 0]) (t := 105) ?_; intro g9 e_ w_ b_ hb; replace HM := Aside0.mk (HM.out.box hb b_ e_); clear e_ b_ hb; (try clear kr0 kr1 krf0 krf1); have kr0 := blk_cell HM.out.a1 0; have kr1 := blk_cell HM.out.a1 1; have krf0 := blk_frozen HM.out.a1 0; have krf1 := blk_frozen HM.out.a1 1; have kb0 := blk_cell HM.out.a0 0; have kb1 := blk_cell HM.out.a0 1; have kbf0 := blk_frozen HM.out.a0 0; have kbf1 := blk_frozen HM.out.a0 1; have n1 := HM.out.ne.1; have n2 := HM.out.ne.2; simp only [] at n1 n2)
  | (go_at_call 107; (with_reducible refine (wholeParts t2 _).mono ?_); rintro e w_ ⟨rfl, rfl⟩)
  | (go_at_call 48; (with_reducible refine (impl_QuoOf.calls k (wrap64 (wrap64 (t1) + wrap64 (t2 * l1))) (wrap64 l1) r1 r2 r3 _ HQ.out).mono ?_); rintro e w_ ⟨rfl, hb⟩; replace HM := Aside0.mk ((HM.out.put2 (.int .i64 t1) (.int .i64 l1)).keep hb); clear hb; (try clear kr0 krf0 kr1 krf1 kb0 kbf0 kb1 kbf1); have kr0 := blk_cell HM.out.a1 0; have kr1 := blk_cell HM.out.a1 1; have krf0 := blk_frozen HM.out.a1 0; have krf1 := blk_frozen HM.out.a1 1; have kb0 := blk_cell HM.out.a0 0; have kb1 := blk_cell HM.out.a0 1; have kbf0 := blk_frozen HM.out.a0 0; have kbf1 := blk_frozen HM.out.a0 1))
 have HZ := HM.out.put2_1 (.int .i64 r1) (.int .i64 r2)
 exact bodyPost_ret (results_ct rfl _ _ g4 39 #[.int .i64 r1, .int .i64 r2] (0, 0) _ rfl HZ.a1 Try.underlying39 rfl (by kernel_rfl)) rfl ⟨rfl, HZ.1⟩
set_option maxHeartbeats 4000000 in
set_option maxRecDepth 100000 in
theorem sum_bb (k : Nat) (t1 l1 t2 l2 r1 r2 : Int) (r3 : Bool) (hq : impl_QuoOf.f k (wrap64 (wrap64 (t1 * l2) + wrap64 (t2 * l1))) (wrap64 (l1 * l2)) = some (r1, r2, r3)) (w : World) : Calls Try.prog 52 #[.iface 105 (.agg #[.int .i64 t1, .int .i64 l1]), .iface 105 (.agg #[.int .i64 t2, .int .i64 l2])] w fun e w' => e = .returned (.tuple #[.agg #[.int .i64 r1, .int .i64 r2], .bool r3]) ∧ Below w.heap.size w w' := by
 have HQ := Aside0.mk hq
 clear hq
 have hm : ∀ w : World, (method 230 105 (.agg #[.int .i64 t2, .int .i64 l2]) "loop.example/levellingnet/impl.parts").run Try.prog w = .ok (108, .agg #[.int .i64 t2, .int .i64 l2]) w := fun _ => by kernel_rfl
 have q1 := ta_bw (.agg #[.int .i64 t1, .int .i64 l1])
 have q2 := ta_bb (.agg #[.int .i64 t1, .int .i64 l1])
 have HM := Aside0.mk (Hd.nil w)
 go_enter Try.func52, Try.ntmps52
 go_wp2_with (first
  | ((with_reducible refine gate_dst (N := 4) rfl ?_); refine bx_ 4 (cs := #[.int .i64 0, .int .i64 0]) (t := 39) ?_; intro g4 e_ w_ b_ hb; replace HM := Aside0.mk (HM.out.box hb b_ e_); clear e_ b_ hb; have kr0 := blk_cell HM.out.a0 0; have kr1 := blk_cell HM.out.a0 1; have krf0 := blk_frozen HM.out.a0 0; have krf1 := blk_frozen HM.out.a0 1)
  | ((with_reducible refine gate_dst (N := 9) rfl ?_); refine bx_ 9 (cs := #[.int .i64 0, .int .i64 0]) (t := 105) ?_; intro g9 e_ w_ b_ hb; replace HM := Aside0.mk (HM.out.box hb b_ e_); clear e_ b_ hb; (try clear kr0 kr1 krf0 krf1); have kr0 := blk_cell HM.out.a1 0; have kr1 := blk_cell HM.out.a1 1; have krf0 := blk_frozen HM.out.a1 0; have krf1 := blk_frozen HM.out.a1 1; have kb0 := blk_cell HM.out.a0 0; have kb1 := blk_cell HM.out.a0 1; have kbf0 := blk_frozen HM.out.a0 0; have kbf1 := blk_frozen HM.out.a0 1; have n1 := HM.out.ne.1; have n2 := HM.out.ne.2; simp only [] at n1 n2)
  | (go_at_call 108; (with_reducible refine (brokenParts t2 l2 _).mono ?_); rintro e w_ ⟨rfl, hb⟩; replace HM := Aside0.mk ((HM.out.put2 (.int .i64 t1) (.int .i64 l1)).keep hb); clear hb; (try clear kr0 krf0 kr1 krf1 kb0 kbf0 kb1 kbf1); have kr0 := blk_cell HM.out.a1 0; have kr1 := blk_cell HM.out.a1 1; have krf0 := blk_frozen HM.out.a1 0; have krf1 := blk_frozen HM.out.a1 1; have kb0 := blk_cell HM.out.a0 0; have kb1 := blk_cell HM.out.a0 1; have kbf0 := blk_frozen HM.out.a0 0; have kbf1 := blk_frozen HM.out.a0 1)
  | (go_at_call 48; (with_reducible refine (impl_QuoOf.calls k (wrap64 (wrap64 (t1 * l2) + wrap64 (t2 * l1))) (wrap64 (l1 * l2)) r1 r2 r3 _ HQ.out).mono ?_); rintro e w_ ⟨rfl, hb⟩; replace HM := Aside0.mk (HM.out.keep hb); clear hb; (try clear kr0 krf0 kr1 krf1 kb0 kbf0 kb1 kbf1); have kr0 := blk_cell HM.out.a1 0; have kr1 := blk_cell HM.out.a1 1; have krf0 := blk_frozen HM.out.a1 0; have krf1 := blk_frozen HM.out.a1 1; have kb0 := blk_cell HM.out.a0 0; have kb1 := blk_cell HM.out.a0 1; have kbf0 := blk_frozen HM.out.a0 0; have kbf1 := blk_frozen HM.out.a0 1))
 have HZ := HM.out.put2_1 (.int .i64 r1) (.int .i64 r2)
 exact bodyPost_ret (results_ct rfl _ _ g4 39 #[.int .i64 r1, .int .i64 r2] (0, 0) _ rfl HZ.a1 Try.underlying39 rfl (by kernel_rfl)) rfl ⟨rfl, HZ.1⟩
set_option maxHeartbeats 4000000 in
set_option maxRecDepth 100000 in
theorem qadd_nn (k : Nat) (a0_0 : Int) (a0_1 : Int) (a1_0 : Int) (a1_1 : Int) (h1 : impl_QuoValid.f k a0_0 a0_1 = some false) (h2 : impl_QuoValid.f k a1_0 a1_1 = some false) (w : World) : Calls Try.prog 20 #[.agg #[.int .i64 a0_0, .int .i64 a0_1], .agg #[.int .i64 a1_0, .int .i64 a1_1]] w fun e w' => e = .returned (.tuple #[.agg #[.int .i64 0, .int .i64 0], .bool false]) ∧ Below w.heap.size w w' := by
 have H1 := Aside0.mk h1
 have H2 := Aside0.mk h2
 clear h1 h2
 have HM := Aside0.mk (Hd.nil w)
 go_enter Try.func20, Try.ntmps20
 go_upto_region 1 with (first
  | ((with_reducible refine gate_dst (N := 2) rfl ?_); refine bx_ 2 (cs := #[.int .i64 a0_0, .int .i64 a0_1]) (t := 39) ?_; intro g2 e_ w_ b_ hb; replace HM := Aside0.mk (HM.out.box hb b_ e_); clear e_ b_ hb)
  | ((with_reducible refine gate_dst (N := 3) rfl ?_); refine bx_ 3 (cs := #[.int .i64 a1_0, .int .i64 a1_1]) (t := 39) ?_; intro g3 e_ w_ b_ hb; replace HM := Aside0.mk (HM.out.box hb b_ e_); clear e_ b_ hb))
 replace HM := Aside0.mk (HM.out.alloc #[.int .i64 0, .int .i64 0] 39)
 (try simp only [Act.put, List.setIfInBounds_toArray, List.set_cons_zero, List.set_cons_succ])
 generalize w_.alloc (.cells #[.int .i64 0, .int .i64 0] 39) = w4 at *
 generalize w_.heap.size = g4 at *
 have ka0 := blk_cell HM.out.a2 0
 have ka1 := blk_cell HM.out.a2 1
 have kb0 := blk_cell HM.out.a1 0
 have kb1 := blk_cell HM.out.a1 1
 have kr0 := blk_cell HM.out.a0 0
 have kr1 := blk_cell HM.out.a0 1
 have krf0 := blk_frozen HM.out.a0 0
 have krf1 := blk_frozen HM.out.a0 1
 go_wp2_with (first
  | (go_at_call 51; (with_reducible refine (qof_no k a0_0 a0_1 H1.out _).mono ?_); rintro e w_ ⟨rfl, hb⟩; replace HM := Aside0.mk (HM.out.keep hb); clear hb; (try clear ka0 ka1 kb0 kb1 kr0 krf0 kr1 krf1); have ka0 := blk_cell HM.out.a2 0; have ka1 := blk_cell HM.out.a2 1; have kb0 := blk_cell HM.out.a1 0; have kb1 := blk_cell HM.out.a1 1; have kr0 := blk_cell HM.out.a0 0; have kr1 := blk_cell HM.out.a0 1; have krf0 := blk_frozen HM.out.a0 0; have krf1 := blk_frozen HM.out.a0 1)
  | (go_at_call 51; (with_reducible refine (qof_no k a1_0 a1_1 H2.out _).mono ?_); rintro e w_ ⟨rfl, hb⟩; replace HM := Aside0.mk (HM.out.keep hb); clear hb; (try clear ka0 ka1 kb0 kb1 kr0 krf0 kr1 krf1); have ka0 := blk_cell HM.out.a2 0; have ka1 := blk_cell HM.out.a2 1; have kb0 := blk_cell HM.out.a1 0; have kb1 := blk_cell HM.out.a1 1; have kr0 := blk_cell HM.out.a0 0; have kr1 := blk_cell HM.out.a0 1; have krf0 := blk_frozen HM.out.a0 0; have krf1 := blk_frozen HM.out.a0 1))
 have HZ := HM.out.put2 (.int .i64 0) (.int .i64 0)
 exact bodyPost_ret (results_ct rfl _ _ g4 39 #[.int .i64 0, .int .i64 0] (0, 0) _ rfl HZ.a0 Try.underlying39 rfl (by kernel_rfl)) rfl ⟨rfl, HZ.1⟩
set_option maxHeartbeats 4000000 in
set_option maxRecDepth 100000 in
theorem qadd_ny (k : Nat) (a0_0 : Int) (a0_1 : Int) (a1_0 : Int) (a1_1 : Int) (h1 : impl_QuoValid.f k a0_0 a0_1 = some false) (h2 : impl_QuoValid.f k a1_0 a1_1 = some true) (w : World) : Calls Try.prog 20 #[.agg #[.int .i64 a0_0, .int .i64 a0_1], .agg #[.int .i64 a1_0, .int .i64 a1_1]] w fun e w' => e = .returned (.tuple #[.agg #[.int .i64 0, .int .i64 0], .bool false]) ∧ Below w.heap.size w w' := by
 have H1 := Aside0.mk h1
 have H2 := Aside0.mk h2
 clear h1 h2
 have HM := Aside0.mk (Hd.nil w)
 go_enter Try.func20, Try.ntmps20
 go_upto_region 1 with (first
  | ((with_reducible refine gate_dst (N := 2) rfl ?_); refine bx_ 2 (cs := #[.int .i64 a0_0, .int .i64 a0_1]) (t := 39) ?_; intro g2 e_ w_ b_ hb; replace HM := Aside0.mk (HM.out.box hb b_ e_); clear e_ b_ hb)
  | ((with_reducible refine gate_dst (N := 3) rfl ?_); refine bx_ 3 (cs := #[.int .i64 a1_0, .int .i64 a1_1]) (t := 39) ?_; intro g3 e_ w_ b_ hb; replace HM := Aside0.mk (HM.out.box hb b_ e_); clear e_ b_ hb))
 replace HM := Aside0.mk (HM.out.alloc #[.int .i64 0, .int .i64 0] 39)
 (try simp only [Act.put, List.setIfInBounds_toArray, List.set_cons_zero, List.set_cons_succ])
 generalize w_.alloc (.cells #[.int .i64 0, .int .i64 0] 39) = w4 at *
 generalize w_.heap.size = g4 at *
 have ka0 := blk_cell HM.out.a2 0
 have ka1 := blk_cell HM.out.a2 1
 have kb0 := blk_cell HM.out.a1 0
 have kb1 := blk_cell HM.out.a1 1
 have kr0 := blk_cell HM.out.a0 0
 have kr1 := blk_cell HM.out.a0 1
 have krf0 := blk_frozen HM.out.a0 0
 have krf1 := blk_frozen HM.out.a0 1
 go_wp2_with (first
  | (go_at_call 51; (with_reducible refine (qof_no k a0_0 a0_1 H1.out _).mono ?_); rintro e w_ ⟨rfl, hb⟩; replace HM := Aside0.mk (HM.out.keep hb); clear hb; (try clear ka0 ka1 kb0 kb1 kr0 krf0 kr1 krf1); have ka0 := blk_cell HM.out.a2 0; have ka1 := blk_cell HM.out.a2 1; have kb0 := blk_cell HM.out.a1 0; have kb1 := blk_cell HM.out.a1 1; have kr0 := blk_cell HM.out.a0 0; have kr1 := blk_cell HM.out.a0 1; have krf0 := blk_frozen HM.out.a0 0; have krf1 := blk_frozen HM.out.a0 1)
  | (go_at_call 51; (with_reducible refine (qof_yes k a1_0 a1_1 H2.out _).mono ?_); rintro e w_ ⟨rfl, hb⟩; replace HM := Aside0.mk (HM.out.keep hb); clear hb; (try clear ka0 ka1 kb0 kb1 kr0 krf0 kr1 krf1); have ka0 := blk_cell HM.out.a2 0; have ka1 := blk_cell HM.out.a2 1; have kb0 := blk_cell HM.out.a1 0; have kb1 := blk_cell HM.out.a1 1; have kr0 := blk_cell HM.out.a0 0; have kr1 := blk_cell HM.out.a0 1; have krf0 := blk_frozen HM.out.a0 0; have krf1 := blk_frozen HM.out.a0 1))
 have HZ := HM.out.put2 (.int .i64 0) (.int .i64 0)
 exact bodyPost_ret (results_ct rfl _ _ g4 39 #[.int .i64 0, .int .i64 0] (0, 0) _ rfl HZ.a0 Try.underlying39 rfl (by kernel_rfl)) rfl ⟨rfl, HZ.1⟩
set_option maxHeartbeats 4000000 in
set_option maxRecDepth 100000 in
theorem qadd_yn (k : Nat) (a0_0 : Int) (a0_1 : Int) (a1_0 : Int) (a1_1 : Int) (h1 : impl_QuoValid.f k a0_0 a0_1 = some true) (h2 : impl_QuoValid.f k a1_0 a1_1 = some false) (w : World) : Calls Try.prog 20 #[.agg #[.int .i64 a0_0, .int .i64 a0_1], .agg #[.int .i64 a1_0, .int .i64 a1_1]] w fun e w' => e = .returned (.tuple #[.agg #[.int .i64 0, .int .i64 0], .bool false]) ∧ Below w.heap.size w w' := by
 have H1 := Aside0.mk h1
 have H2 := Aside0.mk h2
 clear h1 h2
 have HM := Aside0.mk (Hd.nil w)
 go_enter Try.func20, Try.ntmps20
 go_upto_region 1 with (first
  | ((with_reducible refine gate_dst (N := 2) rfl ?_); refine bx_ 2 (cs := #[.int .i64 a0_0, .int .i64 a0_1]) (t := 39) ?_; intro g2 e_ w_ b_ hb; replace HM := Aside0.mk (HM.out.box hb b_ e_); clear e_ b_ hb)
  | ((with_reducible refine gate_dst (N := 3) rfl ?_); refine bx_ 3 (cs := #[.int .i64 a1_0, .int .i64 a1_1]) (t := 39) ?_; intro g3 e_ w_ b_ hb; replace HM := Aside0.mk (HM.out.box hb b_ e_); clear e_ b_ hb))
 replace HM := Aside0.mk (HM.out.alloc #[.int .i64 0, .int .i64 0] 39)
 (try simp only [Act.put, List.setIfInBounds_toArray, List.set_cons_zero, List.set_cons_succ])
 generalize w_.alloc (.cells #[.int .i64 0, .int .i64 0] 39) = w4 at *
 generalize w_.heap.size = g4 at *
 have ka0 := blk_cell HM.out.a2 0
 have ka1 := blk_cell HM.out.a2 1
 have kb0 := blk_cell HM.out.a1 0
 have kb1 := blk_cell HM.out.a1 1
 have kr0 := blk_cell HM.out.a0 0
 have kr1 := blk_cell HM.out.a0 1
 have krf0 := blk_frozen HM.out.a0 0
 have krf1 := blk_frozen HM.out.a0 1
 go_wp2_with (first
  | (go_at_call 51; (with_reducible refine (qof_yes k a0_0 a0_1 H1.out _).mono ?_); rintro e w_ ⟨rfl, hb⟩; replace HM := Aside0.mk (HM.out.keep hb); clear hb; (try clear ka0 ka1 kb0 kb1 kr0 krf0 kr1 krf1); have ka0 := blk_cell HM.out.a2 0; have ka1 := blk_cell HM.out.a2 1; have kb0 := blk_cell HM.out.a1 0; have kb1 := blk_cell HM.out.a1 1; have kr0 := blk_cell HM.out.a0 0; have kr1 := blk_cell HM.out.a0 1; have krf0 := blk_frozen HM.out.a0 0; have krf1 := blk_frozen HM.out.a0 1)
  | (go_at_call 51; (with_reducible refine (qof_no k a1_0 a1_1 H2.out _).mono ?_); rintro e w_ ⟨rfl, hb⟩; replace HM := Aside0.mk (HM.out.keep hb); clear hb; (try clear ka0 ka1 kb0 kb1 kr0 krf0 kr1 krf1); have ka0 := blk_cell HM.out.a2 0; have ka1 := blk_cell HM.out.a2 1; have kb0 := blk_cell HM.out.a1 0; have kb1 := blk_cell HM.out.a1 1; have kr0 := blk_cell HM.out.a0 0; have kr1 := blk_cell HM.out.a0 1; have krf0 := blk_frozen HM.out.a0 0; have krf1 := blk_frozen HM.out.a0 1))
 have HZ := HM.out.put2 (.int .i64 0) (.int .i64 0)
 exact bodyPost_ret (results_ct rfl _ _ g4 39 #[.int .i64 0, .int .i64 0] (0, 0) _ rfl HZ.a0 Try.underlying39 rfl (by kernel_rfl)) rfl ⟨rfl, HZ.1⟩
set_option maxHeartbeats 4000000 in
set_option maxRecDepth 100000 in
theorem qadd_yy (k : Nat) (a0_0 : Int) (a0_1 : Int) (a1_0 : Int) (a1_1 : Int) (h1 : impl_QuoValid.f k a0_0 a0_1 = some true) (h2 : impl_QuoValid.f k a1_0 a1_1 = some true) (r1 r2 : Int) (r3 : Bool) (hs : ∀ w, Calls Try.prog 52 #[qv a0_0 a0_1, qv a1_0 a1_1] w fun e w' => e = .returned (.tuple #[.agg #[.int .i64 r1, .int .i64 r2], .bool r3]) ∧ Below w.heap.size w w') (w : World) : Calls Try.prog 20 #[.agg #[.int .i64 a0_0, .int .i64 a0_1], .agg #[.int .i64 a1_0, .int .i64 a1_1]] w fun e w' => e = .returned (.tuple #[.agg #[.int .i64 r1, .int .i64 r2], .bool r3]) ∧ Below w.heap.size w w' := by
 have H1 := Aside0.mk h1
 have H2 := Aside0.mk h2
 have HS := Aside0.mk hs
 clear h1 h2 hs
 have HM := Aside0.mk (Hd.nil w)
 go_enter Try.func20, Try.ntmps20
 go_upto_region 1 with (first
  | ((with_reducible refine gate_dst (N := 2) rfl ?_); refine bx_ 2 (cs := #[.int .i64 a0_0, .int .i64 a0_1]) (t := 39) ?_; intro g2 e_ w_ b_ hb; replace HM := Aside0.mk (HM.out.box hb b_ e_); clear e_ b_ hb)
  | ((with_reducible refine gate_dst (N := 3) rfl ?_); refine bx_ 3 (cs := #[.int .i64 a1_0, .int .i64 a1_1]) (t := 39) ?_; intro g3 e_ w_ b_ hb; replace HM := Aside0.mk (HM.out.box hb b_ e_); clear e_ b_ hb))
 replace HM := Aside0.mk (HM.out.alloc #[.int .i64 0, .int .i64 0] 39)
 (try simp only [Act.put, List.setIfInBounds_toArray, List.set_cons_zero, List.set_cons_succ])
 generalize w_.alloc (.cells #[.int .i64 0, .int .i64 0] 39) = w4 at *
 generalize w_.heap.size = g4 at *
 have ka0 := blk_cell HM.out.a2 0
 have ka1 := blk_cell HM.out.a2 1
 have kb0 := blk_cell HM.out.a1 0
 have kb1 := blk_cell HM.out.a1 1
 have kr0 := blk_cell HM.out.a0 0
 have kr1 := blk_cell HM.out.a0 1
 have krf0 := blk_frozen HM.out.a0 0
 have krf1 := blk_frozen HM.out.a0 1
 go_wp2_with (first
  | (go_at_call 51; (with_reducible refine (qof_yes k a0_0 a0_1 H1.out _).mono ?_); rintro e w_ ⟨rfl, hb⟩; replace HM := Aside0.mk (HM.out.keep hb); clear hb; (try clear ka0 ka1 kb0 kb1 kr0 krf0 kr1 krf1); have ka0 := blk_cell HM.out.a2 0; have ka1 := blk_cell HM.out.a2 1; have kb0 := blk_cell HM.out.a1 0; have kb1 := blk_cell HM.out.a1 1; have kr0 := blk_cell HM.out.a0 0; have kr1 := blk_cell HM.out.a0 1; have krf0 := blk_frozen HM.out.a0 0; have krf1 := blk_frozen HM.out.a0 1)
  | (go_at_call 51; (with_reducible refine (qof_yes k a1_0 a1_1 H2.out _).mono ?_); rintro e w_ ⟨rfl, hb⟩; replace HM := Aside0.mk (HM.out.keep hb); clear hb; (try clear ka0 ka1 kb0 kb1 kr0 krf0 kr1 krf1); have ka0 := blk_cell HM.out.a2 0; have ka1 := blk_cell HM.out.a2 1; have kb0 := blk_cell HM.out.a1 0; have kb1 := blk_cell HM.out.a1 1; have kr0 := blk_cell HM.out.a0 0; have kr1 := blk_cell HM.out.a0 1; have krf0 := blk_frozen HM.out.a0 0; have krf1 := blk_frozen HM.out.a0 1)
  | (go_at_call 52; (with_reducible refine (HS.out _).mono ?_); rintro e w_ ⟨rfl, hb⟩; replace HM := Aside0.mk (HM.out.keep hb); clear hb; (try clear ka0 ka1 kb0 kb1 kr0 krf0 kr1 krf1); have ka0 := blk_cell HM.out.a2 0; have ka1 := blk_cell HM.out.a2 1; have kb0 := blk_cell HM.out.a1 0; have kb1 := blk_cell HM.out.a1 1; have kr0 := blk_cell HM.out.a0 0; have kr1 := blk_cell HM.out.a0 1; have krf0 := blk_frozen HM.out.a0 0; have krf1 := blk_frozen HM.out.a0 1))
 have HZ := HM.out.put2 (.int .i64 r1) (.int .i64 r2)
 exact bodyPost_ret (results_ct rfl _ _ g4 39 #[.int .i64 r1, .int .i64 r2] (0, 0) _ rfl HZ.a0 Try.underlying39 rfl (by kernel_rfl)) rfl ⟨rfl, HZ.1⟩
def qsF (k : Nat) (t1 l1 t2 l2 : Int) : Option (Int × Int × Bool) := if l1 = 1 then impl_QuoOf.f k (wrap64 (wrap64 (t1 * l2) + t2)) l2 else impl_QuoOf.f k (wrap64 (wrap64 (t1 * l2) + wrap64 (t2 * l1))) (wrap64 (l1 * l2))
theorem qs_calls (k : Nat) (t1 l1 t2 l2 r1 r2 : Int) (r3 : Bool) (h : qsF k t1 l1 t2 l2 = some (r1, r2, r3)) (w : World) : Calls Try.prog 52 #[qv t1 l1, qv t2 l2] w fun e w' => e = .returned (.tuple #[.agg #[.int .i64 r1, .int .i64 r2], .bool r3]) ∧ Below w.heap.size w w' := by
 unfold qsF at h
 unfold qv
 by_cases h1 : l1 = 1
 ·rw [if_pos h1] at h ⊢
  by_cases h2 : l2 = 1
  ·rw [if_pos h2]
   rw [h2, Int.mul_one] at h
   exact sum_ww k t1 t2 r1 r2 r3 h w
  ·rw [if_neg h2]
   exact sum_wb k t1 t2 l2 r1 r2 r3 h w
 ·rw [if_neg h1] at h ⊢
  by_cases h2 : l2 = 1
  ·rw [if_pos h2]
   rw [h2, Int.mul_one, Int.mul_one] at h
   exact sum_bw k t1 l1 t2 r1 r2 r3 h w
  ·rw [if_neg h2]
   exact sum_bb k t1 l1 t2 l2 r1 r2 r3 h w
def impl_QuoAdd.f (k : Nat) (a0_0 : Int) (a0_1 : Int) (a1_0 : Int) (a1_1 : Int) : Option (Int × Int × Bool) := (impl_QuoValid.f k a0_0 a0_1).bind fun p => ((impl_QuoValid.f k a1_0 a1_1).bind fun q => (if p = true then (if q = true then qsF k a0_0 a0_1 a1_0 a1_1 else some (0, 0, false)) else some (0, 0, false)))
theorem impl_QuoAdd.mono : ∀ a0_0 a0_1 a1_0 a1_1 k, LeO (impl_QuoAdd.f k a0_0 a0_1 a1_0 a1_1) (impl_QuoAdd.f (k + 1) a0_0 a0_1 a1_0 a1_1) := by
 intro a0_0 a0_1 a1_0 a1_1 k
 unfold impl_QuoAdd.f qsF
 exact LeO.bind (impl_QuoValid.mono _ _ _) (fun _ => LeO.bind (impl_QuoValid.mono _ _ _) (fun _ => LeO.ite (LeO.ite (LeO.ite (impl_QuoOf.mono _ _ _) (impl_QuoOf.mono _ _ _)) (LeO.refl _)) (LeO.refl _)))
theorem impl_QuoAdd.calls (k : Nat) (a0_0 : Int) (a0_1 : Int) (a1_0 : Int) (a1_1 : Int) (r1 : Int) (r2 : Int) (r3 : Bool) (w : World) (h : impl_QuoAdd.f k a0_0 a0_1 a1_0 a1_1 = some (r1, r2, r3)) :
  Calls Try.prog 20 #[.agg #[.int .i64 a0_0, .int .i64 a0_1], .agg #[.int .i64 a1_0, .int .i64 a1_1]] w fun e w' => e = .returned (.tuple #[.agg #[.int .i64 r1, .int .i64 r2], .bool r3]) ∧ Below w.heap.size w w' := by
 unfold impl_QuoAdd.f at h
 obtain ⟨p, hp, h⟩ := Option.bind_eq_some_iff.1 h
 obtain ⟨q, hq, h⟩ := Option.bind_eq_some_iff.1 h
 cases p with
 | false =>
  rw [if_neg (by simp)] at h
  simp only [Option.some.injEq, Prod.mk.injEq] at h
  obtain ⟨rfl, rfl, rfl⟩ := h
  cases q with
  | false => exact qadd_nn k _ _ _ _ hp hq w
  | true => exact qadd_ny k _ _ _ _ hp hq w
 | true =>
  rw [if_pos rfl] at h
  cases q with
  | false =>
   rw [if_neg (by simp)] at h
   simp only [Option.some.injEq, Prod.mk.injEq] at h
   obtain ⟨rfl, rfl, rfl⟩ := h
   exact qadd_yn k _ _ _ _ hp hq w
  | true =>
   rw [if_pos rfl] at h
   exact qadd_yy k _ _ _ _ hp hq _ _ _ (fun w => qs_calls k _ _ _ _ _ _ _ h w) w
def laws_whole.f (a0 : Int) : Option (Int × Int) := some (a0, 1)
set_option maxHeartbeats 8000000 in
set_option maxRecDepth 100000 in
theorem laws_whole.calls (a0 : Int) (r1 : Int) (r2 : Int) (w : World) (h : laws_whole.f a0 = some (r1, r2)) :
  Calls Try.prog 21 #[.int .i64 a0] w fun e w' => e = .returned (.agg #[.int .i64 r1, .int .i64 r2]) ∧ Below w.heap.size w w' := by
 have hu39 := Try.underlying39
 have HB := Aside0.mk (Below.refl w.heap.size w)
 have H : (some (a0, 1)) = some (r1, r2) := h
 clear h
 simp only [Option.some.injEq, Prod.mk.injEq] at H
 obtain ⟨rfl, rfl⟩ := H
 go_enter Try.func21, Try.ntmps21
 go_wp2_with (first | ((with_reducible refine gate_dst (N := 2) rfl ?_); refine bx_ 2 (cs := #[.int .i64 0, .int .i64 0]) (t := 39) ?_; intro gb470 hg w2 hbox hb; have n0_ := Aside0.mk (below_step (lb HB.out) hb); have n1_ := Aside0.mk (hbox); have n2_ := Aside0.mk ((by rw [hg]; exact (below_size (lb HB.out)) : w.heap.size ≤ gb470)); have n3_ := Aside0.mk ((by rw [hg]; exact (below_size (lb HB.out)) : w.heap.size ≤ gb470)); clear HB; have HB := n0_; have BK470 := n1_; have GW470 := n2_; have GE470 := n3_; clear n0_ n1_ n2_ n3_; clear hb hbox hg; have hcz3_0 : w2.cell? ⟨gb470, 0, none⟩ = some (.int .i64 0) := (blk_cell BK470.out 0).trans rfl; have hcz3_1 : w2.cell? ⟨gb470, 1, none⟩ = some (.int .i64 0) := (blk_cell BK470.out 1).trans rfl; have hfz3_0 := blk_frozen BK470.out 0; have hfz3_1 := blk_frozen BK470.out 1))
 refine bodyPost_ret (results_cell_row rfl _ _ gb470 39 #[.int .i64 a0, .int .i64 1] (0, 0) _ rfl (bp BK470.out) Try.underlying39 rfl (by kernel_rfl)) rfl ?_
 exact ⟨er, lb HB.out⟩
end Go.Proofs.Ytfonigbkoligmaa.P
-- squeezed

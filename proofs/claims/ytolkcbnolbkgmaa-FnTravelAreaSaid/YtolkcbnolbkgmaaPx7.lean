import Derived.Test.YtolkcbnolbkgmaaPx0
import Derived.Test.YtolkcbnolbkgmaaPx1
import Derived.Test.YtolkcbnolbkgmaaPx4
namespace Go.Proofs.Ytolkcbnolbkgmaa.P
open Go.RowKit Go.Proofs.YtolkcbnolbkgmaaW.PrintWords Go.Proofs.YtolkcbnolbkgmaaW.PrintLast Go.Proofs.YtolkcbnolbkgmaaW.PrintMore
attribute [local go_sem] max2_int min2_int max_two min_two max_three min_three max_four min_four
set_option linter.unusedVariables false
set_option linter.unusedSimpArgs false
attribute [local go_sem high] eqA34
def laws_samePoints.l0 : Nat → List (S34) → List (S34) → Int → Option (Bool)
 | 0, _, _, _ => none
 | k + 1, x0, x1, x5 => if x5 < (x0.length : Int) then (if 0 ≤ x5 then (if x5 < (x1.length : Int) then (if (!(((rd_T34 x0 x5).f0) == ((rd_T34 x1 x5).f0)) || (!(((rd_T34 x0 x5).f1) == ((rd_T34 x1 x5).f1)))) = true then (some false) else (laws_samePoints.l0 k x0 x1 (wrap64 (x5 + 1)))) else (none)) else (none)) else (some true)
def laws_samePoints.f (k : Nat) (l0 : List (S34)) (l1 : List (S34)) : Option (Bool) := if (l0.length : Int) = (l1.length : Int) then (laws_samePoints.l0 k l0 l1 0) else (some false)
theorem laws_samePoints.mono_l : ∀ k, (∀ y0 y1 y2, LeO (laws_samePoints.l0 k y0 y1 y2) (laws_samePoints.l0 (k + 1) y0 y1 y2))
 | 0 => fun _ _ _ r h => by simp [laws_samePoints.l0] at h
 | k + 1 => by
  have ih0 := laws_samePoints.mono_l k
  ·intro y0 y1 y2
   unfold laws_samePoints.l0
   repeat' first
   | (with_reducible exact ih0 _ _ _)
   | (with_reducible exact LeO.refl _)
   | (with_reducible exact LeO.none _)
   | (with_reducible refine LeO.ite ?_ ?_)
   | (with_reducible refine LeO.bind ?_ (fun _ => ?_))
   | exact ih0 _ _ _
   | exact LeO.none _
   | refine LeO.ite ?_ ?_
   | refine LeO.bind ?_ (fun _ => ?_)
theorem laws_samePoints.mono : ∀ a0 a1 k, LeO (laws_samePoints.f k a0 a1) (laws_samePoints.f (k + 1) a0 a1) := by
 intro a0 a1 k
 have ih0 := laws_samePoints.mono_l k
 unfold laws_samePoints.f
 repeat' first
   | (with_reducible exact ih0 _ _ _)
   | (with_reducible exact LeO.refl _)
   | (with_reducible exact LeO.none _)
   | (with_reducible refine LeO.ite ?_ ?_)
   | (with_reducible refine LeO.bind ?_ (fun _ => ?_))
   | exact ih0 _ _ _
   | exact LeO.none _
   | refine LeO.ite ?_ ?_
   | refine LeO.bind ?_ (fun _ => ?_)
set_option maxHeartbeats 8000000 in
set_option maxRecDepth 100000 in
theorem laws_samePoints.calls (k : Nat) (A0 : Option Addr) (c0 : Nat) (l0 : List (S34)) (A1 : Option Addr) (c1 : Nat) (l1 : List (S34)) (r : Bool) (w : World) (hr0 : Kd.C k34 w A0 l0.length l0) (hc0 : l0.length ≤ c0) (hr1 : Kd.C k34 w A1 l1.length l1) (hc1 : l1.length ≤ c1) (h : laws_samePoints.f k l0 l1 = some r) :
  Calls Try.prog 14 #[.slice A0 l0.length c0, .slice A1 l1.length c1] w fun e w' => e = .returned (.bool r) ∧ Drawn0 w w' := by
 have hu34 := Try.underlying34
 have HR0 := Aside0.mk hr0
 have HC0 := Aside0.mk hc0
 clear hr0 hc0
 have HR1 := Aside0.mk hr1
 have HC1 := Aside0.mk hc1
 clear hr1 hc1
 have H : (if (l0.length : Int) = (l1.length : Int) then (laws_samePoints.l0 k l0 l1 0) else (some false)) = some r := h
 clear h
 by_cases c3 : (l0.length : Int) = (l1.length : Int)
 ·rw [if_pos c3] at H
  have c3b0 : ((l0.length : Int) == (l1.length : Int)) = true := beq_iff_eq.mpr c3
  have c3b1 : ((l0.length : Int) != (l1.length : Int)) = false := bne_eq_false_iff_eq.mpr c3
  have c3b2 : (l0.length == l1.length) = true := by first | simpa using c3 | (simp at c3 ⊢; omega)
  clear c3
  have H' := Aside0.mk H
  clear H
  go_enter Try.func14, Try.ntmps14
  go_wp2
  repeat (go_quiet (fail); try go_wp2)
  go_loopg [5] k (fun kq v5 w' => ∃ (x5_1 : Int), v5 = .int .i64 x5_1 ∧ Aside0 (laws_samePoints.l0 kq l0 l1 x5_1 = some r) ∧ Aside0 (kq ≤ k) ∧ Drawn0 w w')
  case atStart => exact ⟨(0), (by first | rfl | (simp; done) | (simp [*]; done)), H', ⟨Nat.le_refl _⟩, by repeat (first | exact Drawn0.refl _ | apply Drawn0.step)⟩
  case round =>
   clear H'
   try clear c1
   try clear p2
   try clear c3
   try clear c3b0
   try clear c3b1
   try clear c3b2
   obtain ⟨x5_1, rfl, HA, HK1, ⟨m1, rfl⟩⟩ := hrel
   cases gk with
   | zero => exact absurd HA.out (by simp [laws_samePoints.l0])
   | succ k1 =>
    have H := HA.out
    clear HA
    simp only [laws_samePoints.l0] at H
    by_cases c4 : x5_1 < (l0.length : Int)
    ·rw [if_pos c4] at H
     have c4b0 : decide (x5_1 < (l0.length : Int)) = true := decide_eq_true c4
     clear c4
     by_cases c5 : 0 ≤ x5_1
     ·rw [if_pos c5] at H
      have c5b0 : decide (0 ≤ x5_1) = true := decide_eq_true c5
      clear c5
      by_cases c6 : x5_1 < (l1.length : Int)
      ·rw [if_pos c6] at H
       have c6b0 : decide (x5_1 < (l1.length : Int)) = true := decide_eq_true c6
       clear c6
       by_cases c7 : (!(((rd_T34 l0 x5_1).f0) == ((rd_T34 l1 x5_1).f0)) || (!(((rd_T34 l0 x5_1).f1) == ((rd_T34 l1 x5_1).f1)))) = true
       ·rw [if_pos c7] at H
        have c7b0 : (!(((rd_T34 l0 x5_1).f0) == ((rd_T34 l1 x5_1).f0)) || (!(((rd_T34 l0 x5_1).f1) == ((rd_T34 l1 x5_1).f1)))) = true := c7
        clear c7
        obtain rfl := Option.some.inj H
        have p288 : 0 ≤ (x5_1 : Int) := of_decide_eq_true (by first | (with_reducible assumption) | assumption)
        have q288 : x5_1 < (l0.length : Int) := of_decide_eq_true (by first | (with_reducible assumption) | assumption)
        obtain ⟨ad288, e288, hx288_0, hx288_1⟩ := at_T34 HR0.out x5_1 p288 q288
        cases e288
        replace p288 := eq_true p288
        replace q288 := eq_true q288
        have p289 : 0 ≤ (x5_1 : Int) := of_decide_eq_true (by first | (with_reducible assumption) | assumption)
        have q289 : x5_1 < (l1.length : Int) := of_decide_eq_true (by first | (with_reducible assumption) | assumption)
        obtain ⟨ad289, e289, hx289_0, hx289_1⟩ := at_T34 HR1.out x5_1 p289 q289
        cases e289
        replace p289 := eq_true p289
        replace q289 := eq_true q289
        go_wp2
        repeat (go_quiet (fail); try go_wp2)
        go_ret
        exact ⟨by first | rfl | (simp; done) | (simp [*]; done), by repeat (first | exact Drawn0.refl _ | apply Drawn0.step)⟩
       ·rw [if_neg c7] at H
        have c7b0 : (!(((rd_T34 l0 x5_1).f0) == ((rd_T34 l1 x5_1).f0)) || (!(((rd_T34 l0 x5_1).f1) == ((rd_T34 l1 x5_1).f1)))) = false := by simpa using c7
        clear c7
        have H' := Aside0.mk H
        clear H
        have p288 : 0 ≤ (x5_1 : Int) := of_decide_eq_true (by first | (with_reducible assumption) | assumption)
        have q288 : x5_1 < (l0.length : Int) := of_decide_eq_true (by first | (with_reducible assumption) | assumption)
        obtain ⟨ad288, e288, hx288_0, hx288_1⟩ := at_T34 HR0.out x5_1 p288 q288
        cases e288
        replace p288 := eq_true p288
        replace q288 := eq_true q288
        have p289 : 0 ≤ (x5_1 : Int) := of_decide_eq_true (by first | (with_reducible assumption) | assumption)
        have q289 : x5_1 < (l1.length : Int) := of_decide_eq_true (by first | (with_reducible assumption) | assumption)
        obtain ⟨ad289, e289, hx289_0, hx289_1⟩ := at_T34 HR1.out x5_1 p289 q289
        cases e289
        replace p289 := eq_true p289
        replace q289 := eq_true q289
        go_wp2
        repeat (go_quiet (fail); try go_wp2)
        go_roundg k1
        case measure => have := HK1.out; omega
        case rel => exact ⟨(wrap64 (x5_1 + 1)), (by first | rfl | (simp; done) | (simp [*]; done)), H', ⟨by have := HK1.out; omega⟩, by repeat (first | exact Drawn0.refl _ | apply Drawn0.step)⟩
      ·rw [if_neg c6] at H
       exact absurd H (by simp)
     ·rw [if_neg c5] at H
      exact absurd H (by simp)
    ·rw [if_neg c4] at H
     have c4b0 : decide (x5_1 < (l0.length : Int)) = false := decide_eq_false c4
     clear c4
     obtain rfl := Option.some.inj H
     go_wp2
     repeat (go_quiet (fail); try go_wp2)
     go_ret
     exact ⟨by first | rfl | (simp; done) | (simp [*]; done), by repeat (first | exact Drawn0.refl _ | apply Drawn0.step)⟩
 ·rw [if_neg c3] at H
  have c3b0 : ((l0.length : Int) == (l1.length : Int)) = false := beq_eq_false_iff_ne.mpr c3
  have c3b1 : ((l0.length : Int) != (l1.length : Int)) = true := bne_iff_ne.mpr c3
  have c3b2 : (l0.length == l1.length) = false := by first | simpa using c3 | (simp at c3 ⊢; omega)
  obtain rfl := Option.some.inj H
  go_enter Try.func14, Try.ntmps14
  go_wp2
  repeat (go_quiet (fail); try go_wp2)
  go_ret
  exact ⟨by first | rfl | (simp; done) | (simp [*]; done), by repeat (first | exact Drawn0.refl _ | apply Drawn0.step)⟩
def impl_PointValid.f (a0_0 : Int) (a0_1 : Int) : Option (Bool) := some (inR a0_0 a0_1 10000)
theorem impl_PointValid.calls (a0_0 : Int) (a0_1 : Int) (r : Bool) (w : World) (h : impl_PointValid.f a0_0 a0_1 = some r) :
  Calls Try.prog 35 #[.agg #[.int .i64 a0_0, .int .i64 a0_1]] w fun e w' => e = .returned (.bool r) ∧ Below w.heap.size w w' := by
 have h := Option.some.inj h
 have h0 := PointValid_calls a0_0 a0_1 w
 rw [h] at h0
 exact h0
def mvP (x y a b : Int) : Int × Int × Bool := if inR x y 10000 = true ∧ inR a b 20000 = true ∧ inR (wrap64 (x + a)) (wrap64 (y + b)) 10000 = true then (wrap64 (x + a), wrap64 (y + b), true) else (0, 0, false)
set_option maxHeartbeats 4000000 in
theorem move_calls (x y a b : Int) (w : World) :
  Calls Try.prog 56 #[.agg #[.int .i64 x, .int .i64 y], .agg #[.int .i64 a, .int .i64 b]] w fun e w' => e = .returned (.tuple #[.agg #[.int .i64 (mvP x y a b).1, .int .i64 (mvP x y a b).2.1], .bool (mvP x y a b).2.2]) ∧ Below w.heap.size w w' := by
 have HM0 := Aside0.mk (Mv.new w x y a b)
 by_cases h1 : inR x y 10000 = true
 ·by_cases h2 : inR a b 20000 = true
  ·go_enter Try.func56, Try.ntmps56
   go_upto_region 3 with (first | (go_at_call 35; (with_reducible refine (PointValid_calls x y _).mono ?_); rintro e w1 ⟨rfl, hb⟩; rw [h1]; have HM1 := Aside0.mk (HM0.out.keep hb); clear hb; obtain ⟨k1, k2, k3, k4, k5, k6, k7, k8⟩ := HM1.out.cells) | (go_at_call 49; (with_reducible refine (stepValid_calls a b _).mono ?_); rintro e w2 ⟨rfl, hb⟩; rw [h2]; have HM2 := Aside0.mk (HM1.out.keep hb); clear hb k1 k2 k3 k4 k5 k6 k7 k8; obtain ⟨k1, k2, k3, k4, k5, k6, k7, k8⟩ := HM2.out.cells))
   (try simp only [Act.put, List.setIfInBounds_toArray, List.set_cons_zero, List.set_cons_succ])
   go_cut [6] (fun v6 wc => ∃ B : Nat, v6 = .pointer (some ⟨B, 0, none⟩) ∧ w.heap.size + 1 + 1 < B ∧ Aside0 (Mv w wc x y a b 0 0) ∧ Aside0 (wc.heap[B]? = some (.cells #[.int .i64 (wrap64 (x + a)), .int .i64 (wrap64 (y + b))] 34 (0, 0))))
   case first =>
    go_region_held3 (fun w' => w'.cell? ⟨w.heap.size, 0, none⟩ = some (.int .i64 x) ∧ w'.cell? ⟨w.heap.size, 1, none⟩ = some (.int .i64 y) ∧ w'.cell? ⟨w.heap.size + 1, 0, none⟩ = some (.int .i64 a) ∧ w'.cell? ⟨w.heap.size + 1, 1, none⟩ = some (.int .i64 b))
     (first
      | go_keep
      | exact ⟨k1, k2, k3, k4⟩
      | exact HM6.out.keepPut (lt_of_block HM5.out.2.2.2) _ _
      | exact HM6.out.keepPut (lt_of_block HM4.out.2.2.2) _ _
      | exact HM6.out.keepPut (lt_of_block HM3.out.2.2.2) _ _
      | exact HM6.out.keepPut (lt_of_block (HM2.out.keep (below_drew1 (Below.refl _ _))).2.2.2) _ _
      | exact HM6.out.keepPut (lt_of_block HM2.out.2.2.2) _ _
      | exact (HM6.out.keep (below_alloc (Below.refl _ _) _)).keepPut (lt_of_block HM6.out.2.2.2) _ _)
     (first
      | (go_at_call 53; (with_reducible refine (pairOf_calls x y _).mono ?_); rintro e w3 ⟨rfl, hb⟩; have HM3 : Aside0 (Mv w w3 x y a b 0 0) := ⟨(HM2.out.keep (below_drew1 (Below.refl _ _))).keep hb⟩; clear hb k1 k2 k3 k4 k5 k6 k7 k8; obtain ⟨k1, k2, k3, k4, k5, k6, k7, k8⟩ := HM3.out.cells)
      | (go_at_call 53; (with_reducible refine (pairOf_calls x y _).mono ?_); rintro e w3 ⟨rfl, hb⟩; have HN3 := Aside0.mk ((hb.block _ (by simp)).trans (heap_alloc_new _ (.cells #[.int .i64 0, .int .i64 0] 34))); have HM3 : Aside0 (Mv w w3 x y a b 0 0) := ⟨((HM2.out.keep (below_drew1 (Below.refl _ _))).keep (below_alloc (Below.refl _ _) _)).keep hb⟩; clear hb k1 k2 k3 k4 k5 k6 k7 k8; obtain ⟨k1, k2, k3, k4, k5, k6, k7, k8⟩ := HM3.out.cells; have k9 := blk_cell HN3.out 0; have k10 := blk_cell HN3.out 1; have f9 := blk_frozen HN3.out 0; have f10 := blk_frozen HN3.out 1)
      | (go_at_call 53; (with_reducible refine (pairOf_calls a b _).mono ?_); rintro e w4 ⟨rfl, hb⟩; have HN4 := Aside0.mk ((hb.block _ (lt_of_block HN3.out)).trans HN3.out); have HM4 := Aside0.mk (HM3.out.keep hb); clear k9 k10 f9 f10; clear hb k1 k2 k3 k4 k5 k6 k7 k8; obtain ⟨k1, k2, k3, k4, k5, k6, k7, k8⟩ := HM4.out.cells; have k9 := blk_cell HN4.out 0; have k10 := blk_cell HN4.out 1; have f9 := blk_frozen HN4.out 0; have f10 := blk_frozen HN4.out 1)
      | (go_at_call 53; (with_reducible refine (pairOf_calls a b _).mono ?_); rintro e w4 ⟨rfl, hb⟩; have HM4 : Aside0 (Mv w w4 x y a b 0 0) := ⟨HM3.out.keep hb⟩; clear hb k1 k2 k3 k4 k5 k6 k7 k8; obtain ⟨k1, k2, k3, k4, k5, k6, k7, k8⟩ := HM4.out.cells)
      | (go_at_call 53; (with_reducible refine (pairOf_calls a b _).mono ?_); rintro e w4 ⟨rfl, hb⟩; have HN4 := Aside0.mk ((hb.block _ (by simp)).trans (heap_alloc_new w3 (.cells #[.int .i64 0, .int .i64 0] 34))); have HM4 : Aside0 (Mv w w4 x y a b 0 0) := ⟨(HM3.out.keep (below_alloc (Below.refl _ _) _)).keep hb⟩; clear hb k1 k2 k3 k4 k5 k6 k7 k8; obtain ⟨k1, k2, k3, k4, k5, k6, k7, k8⟩ := HM4.out.cells; have k9 := blk_cell HN4.out 0; have k10 := blk_cell HN4.out 1; have f9 := blk_frozen HN4.out 0; have f10 := blk_frozen HN4.out 1)
      | (go_at_call 52; (with_reducible refine (pairPlus_calls x y a b _).mono ?_); rintro e w5 ⟨rfl, hb⟩; have HN5 := Aside0.mk ((hb.block _ (lt_of_block HN4.out)).trans HN4.out); have HM5 := Aside0.mk (HM4.out.keep hb); clear k9 k10 f9 f10; clear hb k1 k2 k3 k4 k5 k6 k7 k8; obtain ⟨k1, k2, k3, k4, k5, k6, k7, k8⟩ := HM5.out.cells; have k9 := blk_cell HN5.out 0; have k10 := blk_cell HN5.out 1; have f9 := blk_frozen HN5.out 0; have f10 := blk_frozen HN5.out 1)
      | (go_at_call 52; (with_reducible refine (pairPlus_calls x y a b _).mono ?_); rintro e w5 ⟨rfl, hb⟩; have HM5 : Aside0 (Mv w w5 x y a b 0 0) := ⟨HM4.out.keep hb⟩; clear hb k1 k2 k3 k4 k5 k6 k7 k8; obtain ⟨k1, k2, k3, k4, k5, k6, k7, k8⟩ := HM5.out.cells)
      | (go_at_call 52; (with_reducible refine (pairPlus_calls x y a b _).mono ?_); rintro e w5 ⟨rfl, hb⟩; have HN5 := Aside0.mk ((hb.block _ (by simp)).trans (heap_alloc_new w4 (.cells #[.int .i64 0, .int .i64 0] 34))); have HM5 : Aside0 (Mv w w5 x y a b 0 0) := ⟨(HM4.out.keep (below_alloc (Below.refl _ _) _)).keep hb⟩; clear hb k1 k2 k3 k4 k5 k6 k7 k8; obtain ⟨k1, k2, k3, k4, k5, k6, k7, k8⟩ := HM5.out.cells; have k9 := blk_cell HN5.out 0; have k10 := blk_cell HN5.out 1; have f9 := blk_frozen HN5.out 0; have f10 := blk_frozen HN5.out 1)
      | (go_at_call 31; (with_reducible refine (pairPoint_calls (wrap64 (x + a)) (wrap64 (y + b)) _).mono ?_); rintro e w6 ⟨rfl, hb⟩; have HN6 := Aside0.mk ((hb.block _ (lt_of_block HN5.out)).trans HN5.out); have HM6 := Aside0.mk (HM5.out.keep hb); clear k9 k10 f9 f10; clear hb k1 k2 k3 k4 k5 k6 k7 k8; obtain ⟨k1, k2, k3, k4, k5, k6, k7, k8⟩ := HM6.out.cells; have k9 := blk_cell HN6.out 0; have k10 := blk_cell HN6.out 1; have f9 := blk_frozen HN6.out 0; have f10 := blk_frozen HN6.out 1)
      | (go_at_call 31; (with_reducible refine (pairPoint_calls (wrap64 (x + a)) (wrap64 (y + b)) _).mono ?_); rintro e w6 ⟨rfl, hb⟩; have HM6 : Aside0 (Mv w w6 x y a b 0 0) := ⟨HM5.out.keep hb⟩; clear hb k1 k2 k3 k4 k5 k6 k7 k8; obtain ⟨k1, k2, k3, k4, k5, k6, k7, k8⟩ := HM6.out.cells)
      | (go_at_call 31; (with_reducible refine (pairPoint_calls (wrap64 (x + a)) (wrap64 (y + b)) _).mono ?_); rintro e w6 ⟨rfl, hb⟩; have HN6 := Aside0.mk ((hb.block _ (by simp)).trans (heap_alloc_new w5 (.cells #[.int .i64 0, .int .i64 0] 34))); have HM6 : Aside0 (Mv w w6 x y a b 0 0) := ⟨(HM5.out.keep (below_alloc (Below.refl _ _) _)).keep hb⟩; clear hb k1 k2 k3 k4 k5 k6 k7 k8; obtain ⟨k1, k2, k3, k4, k5, k6, k7, k8⟩ := HM6.out.cells; have k9 := blk_cell HN6.out 0; have k10 := blk_cell HN6.out 1; have f9 := blk_frozen HN6.out 0; have f10 := blk_frozen HN6.out 1))
    all_goals
     go_wp2_with fail
     go_meet
     case rel =>
      first
       | exact ⟨w5.heap.size, rfl, lt_of_block HM5.out.2.2.2, ⟨HM6.out.after (lt_of_block HM5.out.2.2.2) _ _⟩, ⟨blk_put (blk_put HN6.out 0 _ rfl) 1 _ rfl⟩⟩
       | exact ⟨w4.heap.size, rfl, lt_of_block HM4.out.2.2.2, ⟨HM6.out.after (lt_of_block HM4.out.2.2.2) _ _⟩, ⟨blk_put (blk_put HN6.out 0 _ rfl) 1 _ rfl⟩⟩
       | exact ⟨w3.heap.size, rfl, lt_of_block HM3.out.2.2.2, ⟨HM6.out.after (lt_of_block HM3.out.2.2.2) _ _⟩, ⟨blk_put (blk_put HN6.out 0 _ rfl) 1 _ rfl⟩⟩
       | exact ⟨w2.heap.size, rfl, lt_of_block HM2.out.2.2.2, ⟨HM6.out.after (lt_of_block HM2.out.2.2.2) _ _⟩, ⟨blk_put (blk_put HN6.out 0 _ rfl) 1 _ rfl⟩⟩
       | exact ⟨w6.heap.size, rfl, lt_of_block HM6.out.2.2.2, ⟨HM6.out.keep (below_alloc (Below.refl _ _) _)⟩, ⟨heap_alloc_new w6 _⟩⟩
   case rest =>
    obtain ⟨B, rfl, hB, HMc, HNc⟩ := hcut
    clear HM0 HM1 HM2 k1 k2 k3 k4 k5 k6 k7 k8
    obtain ⟨k1, k2, k3, k4, k5, k6, k7, k8⟩ := HMc.out.cells
    have k9 := blk_cell HNc.out 0
    have k10 := blk_cell HNc.out 1
    simp only [List.getElem?_toArray, List.getElem?_cons_zero, List.getElem?_cons_succ] at k9 k10
    generalize hp : wrap64 (x + a) = p at *
    generalize hq : wrap64 (y + b) = q at *
    by_cases h3 : inR p q 10000 = true
    ·have e : mvP x y a b = (p, q, true) := by unfold mvP; rw [hp, hq, if_pos ⟨h1, h2, h3⟩]
     go_wp2_with (go_at_call 35; (with_reducible refine (PointValid_calls p q _).mono ?_); rintro e w7 ⟨rfl, hb⟩; rw [h3]; have HM7 := Aside0.mk (HMc.out.keep hb); have HN7 := Aside0.mk ((hb.block _ (lt_of_block HNc.out)).trans HNc.out); clear hb k1 k2 k3 k4 k5 k6 k7 k8 k9 k10; obtain ⟨k1, k2, k3, k4, k5, k6, k7, k8⟩ := HM7.out.cells; have k9 := blk_cell HN7.out 0; have k10 := blk_cell HN7.out 1; simp only [List.getElem?_toArray, List.getElem?_cons_zero, List.getElem?_cons_succ] at k9 k10)
     have HM8 := HM7.out.put p q
     exact bodyPost_ret (results_ct rfl _ _ (w.heap.size + 1 + 1) 34 #[.int .i64 p, .int .i64 q] (0, 0) _ rfl HM8.2.2.2 Try.underlying34 rfl (by kernel_rfl)) rfl ⟨by rw [e]; rfl, HM8.1⟩
    ·have e : mvP x y a b = (0, 0, false) := by unfold mvP; rw [hp, hq, if_neg (fun hh => h3 hh.2.2)]
     have h3 : inR p q 10000 = false := by simpa using h3
     go_wp2_with (go_at_call 35; (with_reducible refine (PointValid_calls p q _).mono ?_); rintro e w7 ⟨rfl, hb⟩; rw [h3]; have HM7 := Aside0.mk (HMc.out.keep hb); have HN7 := Aside0.mk ((hb.block _ (lt_of_block HNc.out)).trans HNc.out); clear hb k1 k2 k3 k4 k5 k6 k7 k8 k9 k10; obtain ⟨k1, k2, k3, k4, k5, k6, k7, k8⟩ := HM7.out.cells; have k9 := blk_cell HN7.out 0; have k10 := blk_cell HN7.out 1; simp only [List.getElem?_toArray, List.getElem?_cons_zero, List.getElem?_cons_succ] at k9 k10)
     have HM8 := HM7.out.put 0 0
     exact bodyPost_ret (results_ct rfl _ _ (w.heap.size + 1 + 1) 34 #[.int .i64 0, .int .i64 0] (0, 0) _ rfl HM8.2.2.2 Try.underlying34 rfl (by kernel_rfl)) rfl ⟨by rw [e]; rfl, HM8.1⟩
  ·have e : mvP x y a b = (0, 0, false) := by unfold mvP; rw [if_neg (fun hh => h2 hh.2.1)]
   rw [e]
   have h2 : inR a b 20000 = false := by simpa using h2
   go_enter Try.func56, Try.ntmps56
   go_wp2_with (first | (go_at_call 35; (with_reducible refine (PointValid_calls x y _).mono ?_); rintro e w1 ⟨rfl, hb⟩; rw [h1]; have HM1 := Aside0.mk (HM0.out.keep hb); clear hb; obtain ⟨k1, k2, k3, k4, k5, k6, k7, k8⟩ := HM1.out.cells) | (go_at_call 49; (with_reducible refine (stepValid_calls a b _).mono ?_); rintro e w2 ⟨rfl, hb⟩; rw [h2]; have HM2 := Aside0.mk (HM1.out.keep hb); clear hb k1 k2 k3 k4 k5 k6 k7 k8; obtain ⟨k1, k2, k3, k4, k5, k6, k7, k8⟩ := HM2.out.cells))
   have HM3 := HM2.out.put 0 0
   exact bodyPost_ret (results_ct rfl _ _ (w.heap.size + 1 + 1) 34 #[.int .i64 0, .int .i64 0] (0, 0) _ rfl HM3.2.2.2 Try.underlying34 rfl (by kernel_rfl)) rfl ⟨rfl, HM3.1⟩
 ·have e : mvP x y a b = (0, 0, false) := by unfold mvP; rw [if_neg (fun hh => h1 hh.1)]
  rw [e]
  have h1 : inR x y 10000 = false := by simpa using h1
  go_enter Try.func56, Try.ntmps56
  go_wp2_with (go_at_call 35; (with_reducible refine (PointValid_calls x y _).mono ?_); rintro e w1 ⟨rfl, hb⟩; rw [h1]; have HM1 := Aside0.mk (HM0.out.keep hb); clear hb; obtain ⟨k1, k2, k3, k4, k5, k6, k7, k8⟩ := HM1.out.cells)
  have HM3 := HM1.out.put 0 0
  exact bodyPost_ret (results_ct rfl _ _ (w.heap.size + 1 + 1) 34 #[.int .i64 0, .int .i64 0] (0, 0) _ rfl HM3.2.2.2 Try.underlying34 rfl (by kernel_rfl)) rfl ⟨rfl, HM3.1⟩
def impl_PointMove.f (a0_0 : Int) (a0_1 : Int) (a1_0 : Int) (a1_1 : Int) : Option (Int × Int × Bool) := some (mvP a0_0 a0_1 a1_0 a1_1)
theorem impl_PointMove.calls (a0_0 : Int) (a0_1 : Int) (a1_0 : Int) (a1_1 : Int) (r1 : Int) (r2 : Int) (r3 : Bool) (w : World) (h : impl_PointMove.f a0_0 a0_1 a1_0 a1_1 = some (r1, r2, r3)) :
  Calls Try.prog 56 #[.agg #[.int .i64 a0_0, .int .i64 a0_1], .agg #[.int .i64 a1_0, .int .i64 a1_1]] w fun e w' => e = .returned (.tuple #[.agg #[.int .i64 r1, .int .i64 r2], .bool r3]) ∧ Below w.heap.size w w' := by
 have h := Option.some.inj h
 have h0 := move_calls a0_0 a0_1 a1_0 a1_1 w
 rw [h] at h0
 exact h0
theorem walkFrom_calls (x y : Int) (w : World) : Calls Try.prog 36 #[.agg #[.int .i64 x, .int .i64 y]] w fun e w' => ∃ g, e = .returned (.func (.func 55) #[] #[.pointer (some ⟨g, 0, none⟩)]) ∧ w.heap.size ≤ g ∧ w'.heap[g]? = some (.cells #[.int .i64 x, .int .i64 y] 34 (0, 0)) ∧ Below w.heap.size w w' := by
 have HB := Aside0.mk (Below.refl w.heap.size w)
 go_enter Try.func36, Try.ntmps36
 go_wp2_with ((with_reducible refine gate_dst (N := 1) rfl ?_); refine box_event ?hg (N := 1) ?hd (cs := #[.int .i64 x, .int .i64 y]) (t := 34) ?hr ?_; (case hd => rfl); (case hg => rfl); (case hr => first | (go_simp; done) | (go_simp; rfl)); intro g1 e1 w1 b1 hb; have HB1 := Aside0.mk (below_step HB.out hb); have HN1 := Aside0.mk b1; have k1 := blk_cell b1 0; have k2 := blk_cell b1 1; clear e1 b1 hb)
 go_ret
 exact ⟨w1.heap.size, rfl, HB1.out.size, heap_alloc_new w1 _, below_alloc HB1.out _⟩
set_option maxHeartbeats 4000000 in
theorem walk1_calls (x y a b : Int) (g B : Nat) (w : World) (hg : w.heap[g]? = some (.cells #[.int .i64 a, .int .i64 b] 34 (0, 0))) (hB : B ≤ g) (hBw : B ≤ w.heap.size) :
  Calls Try.prog 55 #[.agg #[.int .i64 x, .int .i64 y], .pointer (some ⟨g, 0, none⟩)] w fun e w' => e = .returned (.tuple #[.agg #[.int .i64 (mvP a b x y).1, .int .i64 (mvP a b x y).2.1], .bool (mvP a b x y).2.2]) ∧ w'.heap[g]? = some (.cells #[.int .i64 (mvP a b x y).1, .int .i64 (mvP a b x y).2.1] 34 (0, 0)) ∧ Below B w w' ∧ ∀ c, c ≠ g → c < w.heap.size → w'.heap[c]? = w.heap[c]? := by
 have hc := fun w => move_calls a b x y w
 obtain ⟨p, q, r, hm⟩ : ∃ p q r, mvP a b x y = (p, q, r) := ⟨_, _, _, rfl⟩
 simp only [hm] at hc ⊢
 have HC := Aside0.mk hc
 have lg := lt_of_block hg
 have HG := Aside0.mk hg
 have HB := Aside0.mk (Below.refl w.heap.size w)
 clear hc hg hm
 go_enter Try.func55, Try.ntmps55
 go_upto_region 1 with ((with_reducible refine gate_dst (N := 2) rfl ?_); refine box_event ?hg (N := 2) ?hd (cs := #[.int .i64 x, .int .i64 y]) (t := 34) ?hr ?_; (case hd => rfl); (case hg => rfl); (case hr => first | (go_simp; done) | (go_simp; rfl)); intro g2 e2 w2 b2 hb; have HB2 := Aside0.mk (below_step HB.out hb); have HN2 := Aside0.mk b2; have HG2 := Aside0.mk (blk_below HG.out hb); have l2 : w.heap.size ≤ g2 := Nat.le_of_eq e2.symm; clear e2 b2 hb)
 have hb := below_alloc (Below.refl _ w2) (.cells #[.int .i64 0, .int .i64 0] 34)
 have HB3 := Aside0.mk (below_step HB2.out hb)
 have HN3 := Aside0.mk (heap_alloc_new w2 (.cells #[.int .i64 0, .int .i64 0] 34))
 have HG3 := Aside0.mk (blk_below HG2.out hb)
 have HN23 := Aside0.mk (blk_below HN2.out hb)
 have l3 : w.heap.size ≤ w2.heap.size := HB2.out.size
 clear hb HB2 HN2 HG2
 generalize w2.alloc (.cells #[.int .i64 0, .int .i64 0] 34) = w3 at *
 generalize w2.heap.size = g3 at *
 have k1 := blk_cell HG3.out 0
 have k2 := blk_cell HG3.out 1
 have k3 := blk_cell HN23.out 0
 have k4 := blk_cell HN23.out 1
 go_upto_region 2 with (go_at_call 56; (with_reducible refine (HC.out _).mono ?_); rintro e w4 ⟨rfl, hb⟩; have HB4 := Aside0.mk (below_step HB3.out hb); have HG4 := Aside0.mk (blk_below HG3.out hb); have HN34 := Aside0.mk (blk_below HN3.out hb); clear hb k1 k2 k3 k4)
 have hb := below_alloc (Below.refl _ w4) (.cells #[.int .i64 p, .int .i64 q] 34)
 have HB5 := Aside0.mk (below_step HB4.out hb)
 have HN5 := Aside0.mk (heap_alloc_new w4 (.cells #[.int .i64 p, .int .i64 q] 34))
 have HG5 := Aside0.mk (blk_below HG4.out hb)
 have HN35 := Aside0.mk (blk_below HN34.out hb)
 have l5 : g3 < w4.heap.size := blk_lt HN34.out
 clear hb HB3 HB4 HN3 HG3 HG4 HN34 HN23 HC
 generalize w4.alloc (.cells #[.int .i64 p, .int .i64 q] 34) = w5 at *
 generalize w4.heap.size = g5 at *
 have k1 := blk_cell HG5.out 0
 have k2 := blk_cell HG5.out 1
 have f1 := blk_frozen HG5.out 0
 have f2 := blk_frozen HG5.out 1
 have k3 := blk_cell HN35.out 0
 have k4 := blk_cell HN35.out 1
 have f3 := blk_frozen HN35.out 0
 have f4 := blk_frozen HN35.out 1
 have k5 := blk_cell HN5.out 0
 have k6 := blk_cell HN5.out 1
 simp only [List.getElem?_toArray, List.getElem?_cons_zero, List.getElem?_cons_succ] at k1 k2 k3 k4 k5 k6
 have n1 : g ≠ g5 := by omega
 have n2 : g5 ≠ g := by omega
 have n3 : g3 ≠ g5 := by omega
 have n4 : g5 ≠ g3 := by omega
 have n5 : g ≠ g3 := by omega
 have n6 : g3 ≠ g := by omega
 go_wp2
 have hg6 := blk_put (blk_put HG5.out 0 (.int .i64 p) rfl) 1 (.int .i64 q) rfl
 have h36 := blk_far (p := ⟨g, 1, none⟩) (blk_far (p := ⟨g, 0, none⟩) HN35.out n6 (.int .i64 p)) n6 (.int .i64 q)
 have hg7 := blk_far (p := ⟨g3, 1, none⟩) (blk_far (p := ⟨g3, 0, none⟩) hg6 n5 (.int .i64 p)) n5 (.int .i64 q)
 have h37 := blk_put (blk_put h36 0 (.int .i64 p) rfl) 1 (.int .i64 q) rfl
 refine bodyPost_ret (results_ct rfl _ _ g3 34 #[.int .i64 p, .int .i64 q] (0, 0) _ rfl h37 Try.underlying34 rfl (by kernel_rfl)) rfl ⟨rfl, hg7, ?_, ?_⟩
 ·exact ((((HB5.out.mono hBw).setCell (p := ⟨g, 0, none⟩) hB _).setCell (p := ⟨g, 1, none⟩) hB _).setCell (p := ⟨g3, 0, none⟩) (Nat.le_trans hBw l3) _).setCell (p := ⟨g3, 1, none⟩) (Nat.le_trans hBw l3) _
 ·intro c hc hc2
  rw [Below.heap_setCell _ _ _ _ (by show c ≠ g3; omega), Below.heap_setCell _ _ _ _ (by show c ≠ g3; omega), Below.heap_setCell _ _ _ _ (by show c ≠ g; exact hc), Below.heap_setCell _ _ _ _ (by show c ≠ g; exact hc)]
  exact HB5.out.block c hc2
def wkA (l : List S34) (x y : Int) : Nat → Int × Int
 | 0 => (x, y)
 | n + 1 => ((mvP (wkA l x y n).1 (wkA l x y n).2 (rd_T34 l (n : Int)).f0 (rd_T34 l (n : Int)).f1).1, (mvP (wkA l x y n).1 (wkA l x y n).2 (rd_T34 l (n : Int)).f0 (rd_T34 l (n : Int)).f1).2.1)
def wkOk (l : List S34) (x y : Int) : Nat → Bool
 | 0 => true
 | n + 1 => wkOk l x y n && (mvP (wkA l x y n).1 (wkA l x y n).2 (rd_T34 l (n : Int)).f0 (rd_T34 l (n : Int)).f1).2.2
def wkP (l : List S34) (x y : Int) : Nat → List S34
 | 0 => [⟨x, y⟩]
 | n + 1 => wkP l x y n ++ [⟨(wkA l x y (n + 1)).1, (wkA l x y (n + 1)).2⟩]
theorem wkP_length (l : List S34) (x y : Int) : ∀ n, (wkP l x y n).length = n + 1
 | 0 => rfl
 | n + 1 => by unfold wkP; rw [List.length_append, wkP_length l x y n]; rfl
theorem wkOk_mono {l : List S34} {x y : Int} : ∀ {n m : Nat}, n ≤ m → wkOk l x y n = false → wkOk l x y m = false
 | n, 0, h, h2 => by
  obtain rfl : n = 0 := by omega
  exact h2
 | n, m + 1, h, h2 => by
  by_cases e : n = m + 1
  ·rw [← e]; exact h2
  ·unfold wkOk; rw [wkOk_mono (by omega) h2, Bool.false_and]
theorem wk_succ (l : List S34) (x y : Int) (i : Nat) : wkA l x y (i + 1) = ((mvP (wkA l x y i).1 (wkA l x y i).2 (rd_T34 l (i : Int)).f0 (rd_T34 l (i : Int)).f1).1, (mvP (wkA l x y i).1 (wkA l x y i).2 (rd_T34 l (i : Int)).f0 (rd_T34 l (i : Int)).f1).2.1) ∧
  wkOk l x y (i + 1) = (wkOk l x y i && (mvP (wkA l x y i).1 (wkA l x y i).2 (rd_T34 l (i : Int)).f0 (rd_T34 l (i : Int)).f1).2.2) ∧
  wkP l x y (i + 1) = wkP l x y i ++ [⟨(mvP (wkA l x y i).1 (wkA l x y i).2 (rd_T34 l (i : Int)).f0 (rd_T34 l (i : Int)).f1).1, (mvP (wkA l x y i).1 (wkA l x y i).2 (rd_T34 l (i : Int)).f0 (rd_T34 l (i : Int)).f1).2.1⟩] := ⟨rfl, rfl, rfl⟩
def impl_TravelPoints.f (k : Nat) (a0_0 : Int) (a0_1 : Int) (l1 : List S34) : Option (List S34 × Bool) := if inR a0_0 a0_1 10000 = true then ((impl_TravelValid.f k l1).bind fun t => (if t = true then (if l1.length ≤ 100 then (if wkOk l1 a0_0 a0_1 l1.length = true then some (wkP l1 a0_0 a0_1 l1.length, true) else some ([], false)) else none) else some ([], false))) else some ([], false)
theorem impl_TravelPoints.mono : ∀ a0 a1 a2 k, LeO (impl_TravelPoints.f k a0 a1 a2) (impl_TravelPoints.f (k + 1) a0 a1 a2) := by
 intro a0 a1 a2 k
 unfold impl_TravelPoints.f
 exact LeO.ite (LeO.bind (impl_TravelValid.mono _ _) (fun _ => LeO.refl _)) (LeO.refl _)
set_option maxHeartbeats 4000000 in
set_option maxRecDepth 100000 in
theorem impl_TravelPoints.calls (k : Nat) (a0_0 : Int) (a0_1 : Int) (A1 : Option Addr) (c1 : Nat) (l1 : List S34) (r1 : List S34) (r2 : Bool) (w : World) (hr1 : Kd.C k34 w A1 l1.length l1) (hc1 : l1.length ≤ c1) (h : impl_TravelPoints.f k a0_0 a0_1 l1 = some (r1, r2)) :
  Calls Try.prog 17 #[.agg #[.int .i64 a0_0, .int .i64 a0_1], .slice A1 l1.length c1] w fun e w' => ∃ v0_ : Value, e = .returned (.tuple #[v0_, .bool r2]) ∧ Kd.R k34 34 w' w.heap.size (fun _ => True) v0_ r1 ∧ Below w.heap.size w w' := by
 have HR := Aside0.mk hr1
 have HC := Aside0.mk hc1
 have HBx := Aside0.mk (Below.refl w.heap.size w)
 clear hr1 hc1
 unfold impl_TravelPoints.f at h
 by_cases hin : inR a0_0 a0_1 10000 = true
 ·rw [if_pos hin] at h
  have HI := Aside0.mk hin
  clear hin
  obtain ⟨b, hb, h⟩ := Option.bind_eq_some_iff.1 h
  have HV := Aside0.mk hb
  clear hb
  cases b with
  | false =>
   simp only [Bool.false_eq_true, if_false, Option.some.injEq, Prod.mk.injEq] at h
   obtain ⟨rfl, rfl⟩ := h
   go_enter Try.func17, Try.ntmps17
   go_wp2_with (first | ((with_reducible refine gate_dst (N := 2) rfl ?_); refine box_event ?hg (N := 2) ?hd (cs := #[.int .i64 a0_0, .int .i64 a0_1]) (t := 34) ?hr ?_; (case hd => rfl); (case hg => rfl); (case hr => first | (go_simp; done) | (go_simp; rfl)); intro g2 e2 w2 b2 hb; have HB2 := Aside0.mk (below_step HBx.out hb); have HN2 := Aside0.mk b2; have k1 := blk_cell b2 0; have k2 := blk_cell b2 1; clear e2 b2 hb) | (go_at_call 35; (with_reducible refine (PointValid_calls a0_0 a0_1 _).mono ?_); rintro e w3 ⟨rfl, hb⟩; rw [HI.out]; have HB3 := Aside0.mk (below_step HB2.out hb); clear hb) | (go_at_call 26; (with_reducible refine (impl_TravelValid.calls k _ _ l1 false _ (Kd.C_below HR.out HB3.out) HC.out HV.out).mono ?_); rintro e w4 ⟨rfl, hb⟩; have HB4 := Aside0.mk (below_step HB3.out hb); clear hb) | ((with_reducible refine gate_dst (N := 20) rfl ?_); refine Kd.R_lit k34 _ 34 ?hg (N := 20) ?hd (xs := ([] : List S34)) (inner := []) (ok := fun _ => True) (okp := fun _ => True) ?hr ?hp (fun _ hk => hk) trivial (Below.refl _ _) (Nat.le_refl _) (by simp) ?_; (case hd => rfl); (case hg => rfl); (case hr => first | (go_simp; done) | (go_simp; rfl)); (case hp => exact (Reps.none _ _)); intro v20 w5 ho hb hg_ hnew_; clear hg_ hnew_; have HO := Aside0.mk (Kd.R_lower ho HB4.out.size); have HB5 := Aside0.mk (below_step HB4.out hb); clear hb ho))
   go_ret2
   exact ⟨_, rfl, HO.out, HB5.out⟩
  | true =>
   simp only [if_true] at h
   split at h
   ·rename_i h100
    go_enter Try.func17, Try.ntmps17
    go_upto_region 3 with (first | ((with_reducible refine gate_dst (N := 2) rfl ?_); refine box_event ?hg (N := 2) ?hd (cs := #[.int .i64 a0_0, .int .i64 a0_1]) (t := 34) ?hr ?_; (case hd => rfl); (case hg => rfl); (case hr => first | (go_simp; done) | (go_simp; rfl)); intro g2 e2 w2 b2 hb; have HB2 := Aside0.mk (below_step HBx.out hb); have HN2 := Aside0.mk b2; have k1 := blk_cell b2 0; have k2 := blk_cell b2 1; clear e2 b2 hb) | (go_at_call 35; (with_reducible refine (PointValid_calls a0_0 a0_1 _).mono ?_); rintro e w3 ⟨rfl, hb⟩; rw [HI.out]; have HB3 := Aside0.mk (below_step HB2.out hb); have HN3 := Aside0.mk (blk_below HN2.out hb); clear hb) | (go_at_call 26; (with_reducible refine (impl_TravelValid.calls k _ _ l1 true _ (Kd.C_below HR.out HB3.out) HC.out HV.out).mono ?_); rintro e w4 ⟨rfl, hb⟩; have HB4 := Aside0.mk (below_step HB3.out hb); have HN4 := Aside0.mk (blk_below HN3.out hb); clear hb k1 k2; have k1 := blk_cell HN4.out 0; have k2 := blk_cell HN4.out 1))
    clear HB2 HB3 HN2 HN3
    go_upto_region 4 with ((with_reducible refine gate_dst (N := 22) rfl ?_); refine Kd.R_lit k34 _ 34 ?hg (N := 22) ?hd (xs := ([(⟨a0_0, a0_1⟩ : S34)] : List S34)) (inner := [.int .i64 a0_0, .int .i64 a0_1]) (ok := fun _ => True) (okp := fun _ => True) ?hr ?hp (fun _ hk => hk) trivial (Below.refl _ _) (Nat.le_refl _) (by simp) ?_; (case hd => rfl); (case hg => rfl); (case hr => first | (go_simp; done) | (go_simp; rfl)); (case hp => exact (Reps.c2 (show Kd.M k34 _ _ _ (⟨a0_0, a0_1⟩ : S34) [.int .i64 a0_0, .int .i64 a0_1] from (k34_mkM _ _ _ (⟨a0_0, a0_1⟩ : S34) )) (Reps.none _ _))); intro v22 w5 ho hb hg_ hnew_; clear hg_ hnew_; have HO5 := Aside0.mk (Kd.R_lower ho HB4.out.size); have HN5 := Aside0.mk (blk_below HN4.out hb); have HB5 := Aside0.mk (below_step HB4.out hb); clear hb ho k1 k2; have k1 := blk_cell HN5.out 0; have k2 := blk_cell HN5.out 1)
    clear HB4 HN4
    go_upto_region 5 with (go_at_call 36; (with_reducible refine (walkFrom_calls a0_0 a0_1 _).mono ?_); rintro e w6 ⟨gs, rfl, hl, hg, hb⟩; have hgs : w.heap.size ≤ gs := Nat.le_trans HB5.out.size hl; have HG6 := Aside0.mk hg; have HO6 := Aside0.mk (Kd.R_below (Kd.R_mono (Kd.R_bound HO5.out) (ok' := fun k => k ≠ gs) (fun k hk => by have := hk.2.2.1; omega)) hb); have HB6 := Aside0.mk (below_step HB5.out hb); clear hb hg hl k1 k2)
    go_wp2_with fail
    go_loopw [6, 27] (fun v6 v27 wr => ∃ i : Nat, i ≤ l1.length ∧ v27 = .int .i64 i ∧ Aside0 (wkOk l1 a0_0 a0_1 i = true) ∧ Aside0 (Kd.R k34 34 wr w.heap.size (fun k => k ≠ gs) v6 (wkP l1 a0_0 a0_1 i)) ∧ Aside0 (wr.heap[gs]? = some (.cells #[.int .i64 (wkA l1 a0_0 a0_1 i).1, .int .i64 (wkA l1 a0_0 a0_1 i).2] 34 (0, 0))) ∧ Aside0 (Below w.heap.size w wr)) (fun _ v27 _ => l1.length - (intOf v27).toNat)
    case atStart => exact ⟨0, Nat.zero_le _, rfl, ⟨rfl⟩, HO6, HG6, HB6⟩
    case round =>
     obtain ⟨i, hi, rfl, HK, HO, HG, HBr⟩ := hrel
     clear HO6 HG6 HB6 HO5 HN5 HB5
     by_cases hlt : i < l1.length
     ·obtain ⟨ad, e1, hx0, hx1⟩ := at_T34 HR.out (i : Int) (by omega) (by omega)
      rw [Int.toNat_natCast] at hx0 hx1
      subst e1
      replace hx0 := (HBr.out.cell (World.block_lt_of_cell? w _ hx0)).trans hx0
      replace hx1 := (HBr.out.cell (World.block_lt_of_cell? w _ hx1)).trans hx1
      have HS1 := Aside0.mk (wk_succ l1 a0_0 a0_1 i)
      generalize hp : (rd_T34 l1 (i : Int)).f0 = p at *
      generalize hq : (rd_T34 l1 (i : Int)).f1 = q at *
      generalize hab : wkA l1 a0_0 a0_1 i = ab at *
      obtain ⟨aa, bb⟩ := ab
      obtain ⟨u, v, b, hm⟩ : ∃ u v b, mvP aa bb p q = (u, v, b) := ⟨_, _, _, rfl⟩
      have HM := Aside0.mk hm
      rw [hm] at HS1
      clear hp hq hab hm
      cases b with
      | false =>
       have HF : Aside0 (wkOk l1 a0_0 a0_1 l1.length = false) := ⟨wkOk_mono (n := i + 1) (by omega) (by rw [HS1.out.2.1]; exact Bool.and_false _)⟩
       rw [if_neg (by rw [HF.out]; simp)] at h
       simp only [Option.some.injEq, Prod.mk.injEq] at h
       obtain ⟨rfl, rfl⟩ := h
       go_wp2_with (first | (go_at_call 55; (with_reducible refine (walk1_calls p q aa bb gs w.heap.size _ (((below_alloc (Below.refl _ _) _).block _ (lt_of_block HG.out)).trans HG.out) (by omega) (below_alloc HBr.out _).size).mono ?_); rintro e w7 ⟨rfl, hg, hb, hk⟩; rw [HM.out]; clear hg hk; have HB7 := Aside0.mk (below_alloc ((below_alloc HBr.out _).trans hb) (.cells #[.int .i64 u, .int .i64 v] 34)); clear hb) | ((with_reducible refine gate_dst (N := 39) rfl ?_); refine Kd.R_lit k34 _ 34 ?hg (N := 39) ?hd (xs := ([] : List S34)) (inner := []) (ok := fun _ => True) (okp := fun _ => True) ?hr ?hp (fun _ hk => hk) trivial (Below.refl _ _) (Nat.le_refl _) (by simp) ?_; (case hd => rfl); (case hg => rfl); (case hr => first | (go_simp; done) | (go_simp; rfl)); (case hp => exact (Reps.none _ _)); intro v39 w8 ho hb hg_ hnew_; clear hg_ hnew_; have HO8 := Aside0.mk (Kd.R_lower ho HB7.out.size); have HB8 := Aside0.mk (below_step HB7.out hb); clear hb ho))
       go_ret2
       exact ⟨_, rfl, HO8.out, HB8.out⟩
      | true =>
       go_wp2_with (first | (go_at_call 55; (with_reducible refine (walk1_calls p q aa bb gs w.heap.size _ (((below_alloc (Below.refl _ _) _).block _ (lt_of_block HG.out)).trans HG.out) (by omega) (below_alloc HBr.out _).size).mono ?_); rintro e w7 ⟨rfl, hg, hb, hk⟩; rw [HM.out]; rw [HM.out] at hg; have HG7 := Aside0.mk (blk_below hg (below_alloc (Below.refl _ w7) (.cells #[.int .i64 u, .int .i64 v] 34))); have HO7 := Aside0.mk (Kd.R_alloc (Kd.R_step (Kd.R_alloc HO.out (.cells #[.int .i64 p, .int .i64 q] 34)) (fun c hc hc2 => hk c hc hc2)) (.cells #[.int .i64 u, .int .i64 v] 34)); have HB7 := Aside0.mk (below_alloc ((below_alloc HBr.out _).trans hb) (.cells #[.int .i64 u, .int .i64 v] 34)); clear hg hb hk) | ((with_reducible refine gate_builtin (b := .append) (xs := #[.tmp 40, .tmp 42]) rfl ?_); at_builtin; refine Kd.R_append k34 (w0 := w) w.heap.size rfl (.tmp 40) (.tmp 42) 24 34 (.agg #[(.int .i64 0), (.int .i64 0)]) 16 rfl Try.underlying24 info34 rfl (by decide) (by omega) u6 (wkP l1 a0_0 a0_1 i) (⟨u, v⟩ : S34) [.int .i64 u, .int .i64 v] (fun k => k ≠ gs) (fun _ => False) rfl (by first | (go_simp; done) | (go_simp; rfl)) ?aP (fun _ hk => hk.elim) ?aF ?aO ?aB ?aS ?aL ?_; (case aP => exact k34_mkM _ _ _ (⟨u, v⟩ : S34)); (case aF => exact fun k hk => by have := blk_lt HG7.out; omega); (case aO => exact HO7.out); (case aB => exact HB7.out); (case aS => exact HB7.out.size); (case aL => (rw [wkP_length]; omega)); intro v1 w8 ho hb hgr _; have HG8 := Aside0.mk ((hgr.block gs (blk_lt HG7.out) (fun he => HO7.out.1 gs he.symm rfl)).trans HG7.out); have HO8 := Aside0.mk ho; have HB8 := Aside0.mk hb; clear ho hb hgr))
       go_roundw
       case rel => exact ⟨i + 1, by omega, by go_num, ⟨by rw [HS1.out.2.1, HK.out]; rfl⟩, ⟨by rw [HS1.out.2.2]; exact HO8.out⟩, ⟨by rw [HS1.out.1]; exact HG8.out⟩, HB8⟩
       case measure => simp [intOf]; omega
     ·have : i = l1.length := by omega
      subst this
      rw [if_pos HK.out] at h
      simp only [Option.some.injEq, Prod.mk.injEq] at h
      obtain ⟨rfl, rfl⟩ := h
      go_wp2_with fail
      go_ret2
      exact ⟨_, rfl, Kd.R_mono HO.out (fun _ _ => trivial), HBr.out⟩
   ·cases h
 ·have hin : inR a0_0 a0_1 10000 = false := by simpa using hin
  rw [hin] at h
  simp only [Bool.false_eq_true, if_false, Option.some.injEq, Prod.mk.injEq] at h
  obtain ⟨rfl, rfl⟩ := h
  have HI := Aside0.mk hin
  clear hin
  go_enter Try.func17, Try.ntmps17
  go_wp2_with (first | ((with_reducible refine gate_dst (N := 2) rfl ?_); refine box_event ?hg (N := 2) ?hd (cs := #[.int .i64 a0_0, .int .i64 a0_1]) (t := 34) ?hr ?_; (case hd => rfl); (case hg => rfl); (case hr => first | (go_simp; done) | (go_simp; rfl)); intro g2 e2 w2 b2 hb; have HB2 := Aside0.mk (below_step HBx.out hb); have HN2 := Aside0.mk b2; have k1 := blk_cell b2 0; have k2 := blk_cell b2 1; clear e2 b2 hb) | (go_at_call 35; (with_reducible refine (PointValid_calls a0_0 a0_1 _).mono ?_); rintro e w3 ⟨rfl, hb⟩; rw [HI.out]; have HB3 := Aside0.mk (below_step HB2.out hb); clear hb) | ((with_reducible refine gate_dst (N := 20) rfl ?_); refine Kd.R_lit k34 _ 34 ?hg (N := 20) ?hd (xs := ([] : List S34)) (inner := []) (ok := fun _ => True) (okp := fun _ => True) ?hr ?hp (fun _ hk => hk) trivial (Below.refl _ _) (Nat.le_refl _) (by simp) ?_; (case hd => rfl); (case hg => rfl); (case hr => first | (go_simp; done) | (go_simp; rfl)); (case hp => exact (Reps.none _ _)); intro v20 w5 ho hb hg_ hnew_; clear hg_ hnew_; have HO := Aside0.mk (Kd.R_lower ho HB3.out.size); have HB5 := Aside0.mk (below_step HB3.out hb); clear hb ho))
  go_ret2
  exact ⟨_, rfl, HO.out, HB5.out⟩
mutual
def impl_cornersValid.j0 : Nat → List (S34) → Bool → Option (Bool)
 | 0, _, _ => none
 | k + 1, x0, x12 => if x12 = true then (some false) else (impl_cornersValid.l0 k x0 (x0.length : Int) 0)
def impl_cornersValid.l0 : Nat → List (S34) → Int → Int → Option (Bool)
 | 0, _, _, _ => none
 | k + 1, x13, x14, x15 => if x15 < x14 then (if 0 ≤ x15 then (if x15 < (x13.length : Int) then ((impl_PointValid.f ((rd_T34 x13 x15).f0) ((rd_T34 x13 x15).f1)).bind fun t292 => (if t292 = true then (impl_cornersValid.l0 k x13 x14 (wrap64 (x15 + 1))) else (some false))) else (none)) else (none)) else (some true)
end
def impl_cornersValid.f (k : Nat) (l0 : List (S34)) : Option (Bool) := if (l0.length : Int) < 3 then (impl_cornersValid.j0 k l0 true) else (impl_cornersValid.j0 k l0 (decide ((l0.length : Int) > 12)))
theorem impl_cornersValid.mono_l : ∀ k, (∀ y0 y1, LeO (impl_cornersValid.j0 k y0 y1) (impl_cornersValid.j0 (k + 1) y0 y1)) ∧ (∀ y0 y1 y2, LeO (impl_cornersValid.l0 k y0 y1 y2) (impl_cornersValid.l0 (k + 1) y0 y1 y2))
 | 0 => ⟨fun _ _ r h => by simp [impl_cornersValid.j0] at h, fun _ _ _ r h => by simp [impl_cornersValid.l0] at h⟩
 | k + 1 => by
  obtain ⟨ih0, ih1⟩ := impl_cornersValid.mono_l k
  refine ⟨?_, ?_⟩
  ·intro y0 y1
   unfold impl_cornersValid.j0
   repeat' first
   | (with_reducible exact ih0 _ _)
   | (with_reducible exact ih1 _ _ _)
   | (with_reducible exact LeO.refl _)
   | (with_reducible exact LeO.none _)
   | (with_reducible refine LeO.ite ?_ ?_)
   | (with_reducible refine LeO.bind ?_ (fun _ => ?_))
   | exact ih0 _ _
   | exact ih1 _ _ _
   | exact LeO.none _
   | refine LeO.ite ?_ ?_
   | refine LeO.bind ?_ (fun _ => ?_)
  ·intro y0 y1 y2
   unfold impl_cornersValid.l0
   repeat' first
   | (with_reducible exact ih0 _ _)
   | (with_reducible exact ih1 _ _ _)
   | (with_reducible exact LeO.refl _)
   | (with_reducible exact LeO.none _)
   | (with_reducible refine LeO.ite ?_ ?_)
   | (with_reducible refine LeO.bind ?_ (fun _ => ?_))
   | exact ih0 _ _
   | exact ih1 _ _ _
   | exact LeO.none _
   | refine LeO.ite ?_ ?_
   | refine LeO.bind ?_ (fun _ => ?_)
theorem impl_cornersValid.mono : ∀ a0 k, LeO (impl_cornersValid.f k a0) (impl_cornersValid.f (k + 1) a0) := by
 intro a0 k
 obtain ⟨ih0, ih1⟩ := impl_cornersValid.mono_l k
 unfold impl_cornersValid.f
 repeat' first
   | (with_reducible exact ih0 _ _)
   | (with_reducible exact ih1 _ _ _)
   | (with_reducible exact LeO.refl _)
   | (with_reducible exact LeO.none _)
   | (with_reducible refine LeO.ite ?_ ?_)
   | (with_reducible refine LeO.bind ?_ (fun _ => ?_))
   | exact ih0 _ _
   | exact ih1 _ _ _
   | exact LeO.none _
   | refine LeO.ite ?_ ?_
   | refine LeO.bind ?_ (fun _ => ?_)
set_option maxHeartbeats 8000000 in
set_option maxRecDepth 100000 in
theorem impl_cornersValid.calls (k : Nat) (A0 : Option Addr) (c0 : Nat) (l0 : List (S34)) (r : Bool) (w : World) (hr0 : Kd.C k34 w A0 l0.length l0) (hc0 : l0.length ≤ c0) (h : impl_cornersValid.f k l0 = some r) :
  Calls Try.prog 57 #[.slice A0 l0.length c0] w fun e w' => e = .returned (.bool r) ∧ Below w.heap.size w w' := by
 have hu34 := Try.underlying34
 have HR0 := Aside0.mk hr0
 have HC0 := Aside0.mk hc0
 clear hr0 hc0
 have HB := Aside0.mk (Below.refl w.heap.size w)
 have H : (if (l0.length : Int) < 3 then (impl_cornersValid.j0 k l0 true) else (impl_cornersValid.j0 k l0 (decide ((l0.length : Int) > 12)))) = some r := h
 clear h
 have HC2 := Aside0.mk H
 clear H
 go_enter Try.func57, Try.ntmps57
 go_upto_region 1 with (fail)
 go_cut [12] (fun v12 wc => ∃ (kq : Nat) (x12_1 : Bool), v12 = .bool x12_1 ∧ Aside0 (impl_cornersValid.j0 kq l0 x12_1 = some r) ∧ Aside0 (kq ≤ k) ∧ Aside0 (Below w.heap.size w wc))
 case first =>
  have H := HC2.out
  clear HC2
  by_cases c3 : (l0.length : Int) < 3
  ·rw [if_pos c3] at H
   have c3b0 : decide ((l0.length : Int) < 3) = true := decide_eq_true c3
   have c3b1 : decide (l0.length < 3) = true := decide_eq_true (by omega)
   clear c3
   (first | rw [c3b0] | (simp only [i64_w, i32_w]; rw [c3b0]) | skip)
   have H' := Aside0.mk H
   clear H
   go_wp2
   go_meet
   case rel => exact ⟨_, (true), (by first | rfl | (simp; done) | (simp [*]; done)), H', ⟨by first | omega | exact Nat.le_refl _⟩, ⟨lb HB.out⟩⟩
  ·rw [if_neg c3] at H
   have c3b0 : decide ((l0.length : Int) < 3) = false := decide_eq_false c3
   have c3b1 : decide (l0.length < 3) = false := decide_eq_false (by omega)
   clear c3
   (first | rw [c3b0] | (simp only [i64_w, i32_w]; rw [c3b0]) | skip)
   have H' := Aside0.mk H
   clear H
   go_wp2
   go_meet
   case rel => exact ⟨_, (decide ((l0.length : Int) > 12)), (by first | rfl | (simp; done) | (simp [*]; done)), H', ⟨by first | omega | exact Nat.le_refl _⟩, ⟨lb HB.out⟩⟩
 case rest =>
  clear HC2
  try clear p2
  try clear c3
  try clear c3b0
  try clear c3b1
  obtain ⟨kq, x12_1, rfl, HA, HJ1, HB⟩ := hcut
  cases kq with
  | zero => exact absurd HA.out (by simp [impl_cornersValid.j0])
  | succ kj1 =>
   have H := HA.out
   clear HA
   simp only [impl_cornersValid.j0] at H
   by_cases c4 : x12_1 = true
   ·subst c4
    have H1 : (some false) = some r := by rw [if_pos rfl] at H; exact H
    clear H
    have H := H1
    clear H1
    obtain rfl := Option.some.inj H
    go_wp2
    go_ret
    exact ⟨er, lb HB.out⟩
   ·replace c4 := Bool.eq_false_iff.mpr c4
    subst c4
    have H1 : (impl_cornersValid.l0 kj1 l0 (l0.length : Int) 0) = some r := by rw [if_neg (show ¬ (false = true) by decide)] at H; exact H
    clear H
    have H := H1
    clear H1
    have H' := Aside0.mk H
    clear H
    go_wp2
    go_loopg [15] kj1 (fun kq v15 w' => ∃ (x15_2 : Int), v15 = .int .i64 x15_2 ∧ Aside0 (impl_cornersValid.l0 kq l0 (l0.length : Int) x15_2 = some r) ∧ Aside0 (kq ≤ kj1) ∧ Aside0 (Below w.heap.size w w'))
    case atStart => exact ⟨(0), (by first | rfl | (simp; done) | (simp [*]; done)), H', ⟨Nat.le_refl _⟩, ⟨lb HB.out⟩⟩
    case round =>
     clear H'
     try clear p2
     try clear c3
     try clear c3b0
     try clear c3b1
     try clear c4
     try clear p2
     obtain ⟨x15_2, rfl, HA, HK2, HB⟩ := hrel
     cases gk with
     | zero => exact absurd HA.out (by simp [impl_cornersValid.l0])
     | succ k2 =>
      have H := HA.out
      clear HA
      simp only [impl_cornersValid.l0] at H
      by_cases c5 : x15_2 < (l0.length : Int)
      ·rw [if_pos c5] at H
       have c5b0 : decide (x15_2 < (l0.length : Int)) = true := decide_eq_true c5
       clear c5
       by_cases c6 : 0 ≤ x15_2
       ·rw [if_pos c6] at H
        have c6b0 : decide (0 ≤ x15_2) = true := decide_eq_true c6
        clear c6
        by_cases c7 : x15_2 < (l0.length : Int)
        ·rw [if_pos c7] at H
         have c7b0 : decide (x15_2 < (l0.length : Int)) = true := decide_eq_true c7
         clear c7
         replace H := Option.bind_eq_some_iff.mp H
         obtain ⟨t292, A80, H⟩ := H
         replace H : (if t292 = true then (impl_cornersValid.l0 k2 l0 (l0.length : Int) (wrap64 (x15_2 + 1))) else (some false)) = some r := H
         have A8 := Aside0.mk A80
         clear A80
         by_cases c9 : t292 = true
         ·subst c9
          have H1 : (impl_cornersValid.l0 k2 l0 (l0.length : Int) (wrap64 (x15_2 + 1))) = some r := by rw [if_pos rfl] at H; exact H
          clear H
          have H := H1
          clear H1
          have H' := Aside0.mk H
          clear H
          have p290 : 0 ≤ (x15_2 : Int) := of_decide_eq_true (by first | (with_reducible assumption) | assumption)
          have q290 : x15_2 < (l0.length : Int) := of_decide_eq_true (by first | (with_reducible assumption) | assumption)
          obtain ⟨ad290, e290, hx290_0, hx290_1⟩ := at_T34 HR0.out x15_2 p290 q290
          cases e290
          replace hx290_0 := (HB.out.cell (World.block_lt_of_cell? w _ hx290_0)).trans hx290_0
          replace hx290_1 := (HB.out.cell (World.block_lt_of_cell? w _ hx290_1)).trans hx290_1
          replace p290 := eq_true p290
          replace q290 := eq_true q290
          go_wp2_with (first | ((with_reducible refine gate_dst (N := 4) rfl ?_); (try (refine gate_guard (by rfl) ?_; dsimp only)); refine box_event ?hg (N := 4) ?hd (cs := #[.int .i64 0, .int .i64 0]) (t := 34) ?hr ?_; (case hd => rfl); (case hg => rfl); (case hr => first | (go_simp; done) | (go_simp; rfl)); intro gb291 hg w10 hbox hb; have n0_ := Aside0.mk (below_step (lb HB.out) hb); have n1_ := Aside0.mk (hbox); have n2_ := Aside0.mk ((by rw [hg]; exact (below_size (lb HB.out)) : w.heap.size ≤ gb291)); have n3_ := Aside0.mk ((by rw [hg]; exact (below_size (lb HB.out)) : w.heap.size ≤ gb291)); clear HB; have HB := n0_; have BK291 := n1_; have GW291 := n2_; have GE291 := n3_; clear n0_ n1_ n2_ n3_; clear hb hbox hg; have hcz11_0 : w10.cell? ⟨gb291, 0, none⟩ = some (.int .i64 0) := (blk_cell BK291.out 0).trans rfl; have hcz11_1 : w10.cell? ⟨gb291, 1, none⟩ = some (.int .i64 0) := (blk_cell BK291.out 1).trans rfl; have hfz11_0 := blk_frozen BK291.out 0; have hfz11_1 := blk_frozen BK291.out 1) | ((with_reducible refine gate_callee (f := 35) rfl ?_); refine goesL_ (some 20) rfl rfl Try.func35 (by kernel_rfl) rfl #[.agg #[.int .i64 ((rd_T34 l0 x15_2).f0), .int .i64 ((rd_T34 l0 x15_2).f1)]] rfl al ?_; (with_reducible refine (impl_PointValid.calls ((rd_T34 l0 x15_2).f0) ((rd_T34 l0 x15_2).f1) true _ A8.out).mono ?_); rintro e w12 ⟨rfl, hb⟩; refine ⟨_, rfl, ?_⟩; have n0_ := Aside0.mk (blk_below (g := gb291) (o := .cells #[.int .i64 ((rd_T34 l0 x15_2).f0), .int .i64 ((rd_T34 l0 x15_2).f1)] 34 (0, 0)) (by (with_reducible repeat (first | refine blk_drewN ?_ _ | refine blk_drew ?_ | refine blk_alloc ?_ _)); refine blk_put (cs := #[.int .i64 ((rd_T34 l0 x15_2).f0), .int .i64 0]) ?_ 1 _ rfl; (with_reducible repeat (first | refine blk_drewN ?_ _ | refine blk_drew ?_ | refine blk_alloc ?_ _)); refine blk_put (cs := #[.int .i64 0, .int .i64 0]) ?_ 0 _ rfl; (with_reducible repeat (first | refine blk_drewN ?_ _ | refine blk_drew ?_ | refine blk_alloc ?_ _)); exact BK291.out) hb); have n1_ := Aside0.mk (below_step (lb HB.out) hb); clear BK291; clear HB; have BK291 := n0_; have HB := n1_; clear n0_ n1_; (try clear hb); (try clear hb2); (try clear hk); (try clear hi)))
          go_roundg k2
          case measure => have := HJ1.out; have := HK2.out; omega
          case rel => exact ⟨(wrap64 (x15_2 + 1)), (by first | rfl | (simp; done) | (simp [*]; done)), H', ⟨by have := HJ1.out; have := HK2.out; omega⟩, ⟨lb HB.out⟩⟩
         ·replace c9 := Bool.eq_false_iff.mpr c9
          subst c9
          have H1 : (some false) = some r := by rw [if_neg (show ¬ (false = true) by decide)] at H; exact H
          clear H
          have H := H1
          clear H1
          obtain rfl := Option.some.inj H
          have p290 : 0 ≤ (x15_2 : Int) := of_decide_eq_true (by first | (with_reducible assumption) | assumption)
          have q290 : x15_2 < (l0.length : Int) := of_decide_eq_true (by first | (with_reducible assumption) | assumption)
          obtain ⟨ad290, e290, hx290_0, hx290_1⟩ := at_T34 HR0.out x15_2 p290 q290
          cases e290
          replace hx290_0 := (HB.out.cell (World.block_lt_of_cell? w _ hx290_0)).trans hx290_0
          replace hx290_1 := (HB.out.cell (World.block_lt_of_cell? w _ hx290_1)).trans hx290_1
          replace p290 := eq_true p290
          replace q290 := eq_true q290
          go_wp2_with (first | ((with_reducible refine gate_dst (N := 4) rfl ?_); (try (refine gate_guard (by rfl) ?_; dsimp only)); refine box_event ?hg (N := 4) ?hd (cs := #[.int .i64 0, .int .i64 0]) (t := 34) ?hr ?_; (case hd => rfl); (case hg => rfl); (case hr => first | (go_simp; done) | (go_simp; rfl)); intro gb291 hg w13 hbox hb; have n0_ := Aside0.mk (below_step (lb HB.out) hb); have n1_ := Aside0.mk (hbox); have n2_ := Aside0.mk ((by rw [hg]; exact (below_size (lb HB.out)) : w.heap.size ≤ gb291)); have n3_ := Aside0.mk ((by rw [hg]; exact (below_size (lb HB.out)) : w.heap.size ≤ gb291)); clear HB; have HB := n0_; have BK291 := n1_; have GW291 := n2_; have GE291 := n3_; clear n0_ n1_ n2_ n3_; clear hb hbox hg; have hcz14_0 : w13.cell? ⟨gb291, 0, none⟩ = some (.int .i64 0) := (blk_cell BK291.out 0).trans rfl; have hcz14_1 : w13.cell? ⟨gb291, 1, none⟩ = some (.int .i64 0) := (blk_cell BK291.out 1).trans rfl; have hfz14_0 := blk_frozen BK291.out 0; have hfz14_1 := blk_frozen BK291.out 1) | ((with_reducible refine gate_callee (f := 35) rfl ?_); refine goesL_ (some 20) rfl rfl Try.func35 (by kernel_rfl) rfl #[.agg #[.int .i64 ((rd_T34 l0 x15_2).f0), .int .i64 ((rd_T34 l0 x15_2).f1)]] rfl al ?_; (with_reducible refine (impl_PointValid.calls ((rd_T34 l0 x15_2).f0) ((rd_T34 l0 x15_2).f1) false _ A8.out).mono ?_); rintro e w15 ⟨rfl, hb⟩; refine ⟨_, rfl, ?_⟩; have n0_ := Aside0.mk (blk_below (g := gb291) (o := .cells #[.int .i64 ((rd_T34 l0 x15_2).f0), .int .i64 ((rd_T34 l0 x15_2).f1)] 34 (0, 0)) (by (with_reducible repeat (first | refine blk_drewN ?_ _ | refine blk_drew ?_ | refine blk_alloc ?_ _)); refine blk_put (cs := #[.int .i64 ((rd_T34 l0 x15_2).f0), .int .i64 0]) ?_ 1 _ rfl; (with_reducible repeat (first | refine blk_drewN ?_ _ | refine blk_drew ?_ | refine blk_alloc ?_ _)); refine blk_put (cs := #[.int .i64 0, .int .i64 0]) ?_ 0 _ rfl; (with_reducible repeat (first | refine blk_drewN ?_ _ | refine blk_drew ?_ | refine blk_alloc ?_ _)); exact BK291.out) hb); have n1_ := Aside0.mk (below_step (lb HB.out) hb); clear BK291; clear HB; have BK291 := n0_; have HB := n1_; clear n0_ n1_; (try clear hb); (try clear hb2); (try clear hk); (try clear hi)))
          go_ret
          exact ⟨er, lb HB.out⟩
        ·rw [if_neg c7] at H
         exact absurd H (by simp)
       ·rw [if_neg c6] at H
        exact absurd H (by simp)
      ·rw [if_neg c5] at H
       have c5b0 : decide (x15_2 < (l0.length : Int)) = false := decide_eq_false c5
       clear c5
       obtain rfl := Option.some.inj H
       go_wp2
       go_ret
       exact ⟨er, lb HB.out⟩
def plX (l : List S34) (i : Nat) : Int := (rd_T34 l (i : Int)).f0
def plY (l : List S34) (i : Nat) : Int := (rd_T34 l (i : Int)).f1
structure Chain (W : World) (base j : Nat) (bs : Nat → Nat) (X Y : Nat → Int) : Prop where
 link : ∀ i, i < j → W.heap[bs i]? = some (.cells #[.int .i64 (X i), .int .i64 (Y i), .pointer (some ⟨bs (i + 1), 0, none⟩)] 91 (0, 0))
 last : W.heap[bs j]? = some (.cells #[.int .i64 (X j), .int .i64 (Y j), .pointer none] 91 (0, 0))
 up : ∀ i, i < j → bs i < bs (i + 1)
 base_ : base ≤ bs 0
theorem Chain.le {W : World} {base j : Nat} {bs : Nat → Nat} {X Y : Nat → Int} (h : Chain W base j bs X Y) : ∀ i, i ≤ j → bs 0 ≤ bs i ∧ bs i ≤ bs j ∧ bs 0 + i ≤ bs i := by
 have up : ∀ d i, i + d ≤ j → bs i + d ≤ bs (i + d) := by
  intro d
  induction d with
  | zero => intro i _; exact Nat.le_refl _
  | succ d ih => intro i hi; have := ih i (by omega); have := h.up (i + d) (by omega); show bs i + (d + 1) ≤ bs (i + d + 1); omega
 intro i hi
 have h1 := up i 0 (by omega)
 have h2 := up (j - i) i (by omega)
 rw [Nat.zero_add] at h1
 rw [show i + (j - i) = j by omega] at h2
 omega
theorem Chain.below {A B : World} {base j : Nat} {bs : Nat → Nat} {X Y : Nat → Int} (h : Chain A base j bs X Y) (hb : Below A.heap.size A B) : Chain B base j bs X Y :=
 ⟨fun i hi => (hb.block _ (blk_lt (h.link i hi))).trans (h.link i hi), (hb.block _ (blk_lt h.last)).trans h.last, h.up, h.base_⟩
theorem Chain.step {A : World} {base j nb : Nat} {bs : Nat → Nat} {X Y : Nat → Int} (h : Chain A base j bs X Y) (hn : A.heap[nb]? = some (.cells #[.int .i64 (X (j + 1)), .int .i64 (Y (j + 1)), .pointer none] 91 (0, 0))) (hlt : bs j < nb) :
  Chain (A.setCell ⟨bs j, 2, none⟩ (.pointer (some ⟨nb, 0, none⟩))) base (j + 1) (fun i => if i = j + 1 then nb else bs i) X Y := by
 have hle := h.le
 refine ⟨fun i hi => ?_, ?_, fun i hi => ?_, ?_⟩
 ·by_cases e : i = j
  ·subst e
   simp only [if_neg (show ¬ i = i + 1 by omega), if_true]
   exact blk_put h.last 2 _ rfl
  ·have h1 := hle i (by omega)
   have h2 := hle (i + 1) (by omega)
   have h3 := h.up i (by omega)
   simp only [if_neg (show ¬ i = j + 1 by omega), if_neg (show ¬ i + 1 = j + 1 by omega)]
   exact blk_far (p := ⟨bs j, 2, none⟩) (h.link i (by omega)) (by show bs i ≠ bs j; omega) _
 ·simp only [if_true]
  exact blk_far (p := ⟨bs j, 2, none⟩) hn (by show nb ≠ bs j; omega) _
 ·by_cases e : i = j
  ·subst e
   simp only [if_neg (show ¬ i = i + 1 by omega), if_true]; exact hlt
  ·simp only [if_neg (show ¬ i = j + 1 by omega), if_neg (show ¬ i + 1 = j + 1 by omega)]
   exact h.up i (by omega)
 ·simp only [if_neg (show ¬ 0 = j + 1 by omega)]; exact h.base_
theorem Chain.ring {A : World} {base n : Nat} {bs : Nat → Nat} {X Y : Nat → Int} (h : Chain A base n bs X Y) : Ring (A.setCell ⟨bs n, 2, none⟩ (.pointer (some ⟨bs 0, 0, none⟩))) A.heap.size (n + 1) bs X Y := by
 have hle := h.le
 refine ⟨by omega, fun i hi => ?_, fun i hi => ?_, fun i j hi hj e => ?_⟩
 ·have := hle i (by omega); have := blk_lt h.last; omega
 ·by_cases e : i = n
  ·subst e
   rw [Nat.mod_self]
   exact blk_put h.last 2 _ rfl
  ·rw [Nat.mod_eq_of_lt (by omega)]
   have h3 := h.up i (by omega)
   have h4 := hle (i + 1) (by omega)
   exact blk_far (p := ⟨bs n, 2, none⟩) (h.link i (by omega)) (by show bs i ≠ bs n; omega) _
 ·have up : ∀ d i, i + d ≤ n → bs i + d ≤ bs (i + d) := by
   intro d
   induction d with
   | zero => intro i _; exact Nat.le_refl _
   | succ d ih => intro i hi; have := ih i (by omega); have := h.up (i + d) (by omega); show bs i + (d + 1) ≤ bs (i + d + 1); omega
  by_cases hij : i ≤ j
  ·have := up (j - i) i (by omega)
   rw [show i + (j - i) = j by omega] at this; omega
  ·have := up (i - j) j (by omega)
   rw [show j + (i - j) = i by omega] at this; omega
set_option maxHeartbeats 4000000 in
theorem outlineOf_no (k : Nat) (A : Option Addr) (c : Nat) (l : List S34) (w : World) (hr0 : Kd.C k34 w A l.length l) (hc0 : l.length ≤ c) (hv : impl_cornersValid.f k l = some false) :
  Calls Try.prog 37 #[.slice A l.length c] w fun e w' => e = .returned (.tuple #[.agg #[.pointer none, .int .i64 0], .bool false]) ∧ Below w.heap.size w w' := by
 have HR := Aside0.mk hr0
 have HC := Aside0.mk hc0
 have HV := Aside0.mk hv
 have HM := Aside0.mk (Hd.nil w)
 clear hr0 hc0 hv
 go_enter Try.func37, Try.ntmps37
 go_wp2_with (first | ((with_reducible refine gate_dst (N := 2) rfl ?_); refine box_event ?hg (N := 2) ?hd (cs := #[.pointer none, .int .i64 0]) (t := 68) ?hr ?_; (case hd => rfl); (case hg => rfl); (case hr => first | (go_simp; done) | (go_simp; rfl)); intro g2 e_ w1 b_ hb; replace HM := Aside0.mk (HM.out.box hb b_ e_); clear e_ b_ hb) | (go_at_call 57; have hbel := HM.out.1; (with_reducible refine (impl_cornersValid.calls k _ _ l false _ (Kd.C_below HR.out hbel) HC.out HV.out).mono ?_); rintro e w3 ⟨rfl, hb⟩; clear hbel; replace HM := Aside0.mk (HM.out.keep hb); clear hb; have c0 : w3.cell? ⟨g2, 0, none⟩ = some (.pointer none) := blk_cell HM.out.a0 0; have c1 : w3.cell? ⟨g2, 1, none⟩ = some (.int .i64 0) := blk_cell HM.out.a0 1; have f0 := blk_frozen HM.out.a0 0; have f1 := blk_frozen HM.out.a0 1))
 have HZ := HM.out.put2 (.pointer none) (.int .i64 0)
 exact bodyPost_ret (results_ct rfl _ _ g2 68 #[.pointer none, .int .i64 0] (0, 0) _ rfl HZ.a0 Try.underlying68 rfl (by kernel_rfl)) rfl ⟨rfl, HZ.1⟩
set_option maxHeartbeats 8000000 in
set_option maxRecDepth 100000 in
theorem outlineOf_yes (k : Nat) (A : Option Addr) (c : Nat) (l : List S34) (w : World) (hr0 : Kd.C k34 w A l.length l) (hc0 : l.length ≤ c) (hv : impl_cornersValid.f k l = some true) (hl3 : 3 ≤ l.length) (hl12 : l.length ≤ 12) :
  Calls Try.prog 37 #[.slice A l.length c] w fun e w' => ∃ bs, e = .returned (.tuple #[.agg #[.pointer (some ⟨bs 0, 0, none⟩), .int .i64 (l.length : Int)], .bool true]) ∧ Ring w' w'.heap.size l.length bs (plX l) (plY l) ∧ Below w.heap.size w w' := by
 have HR := Aside0.mk hr0
 have HC := Aside0.mk hc0
 have HV := Aside0.mk hv
 have HM := Aside0.mk (Hd.nil w)
 obtain ⟨ad, eA, x0, y0⟩ := at_T34 hr0 0 (by omega) (by omega)
 subst eA
 have HX : Aside0 (w.cell? ad = some (.int .i64 (plX l 0))) := ⟨by simpa [plX, Addr.add] using x0⟩
 have HY : Aside0 (w.cell? ⟨ad.block, ad.off + 1, none⟩ = some (.int .i64 (plY l 0))) := ⟨by simpa [plY, Addr.add] using y0⟩
 clear hr0 hv x0 y0
 go_enter Try.func37, Try.ntmps37
 go_wp2_with (first | ((with_reducible refine gate_dst (N := 2) rfl ?_); refine box_event ?hg (N := 2) ?hd (cs := #[.pointer none, .int .i64 0]) (t := 68) ?hr ?_; (case hd => rfl); (case hg => rfl); (case hr => first | (go_simp; done) | (go_simp; rfl)); intro g2 e_ w1 b_ hb; replace HM := Aside0.mk (HM.out.box hb b_ e_); clear e_ b_ hb) | (go_at_call 57; have hbel := HM.out.1; (with_reducible refine (impl_cornersValid.calls k _ _ l true _ (Kd.C_below HR.out hbel) HC.out HV.out).mono ?_); rintro e w3 ⟨rfl, hb⟩; clear hbel; replace HM := Aside0.mk (HM.out.keep hb); clear hb; have x0 := (HM.out.1.cell (World.block_lt_of_cell? w _ HX.out)).trans HX.out; have y0 := (HM.out.1.cell (World.block_lt_of_cell? w _ HY.out)).trans HY.out) | ((with_reducible refine gate_dst (N := 16) rfl ?_); refine box_event ?hg (N := 16) ?hd (cs := #[.int .i64 (plX l 0), .int .i64 (plY l 0), .pointer none]) (t := 91) ?hr ?_; (case hd => rfl); (case hg => rfl); (case hr => first | (go_simp; done) | (go_simp; rfl)); intro b0 e_ w4 b_ hb; replace HM := Aside0.mk (HM.out.box hb b_ e_); clear e_ b_ hb x0 y0))
 have hg0 := HM.out.below (e := (g2, #[.pointer none, .int .i64 0], 68)) (by simp)
 have hgw := (HM.out.2.1 (g2, #[.pointer none, .int .i64 0], 68) (by simp)).1
 have HC0 : Chain w4 (g2 + 1) 0 (fun _ => b0) (plX l) (plY l) := ⟨fun i hi => by omega, HM.out.a0, fun i hi => by omega, by simp only [] at hg0; omega⟩
 have HG0 := HM.out.a1
 have HB0 := HM.out.1
 simp only [] at hgw
 clear HM hg0
 have hcl := HC.out
 go_loopg [5, 21] (l.length - 1) (fun kq v5 v21 wr => ∃ (j : Nat) (bs : Nat → Nat), v5 = .pointer (some ⟨bs j, 0, none⟩) ∧ v21 = .int .i64 (j : Int) ∧ Aside0 (bs 0 = b0) ∧ Aside0 (j + kq = l.length - 1) ∧ Aside0 (Chain wr (g2 + 1) j bs (plX l) (plY l)) ∧ Aside0 (wr.heap[g2]? = some (.cells #[.pointer none, .int .i64 0] 68 (0, 0))) ∧ Aside0 (Below w.heap.size w wr))
 case atStart => exact ⟨0, fun _ => b0, rfl, rfl, ⟨rfl⟩, ⟨by omega⟩, ⟨HC0⟩, ⟨HG0⟩, ⟨HB0⟩⟩
 case round =>
  clear HC0 HG0 HB0
  obtain ⟨j, bs, rfl, rfl, HB00, HJ, HCH, HG, HB⟩ := hrel
  have hj := HJ.out
  by_cases hlt : j < l.length - 1
  ·cases gk with
   | zero => exfalso; omega
   | succ gk =>
    obtain ⟨ad', e', x1, y1⟩ := at_T34 HR.out ((j + 1 : Nat) : Int) (by omega) (by omega)
    cases e'
    rw [Int.toNat_natCast, show (j + 1) * 2 = (j * 2 + 1) + 1 by omega] at x1 y1
    have x2 : w.cell? ⟨ad.block, ad.off + 2 + j * 2, none⟩ = some (.int .i64 (plX l (j + 1))) := by
     rw [show ad.off + 2 + j * 2 = ad.off + (j * 2 + 1 + 1) by omega]; exact x1
    have y2 : w.cell? ⟨ad.block, ad.off + 2 + j * 2 + 1, none⟩ = some (.int .i64 (plY l (j + 1))) := by
     rw [show ad.off + 2 + j * 2 = ad.off + (j * 2 + 1 + 1) by omega]; exact y1
    replace x2 := (HB.out.cell (World.block_lt_of_cell? w _ x2)).trans x2
    replace y2 := (HB.out.cell (World.block_lt_of_cell? w _ y2)).trans y2
    clear x1 y1
    have hd1 : decide ((j : Int) < ((l.length - 1 : Nat) : Int)) = true := decide_eq_true (by omega)
    have hd2 : ((j : Int) < ((l.length - 1 : Nat) : Int)) = True := eq_true (by omega)
    have hd3 : ((0 : Int) ≤ (j : Int)) = True := eq_true (by omega)
    have hwr : IntKind.i64.wrap ((j : Int) + 1) = ((j + 1 : Nat) : Int) := by rw [IntKind.wrap_i64]; push_cast; omega
    have HM := Aside0.mk (Hd.nil wr)
    go_wp2_with (first | ((with_reducible refine gate_dst (N := 7) rfl ?_); refine box_event ?hg (N := 7) ?hd (cs := #[.int .i64 0, .int .i64 0]) (t := 34) ?hr ?_; (case hd => rfl); (case hg => rfl); (case hr => first | (go_simp; done) | (go_simp; rfl)); intro gp e_ w5 b_ hb; replace HM := Aside0.mk (HM.out.box hb b_ e_); clear e_ b_; replace x2 := (hb.cell (World.block_lt_of_cell? wr _ x2)).trans x2; replace y2 := (hb.cell (World.block_lt_of_cell? wr _ y2)).trans y2; clear hb; have p0 : w5.cell? ⟨gp, 0, none⟩ = some (.int .i64 0) := blk_cell HM.out.a0 0; have p1 : w5.cell? ⟨gp, 1, none⟩ = some (.int .i64 0) := blk_cell HM.out.a0 1; have f0 := blk_frozen HM.out.a0 0; have f1 := blk_frozen HM.out.a0 1) | ((with_reducible refine gate_dst (N := 28) rfl ?_); refine box_event ?hg (N := 28) ?hd (cs := #[.int .i64 (plX l (j + 1)), .int .i64 (plY l (j + 1)), .pointer none]) (t := 91) ?hr ?_; (case hd => rfl); (case hg => rfl); (case hr => first | (go_simp; done) | (go_simp; rfl)); intro nb e_ w6 b_ hb; have HM2 := Aside0.mk ((HM.out.put2 (.int .i64 (plX l (j + 1))) (.int .i64 (plY l (j + 1)))).box hb b_ e_); clear e_ b_ hb; have HC6 := Aside0.mk (HCH.out.below HM2.out.1); have k2 : w6.cell? ⟨bs j, 2, none⟩ = some (.pointer none) := blk_cell HC6.out.last 2; have kf := blk_frozen HC6.out.last 2; have k3 : (w6.setCell ⟨bs j, 2, none⟩ (.pointer (some ⟨nb, 0, none⟩))).cell? ⟨bs j, 2, none⟩ = some (.pointer (some ⟨nb, 0, none⟩)) := blk_cell (blk_put HC6.out.last 2 _ rfl) 2))
    have hle := HCH.out.le j (Nat.le_refl _)
    have hbase := HCH.out.base_
    have hlt6 := blk_lt HCH.out.last
    have hnb := (HM2.out.2.1 (nb, #[.int .i64 (plX l (j + 1)), .int .i64 (plY l (j + 1)), .pointer none], 91) (by simp)).1
    simp only [] at hnb
    go_roundg gk
    case measure => omega
    case rel =>
     refine ⟨j + 1, fun i => if i = j + 1 then nb else bs i, by simp, by first | rfl | rw [hwr], ⟨by simp only [if_neg (show ¬ 0 = j + 1 by omega)]; exact HB00.out⟩, ⟨by omega⟩, ⟨HC6.out.step HM2.out.a0 (by omega)⟩, ⟨?_⟩, ⟨?_⟩⟩
     ·exact blk_far (p := ⟨bs j, 2, none⟩) ((HM2.out.1.block g2 (blk_lt HG.out)).trans HG.out) (by show g2 ≠ bs j; omega) _
     ·exact (HB.out.trans (HM2.out.1.mono HB.out.size)).setCell (p := ⟨bs j, 2, none⟩) (by show w.heap.size ≤ bs j; omega) _
  ·have hjn : j + 1 = l.length := by omega
   have hd1 : decide ((j : Int) < ((l.length - 1 : Nat) : Int)) = false := decide_eq_false (by omega)
   have hle := HCH.out.le j (Nat.le_refl _)
   have hle0 := HCH.out.le
   have hbase := HCH.out.base_
   have HRG := Aside0.mk HCH.out.ring
   rw [HB00.out, hjn] at HRG
   have k2 : wr.cell? ⟨bs j, 2, none⟩ = some (.pointer none) := blk_cell HCH.out.last 2
   have kf := blk_frozen HCH.out.last 2
   have hgx := blk_far (p := ⟨bs j, 2, none⟩) HG.out (by show g2 ≠ bs j; omega) (.pointer (some ⟨b0, 0, none⟩))
   have c0 : (wr.setCell ⟨bs j, 2, none⟩ (.pointer (some ⟨b0, 0, none⟩))).cell? ⟨g2, 0, none⟩ = some (.pointer none) := blk_cell hgx 0
   have c1 : (wr.setCell ⟨bs j, 2, none⟩ (.pointer (some ⟨b0, 0, none⟩))).cell? ⟨g2, 1, none⟩ = some (.int .i64 0) := blk_cell hgx 1
   have f0 := blk_frozen hgx 0
   have f1 := blk_frozen hgx 1
   have HGX := Aside0.mk hgx
   clear hgx
   go_wp2_with fail
   have hg3 := blk_put (blk_put HGX.out 0 (.pointer (some ⟨b0, 0, none⟩)) rfl) 1 (.int .i64 (l.length : Int)) rfl
   refine bodyPost_ret (results_ct rfl _ _ g2 68 #[.pointer (some ⟨b0, 0, none⟩), .int .i64 (l.length : Int)] (0, 0) _ rfl hg3 Try.underlying68 rfl (by kernel_rfl)) rfl ⟨bs, ?_, ?_, ?_⟩
   ·rw [HB00.out]; rfl
   ·have h1 := (HRG.out.far (g := g2) (fun i hi => by have := hle0 i (by omega); omega) 0 (.pointer (some ⟨b0, 0, none⟩))).far (g := g2) (fun i hi => by have := hle0 i (by omega); omega) 1 (.int .i64 (l.length : Int))
    simpa [World.setCell] using h1
   ·exact ((HB.out.setCell (p := ⟨bs j, 2, none⟩) (by show w.heap.size ≤ bs j; omega) _).setCell (p := ⟨g2, 0, none⟩) hgw _).setCell (p := ⟨g2, 1, none⟩) hgw _
def vdB (l : List S34) : Bool := decide (3 ≤ l.length) && (decide (l.length ≤ 12) && (List.range l.length).all fun i => inR (plX l i) (plY l i) 10000)
theorem vdB_iff {l : List S34} : vdB l = true ↔ 3 ≤ l.length ∧ l.length ≤ 12 ∧ ∀ i, i < l.length → inR (plX l i) (plY l i) 10000 = true := by
 unfold vdB
 rw [Bool.and_eq_true, Bool.and_eq_true, decide_eq_true_iff, decide_eq_true_iff, List.all_eq_true]
 simp only [List.mem_range]
theorem vd_loop (l : List S34) (h12 : l.length ≤ 12) : ∀ m i : Nat, i + m = l.length → impl_cornersValid.l0 (m + 1) l (l.length : Int) (i : Int) = some ((List.range' i m).all fun i => inR (plX l i) (plY l i) 10000) := by
 intro m
 induction m with
 | zero => intro i hi; simp only [impl_cornersValid.l0]; rw [if_neg (by omega)]; rfl
 | succ m ih =>
  intro i hi
  rw [impl_cornersValid.l0, if_pos (by omega), if_pos (by omega), if_pos (by omega), List.range'_succ, List.all_cons]
  unfold impl_PointValid.f
  rw [Option.bind_some]
  have e : wrap64 ((i : Int) + 1) = ((i + 1 : Nat) : Int) := by unfold wrap64; omega
  rw [e]
  cases hv : inR (plX l i) (plY l i) 10000 with
  | false =>
   have hv' : inR (rd_T34 l (i : Int)).f0 (rd_T34 l (i : Int)).f1 10000 = false := hv
   rw [hv', if_neg (by simp), Bool.false_and]
  | true =>
   have hv' : inR (rd_T34 l (i : Int)).f0 (rd_T34 l (i : Int)).f1 10000 = true := hv
   rw [hv', if_pos rfl, Bool.true_and]
   exact ih (i + 1) (by omega)
theorem vd_f (l : List S34) : ∃ k, impl_cornersValid.f k l = some (vdB l) := by
 unfold impl_cornersValid.f vdB
 by_cases h3 : l.length < 3
 ·exact ⟨1, by rw [if_pos (by omega), impl_cornersValid.j0, if_pos rfl, decide_eq_false (by omega)]; rfl⟩
 ·by_cases h12 : l.length > 12
  ·exact ⟨1, by rw [if_neg (by omega), impl_cornersValid.j0, decide_eq_true (by omega), if_pos rfl, decide_eq_true (by omega), decide_eq_false (by omega)]; rfl⟩
  ·exact ⟨l.length + 1 + 1, by
    rw [if_neg (by omega), impl_cornersValid.j0, decide_eq_false (by omega), if_neg (by simp), decide_eq_true (by omega), decide_eq_true (by omega), Bool.true_and, Bool.true_and, List.range_eq_range']
    exact vd_loop l (by omega) l.length 0 (by omega)⟩
def arN (X Y : Nat → Int) (n : Nat) : Nat → Int
 | 0 => 0
 | i + 1 => wrap64 (arN X Y n i + crI (X i) (Y i) (X ((i + 1) % n)) (Y ((i + 1) % n)))
def plArea.T : Bool × List (List Nat × List Nat) := (true,[([],[]),([],[]),([1],[1]),([2],[2]),([3],[3]),([4],[4]),([],[]),([6],[6]),([7],[7]),([8],[8]),([9],[9]),([10],[10]),([11],[11]),([12,5],[12]),([5,13,13],[5,13]),([0,14],[0,14]),([15,14,0,1,2,3,4,5,6,7,8,9,10,11,12,13,14,15],[15])])
def plArea.B : List Nat := [0,0,2,6,14,30,0,64,192,448,960,1984,4032,8190,16382,32767,65535]
theorem plArea.tab : rtab .any (opsOf Try.f38 4) = plArea.T := by kernel_rfl
theorem plArea.bits : waitsOk plArea.T.2 plArea.B = true := by kernel_rfl
theorem plArea.both : rtab .any (opsOf Try.f38 4) = plArea.T ∧ waitsOk plArea.T.2 plArea.B = true := ⟨plArea.tab, plArea.bits⟩
set_option maxHeartbeats 4000000 in
set_option maxRecDepth 100000 in
theorem area_calls (n : Nat) (bs : Nat → Nat) (X Y : Nat → Int) (w : World) (hn : n ≤ 1000) (hR : Ring w w.heap.size n bs X Y) :
  Calls Try.prog 38 #[.agg #[.pointer (some ⟨bs 0, 0, none⟩), .int .i64 (n : Int)]] w fun e w' => e = .returned (.int .i64 (arN X Y n n)) ∧ Below w.heap.size w w' := by
 have HR := Aside0.mk hR
 have HM := Aside0.mk (Hd.nil w)
 have hpos := hR.pos
 clear hR
 refine pl_enter Try.func38 rfl ?_
 simp only [Try.ntmps38, List.size_toArray, List.length_cons, List.length_nil, Nat.reduceAdd, Nat.reduceSub, Array.replicate_succ, Array.replicate_zero, List.push_toArray, List.append_toArray, List.nil_append, List.cons_append]
 go_upto_region 2 with ((with_reducible refine gate_dst (N := 1) rfl ?_); refine box_event ?hg (N := 1) ?hd (cs := #[.pointer (some ⟨bs 0, 0, none⟩), .int .i64 (n : Int)]) (t := 68) ?hr ?_; (case hd => rfl); (case hg => rfl); (case hr => first | (go_simp; done) | (go_simp; rfl)); intro g1 e_ w1 b_ hb; replace HM := Aside0.mk (HM.out.box hb b_ e_); clear e_ b_ hb)
 replace HM := Aside0.mk (HM.out.alloc #[.int .i64 0] 3)
 generalize w1.alloc (.cells #[.int .i64 0] 3) = w2 at *
 generalize w1.heap.size = gs at *
 have c0 : w2.cell? ⟨g1, 0, none⟩ = some (.pointer (some ⟨bs 0, 0, none⟩)) := blk_cell HM.out.a1 0
 have c1 : w2.cell? ⟨g1, 1, none⟩ = some (.int .i64 (n : Int)) := blk_cell HM.out.a1 1
 go_wp2_with fail
 clear c0 c1
 have hgs : w.heap.size ≤ gs := (HM.out.2.1 (gs, #[.int .i64 0], 3) (by simp)).1
 have hgs2 : gs < w2.heap.size := blk_lt HM.out.a0
 have hw2 := HM.out.1.size
 have hR2 := HR.out.below HM.out.1
 refine pl_range (gf := 58) rfl (fun args w => enters_ Try.func58 (by kernel_rfl) rfl args w) w.heap.size n hw2 _ (corners_walks w.heap.size n bs X Y w2 hn hw2 hR2) (fun i W => W.heap[gs]? = some (.cells #[.int .i64 (arN X Y n i)] 3 (0, 0)) ∧ Below w.heap.size w W) (fun _ _ => False) (OwnFrom.and (own_block (fun _ => rfl)) (ownFrom_below (Nat.le_refl _) hw2)) (fun _ _ _ _ h _ _ => h) ⟨HM.out.a0, HM.out.1⟩ (fun i => { tmps := #[.agg #[.pointer (some ⟨bs 0, 0, none⟩), .int .i64 (n : Int)], .pointer (some ⟨g1, 0, none⟩), .int .i64 0, .pointer (some ⟨gs, 0, none⟩), .pointer (some ⟨bs i, 0, none⟩), .agg #[.pointer (some ⟨bs 0, 0, none⟩), .int .i64 (n : Int)], .func (.func 58) #[.agg #[.pointer (some ⟨bs 0, 0, none⟩), .int .i64 (n : Int)]] #[], .pointer (some ⟨bs i, 0, none⟩), undef, undef, undef, undef, undef, undef, undef, undef, undef, undef, undef, undef, undef, undef, undef, undef, undef], defers := [] }) ?_ ?_ ?_ ?_
 ·intro l i W K hK
  exact pl_assign hK
 ·rintro l i W hi ⟨hS, hB⟩
  have hi1 : (i + 1) % n < n := Nat.mod_lt _ hpos
  have HRW := Aside0.mk (HR.out.below hB)
  have HK : Aside0 (Rd w W W w2.heap.size gs (.cells #[.int .i64 (arN X Y n i)] 3 (0, 0))) := ⟨⟨hS, hB, Below.refl _ _, KeepsFrom.refl _ _⟩⟩
  have HA : Aside0 (arN X Y n (i + 1) = wrap64 (arN X Y n i + crI (X i) (Y i) (X ((i + 1) % n)) (Y ((i + 1) % n)))) := ⟨rfl⟩
  have HPO := Aside0.mk (plPost_no w2.heap.size w.heap.size (fun i W => W.heap[gs]? = some (.cells #[.int .i64 (arN X Y n i)] 3 (0, 0)) ∧ Below w.heap.size w W) (fun _ _ => False) i W)
  generalize arN X Y n i = sm at HK HA
  have hWs := hB.size
  clear hS hB HM hR2
  refine wpIn_block ?_
  replace HK := Aside0.mk HK.out.drew
  replace HRW := Aside0.mk (HRW.out.below ((below_drew1 (Below.refl _ W)).mono hWs))
  refine pl_start (S := fun w' => w'.cell? ⟨bs i, 0, none⟩ = some (.int .i64 (X i)) ∧ w'.cell? ⟨bs i, 1, none⟩ = some (.int .i64 (Y i)) ∧ w'.cell? ⟨bs i, 2, none⟩ = some (.pointer (some ⟨bs ((i + 1) % n), 0, none⟩)) ∧ w'.cell? ⟨bs ((i + 1) % n), 0, none⟩ = some (.int .i64 (X ((i + 1) % n))) ∧ w'.cell? ⟨bs ((i + 1) % n), 1, none⟩ = some (.int .i64 (Y ((i + 1) % n))) ∧ w'.cell? ⟨gs, 0, none⟩ = some (.int .i64 sm)) (ds := [16]) #[false,false,false,false,false,false,false,false,false,false,false,false,false,false,false,false,false] (by kernel_rfl) (noDefer_all (by kernel_rfl)) (pl_no_block _ HPO.out) rfl rfl ⟨(blk_cell (HRW.out.cell i hi) 0).trans rfl, (blk_cell (HRW.out.cell i hi) 1).trans rfl, (blk_cell (HRW.out.cell i hi) 2).trans rfl, (blk_cell (HRW.out.cell _ hi1) 0).trans rfl, (blk_cell (HRW.out.cell _ hi1) 1).trans rfl, (blk_cell HK.out.1 0).trans rfl⟩ (fun hHeld => ?_)
  refine with_tabW plArea.both.1 plArea.both.2 (fun HT_ HW_ => ?_)
  generalize hwd : W.drew = wd at HK HRW hHeld ⊢
  clear hwd
  refine pure_ (i := 1) (N := some 9) (v := ?_) (a' := ?_) #[false,true,false,false,false,false,false,false,false,false,false,false,false,false,false,false,false] rfl rfl (any_of HT_.out (by kernel_rfl)) (fun _ _ _ h => h) (Or.inl ⟨by rfl, ?_⟩) ?_ ?_
  rotate_left
  ·intro w'
   go_simp
   with_reducible rfl
  rotate_left
  ·simp only [Act.put, List.setIfInBounds_toArray, List.set_cons_zero, List.set_cons_succ, i64_w, i32_w]
   rfl
  refine pure_ (i := 2) (N := some 10) (v := ?_) (a' := ?_) #[false,true,true,false,false,false,false,false,false,false,false,false,false,false,false,false,false] rfl rfl (any_of HT_.out (by kernel_rfl)) (fun _ _ _ h => h) (Or.inl ⟨by rfl, ?_⟩) ?_ ?_
  rotate_left
  ·intro w'
   go_simp
   with_reducible rfl
  rotate_left
  ·simp only [Act.put, List.setIfInBounds_toArray, List.set_cons_zero, List.set_cons_succ, i64_w, i32_w]
   rfl
  refine pure_ (i := 3) (N := some 11) (v := ?_) (a' := ?_) #[false,true,true,true,false,false,false,false,false,false,false,false,false,false,false,false,false] rfl rfl (any_of HT_.out (by kernel_rfl)) (fun _ _ _ h => h) (Or.inl ⟨by rfl, ?_⟩) ?_ ?_
  rotate_left
  ·intro w'
   go_simp
   with_reducible rfl
  rotate_left
  ·simp only [Act.put, List.setIfInBounds_toArray, List.set_cons_zero, List.set_cons_succ, i64_w, i32_w]
   rfl
  refine take_ (i := 4) (N := some 12) (v := ?_) (a' := ?_) #[false,true,true,true,true,false,false,false,false,false,false,false,false,false,false,false,false] rfl rfl (take_ofW HT_.out HW_.out (by kernel_rfl)) (fun _ _ _ h => h) (Or.inl ⟨by rfl, ?_⟩) hHeld ?_ ?_
  rotate_left
  ·rintro w' ⟨s0, s1, s2, s3, s4, s5⟩
   go_simp
   with_reducible rfl
  rotate_left
  ·simp only [Act.put, List.setIfInBounds_toArray, List.set_cons_zero, List.set_cons_succ, i64_w, i32_w]
   rfl
  refine take_ (i := 0) (N := some 8) (v := ?_) (a' := ?_) #[true,true,true,true,true,false,false,false,false,false,false,false,false,false,false,false,false] rfl rfl (take_ofW HT_.out HW_.out (by kernel_rfl)) (fun _ _ _ h => h) (Or.inl ⟨by rfl, ?_⟩) hHeld ?_ ?_
  rotate_left
  ·rintro w' ⟨s0, s1, s2, s3, s4, s5⟩
   go_simp
   with_reducible rfl
  rotate_left
  ·simp only [Act.put, List.setIfInBounds_toArray, List.set_cons_zero, List.set_cons_succ, i64_w, i32_w]
   rfl
  refine pure_ (i := 6) (N := some 14) (v := ?_) (a' := ?_) #[true,true,true,true,true,false,true,false,false,false,false,false,false,false,false,false,false] rfl rfl (any_of HT_.out (by kernel_rfl)) (fun _ _ _ h => h) (Or.inl ⟨by rfl, ?_⟩) ?_ ?_
  rotate_left
  ·intro w'
   go_simp
   with_reducible rfl
  rotate_left
  ·simp only [Act.put, List.setIfInBounds_toArray, List.set_cons_zero, List.set_cons_succ, i64_w, i32_w]
   rfl
  refine pure_ (i := 7) (N := some 15) (v := ?_) (a' := ?_) #[true,true,true,true,true,false,true,true,false,false,false,false,false,false,false,false,false] rfl rfl (any_of HT_.out (by kernel_rfl)) (fun _ _ _ h => h) (Or.inl ⟨by rfl, ?_⟩) ?_ ?_
  rotate_left
  ·intro w'
   go_simp
   with_reducible rfl
  rotate_left
  ·simp only [Act.put, List.setIfInBounds_toArray, List.set_cons_zero, List.set_cons_succ, i64_w, i32_w]
   rfl
  refine pure_ (i := 8) (N := some 16) (v := ?_) (a' := ?_) #[true,true,true,true,true,false,true,true,true,false,false,false,false,false,false,false,false] rfl rfl (any_of HT_.out (by kernel_rfl)) (fun _ _ _ h => h) (Or.inl ⟨by rfl, ?_⟩) ?_ ?_
  rotate_left
  ·intro w'
   go_simp
   with_reducible rfl
  rotate_left
  ·simp only [Act.put, List.setIfInBounds_toArray, List.set_cons_zero, List.set_cons_succ, i64_w, i32_w]
   rfl
  refine take_ (i := 9) (N := some 17) (v := ?_) (a' := ?_) #[true,true,true,true,true,false,true,true,true,true,false,false,false,false,false,false,false] rfl rfl (take_ofW HT_.out HW_.out (by kernel_rfl)) (fun _ _ _ h => h) (Or.inl ⟨by rfl, ?_⟩) hHeld ?_ ?_
  rotate_left
  ·rintro w' ⟨s0, s1, s2, s3, s4, s5⟩
   go_simp
   with_reducible rfl
  rotate_left
  ·simp only [Act.put, List.setIfInBounds_toArray, List.set_cons_zero, List.set_cons_succ, i64_w, i32_w]
   rfl
  refine pure_ (i := 10) (N := some 18) (v := ?_) (a' := ?_) #[true,true,true,true,true,false,true,true,true,true,true,false,false,false,false,false,false] rfl rfl (any_of HT_.out (by kernel_rfl)) (fun _ _ _ h => h) (Or.inl ⟨by rfl, ?_⟩) ?_ ?_
  rotate_left
  ·intro w'
   go_simp
   with_reducible rfl
  rotate_left
  ·simp only [Act.put, List.setIfInBounds_toArray, List.set_cons_zero, List.set_cons_succ, i64_w, i32_w]
   rfl
  refine pure_ (i := 11) (N := some 19) (v := ?_) (a' := ?_) #[true,true,true,true,true,false,true,true,true,true,true,true,false,false,false,false,false] rfl rfl (any_of HT_.out (by kernel_rfl)) (fun _ _ _ h => h) (Or.inl ⟨by rfl, ?_⟩) ?_ ?_
  rotate_left
  ·intro w'
   go_simp
   with_reducible rfl
  rotate_left
  ·simp only [Act.put, List.setIfInBounds_toArray, List.set_cons_zero, List.set_cons_succ, i64_w, i32_w]
   rfl
  refine take_ (i := 12) (N := some 20) (v := ?_) (a' := ?_) #[true,true,true,true,true,false,true,true,true,true,true,true,true,false,false,false,false] rfl rfl (take_ofW HT_.out HW_.out (by kernel_rfl)) (fun _ _ _ h => h) (Or.inl ⟨by rfl, ?_⟩) hHeld ?_ ?_
  rotate_left
  ·rintro w' ⟨s0, s1, s2, s3, s4, s5⟩
   go_simp
   with_reducible rfl
  rotate_left
  ·simp only [Act.put, List.setIfInBounds_toArray, List.set_cons_zero, List.set_cons_succ, i64_w, i32_w]
   rfl
  refine one_ (i := 5) (N := some 13) #[true,true,true,true,true,true,true,true,true,true,true,true,true,false,false,false,false] rfl rfl (one_of HT_.out (by kernel_rfl)) (by decide) (fun K hK => ?_)
  refine goes_ Try.func53 (by kernel_rfl) rfl #[.agg #[.int .i64 (X i), .int .i64 (Y i)]] (by rfl) rfl rfl al ?_
  with_reducible refine (pairOf_calls (X i) (Y i) _).mono ?_
  rintro e w_ ⟨rfl, hb⟩
  refine ⟨_, rfl, ?_⟩
  replace HRW := Aside0.mk (HRW.out.below (hb.mono HK.out.2.1.size))
  replace HK := Aside0.mk (HK.out.keep hb)
  clear hb
  refine hK.out _ _ ⟨(blk_cell (HRW.out.cell i hi) 0).trans rfl, (blk_cell (HRW.out.cell i hi) 1).trans rfl, (blk_cell (HRW.out.cell i hi) 2).trans rfl, (blk_cell (HRW.out.cell _ hi1) 0).trans rfl, (blk_cell (HRW.out.cell _ hi1) 1).trans rfl, (blk_cell HK.out.1 0).trans rfl⟩ (fun hHeld => ?_)
  clear hK K
  refine norm_ (a' := ?_) ?_ ?_
  rotate_left
  ·show Act.put _ (some 13) _ = _
   simp only [Act.put, List.setIfInBounds_toArray, List.set_cons_zero, List.set_cons_succ, i64_w, i32_w]
   rfl
  refine one_ (i := 13) (N := some 21) #[true,true,true,true,true,true,true,true,true,true,true,true,true,true,false,false,false] rfl rfl (one_of HT_.out (by kernel_rfl)) (by decide) (fun K hK => ?_)
  refine goes_ Try.func53 (by kernel_rfl) rfl #[.agg #[.int .i64 (X ((i + 1) % n)), .int .i64 (Y ((i + 1) % n))]] (by rfl) rfl rfl al ?_
  with_reducible refine (pairOf_calls (X ((i + 1) % n)) (Y ((i + 1) % n)) _).mono ?_
  rintro e w_ ⟨rfl, hb⟩
  refine ⟨_, rfl, ?_⟩
  replace HRW := Aside0.mk (HRW.out.below (hb.mono HK.out.2.1.size))
  replace HK := Aside0.mk (HK.out.keep hb)
  clear hb
  refine hK.out _ _ ⟨(blk_cell (HRW.out.cell i hi) 0).trans rfl, (blk_cell (HRW.out.cell i hi) 1).trans rfl, (blk_cell (HRW.out.cell i hi) 2).trans rfl, (blk_cell (HRW.out.cell _ hi1) 0).trans rfl, (blk_cell (HRW.out.cell _ hi1) 1).trans rfl, (blk_cell HK.out.1 0).trans rfl⟩ (fun hHeld => ?_)
  clear hK K
  refine norm_ (a' := ?_) ?_ ?_
  rotate_left
  ·show Act.put _ (some 21) _ = _
   simp only [Act.put, List.setIfInBounds_toArray, List.set_cons_zero, List.set_cons_succ, i64_w, i32_w]
   rfl
  refine one_ (i := 14) (N := some 22) #[true,true,true,true,true,true,true,true,true,true,true,true,true,true,true,false,false] rfl rfl (one_of HT_.out (by kernel_rfl)) (by decide) (fun K hK => ?_)
  refine goes_ Try.func59 (by kernel_rfl) rfl #[.agg #[.int .i64 (X i), .int .i64 (Y i)], .agg #[.int .i64 (X ((i + 1) % n)), .int .i64 (Y ((i + 1) % n))]] (by rfl) rfl rfl al ?_
  with_reducible refine (pairCross_calls (X i) (Y i) (X ((i + 1) % n)) (Y ((i + 1) % n)) _).mono ?_
  rintro e w_ ⟨rfl, hb⟩
  refine ⟨_, rfl, ?_⟩
  replace HRW := Aside0.mk (HRW.out.below (hb.mono HK.out.2.1.size))
  replace HK := Aside0.mk (HK.out.keep hb)
  clear hb
  refine hK.out _ _ ⟨(blk_cell (HRW.out.cell i hi) 0).trans rfl, (blk_cell (HRW.out.cell i hi) 1).trans rfl, (blk_cell (HRW.out.cell i hi) 2).trans rfl, (blk_cell (HRW.out.cell _ hi1) 0).trans rfl, (blk_cell (HRW.out.cell _ hi1) 1).trans rfl, (blk_cell HK.out.1 0).trans rfl⟩ (fun hHeld => ?_)
  clear hK K
  refine norm_ (a' := ?_) ?_ ?_
  rotate_left
  ·show Act.put _ (some 22) _ = _
   simp only [Act.put, List.setIfInBounds_toArray, List.set_cons_zero, List.set_cons_succ, i64_w, i32_w]
   rfl
  refine pure_ (i := 15) (N := some 23) (v := ?_) (a' := ?_) #[true,true,true,true,true,true,true,true,true,true,true,true,true,true,true,true,false] rfl rfl (any_of HT_.out (by kernel_rfl)) (fun _ _ _ h => h) (Or.inl ⟨by rfl, ?_⟩) ?_ ?_
  rotate_left
  ·intro w'
   go_simp
   with_reducible rfl
  rotate_left
  ·simp only [Act.put, List.setIfInBounds_toArray, List.set_cons_zero, List.set_cons_succ, i64_w, i32_w]
   rfl
  refine last_ (i := 16) (N := none) #[true,true,true,true,true,true,true,true,true,true,true,true,true,true,true,true,true] rfl rfl (one_of HT_.out (by kernel_rfl)) (by decide) (fun K hK => ?_)
  refine skip_ (w1 := ?_) (by rfl) rfl ?_ ?_
  rotate_left
  ·have hc3 := blk_cell HK.out.1 0
   have hf3 := blk_frozen HK.out.1 0
   go_simp
   rfl
  refine hK.out _ _ ?_
  clear hK K
  refine done_ (done_of HT_.out (by kernel_rfl)) ?_
  have HK2 := HK.out.put hgs 0 (.int .i64 (arN X Y n (i + 1))) rfl
  have he := HA.out
  simp only [crI] at he
  rw [he] at HK2
  refine ⟨HK2.2.2.2, HK2.2.2.1, ?_, HK2.2.1⟩
  simp only [he]
  exact HK2.1
 ·rintro D W hD ⟨hS, hB⟩ hdef
  have s0 : W.cell? ⟨gs, 0, none⟩ = some (.int .i64 (arN X Y n n)) := (blk_cell hS 0).trans rfl
  go_wp2_with fail
  refine pl_leave hdef ?_
  refine ⟨_, ?_, rfl, hB.trans (belowK_b (w := w) (Nat.le_refl _) W D _ _ (Nat.le_trans hw2 hD) hdef rfl rfl)⟩
  simp [results, (rfl : Try.f38.results = #[.tmp 2])]
 ·intro D i W _ _ h; exact h.elim
def impl_PolyArea.v (l0 : List (S34)) : Int × Bool := if vdB l0 = true then (arN (plX l0) (plY l0) l0.length l0.length, true) else (0, false)
def impl_PolyArea.f (l0 : List (S34)) : Option (Int × Bool) := some (impl_PolyArea.v l0)
set_option maxHeartbeats 4000000 in
theorem impl_PolyArea.calls (A0 : Option Addr) (c0 : Nat) (l0 : List (S34)) (r1 : Int) (r2 : Bool) (w : World) (hr0 : Kd.C k34 w A0 l0.length l0) (hc0 : l0.length ≤ c0) (h : impl_PolyArea.f l0 = some (r1, r2)) :
  Calls Try.prog 18 #[.slice A0 l0.length c0] w fun e w' => e = .returned (.tuple #[.int .i64 r1, .bool r2]) ∧ Below w.heap.size w w' := by
 have HR := Aside0.mk hr0
 have HC := Aside0.mk hc0
 have HM := Aside0.mk (Hd.nil w)
 have h := Option.some.inj h
 clear hr0
 obtain ⟨k, hk⟩ := vd_f l0
 cases hv : vdB l0 with
 | false =>
  have HV := Aside0.mk (hk.trans (congrArg some hv))
  unfold impl_PolyArea.v at h
  rw [hv, if_neg (by simp)] at h
  obtain ⟨rfl, rfl⟩ := Prod.mk.inj h
  clear h hv hk
  go_enter Try.func18, Try.ntmps18
  go_upto_region 2 with (go_at_call 37; have hbel := HM.out.1; (with_reducible refine (outlineOf_no k A0 c0 l0 _ (Kd.C_below HR.out hbel) HC.out HV.out).mono ?_); rintro e w3 ⟨rfl, hb⟩; clear hbel; replace HM := Aside0.mk (HM.out.keep hb); clear hb)
  replace HM := Aside0.mk (HM.out.alloc #[.pointer none, .int .i64 0] 68)
  generalize w3.alloc (.cells #[.pointer none, .int .i64 0] 68) = w5 at *
  generalize w3.heap.size = g4 at *
  have c0 : w5.cell? ⟨g4, 0, none⟩ = some (.pointer none) := blk_cell HM.out.a0 0
  have c1 : w5.cell? ⟨g4, 1, none⟩ = some (.int .i64 0) := blk_cell HM.out.a0 1
  go_wp2_with fail
  go_ret2
  exact ⟨rfl, HM.out.1⟩
 | true =>
  have HV := Aside0.mk (hk.trans (congrArg some hv))
  unfold impl_PolyArea.v at h
  rw [hv, if_pos rfl] at h
  obtain ⟨rfl, rfl⟩ := Prod.mk.inj h
  have hvi := vdB_iff.1 hv
  clear h hv hk
  go_enter Try.func18, Try.ntmps18
  go_upto_region 2 with (go_at_call 37; have hbel := HM.out.1; (with_reducible refine (outlineOf_yes k A0 c0 l0 _ (Kd.C_below HR.out hbel) HC.out HV.out hvi.1 hvi.2.1).mono ?_); rintro e w3 ⟨bs, rfl, hrg, hb⟩; clear hbel; replace HM := Aside0.mk (HM.out.keep hb); have HRG := Aside0.mk hrg; clear hb hrg)
  replace HM := Aside0.mk (HM.out.alloc #[.pointer (some ⟨bs 0, 0, none⟩), .int .i64 (l0.length : Int)] 68)
  replace HRG := Aside0.mk (HRG.out.nextAlloc (.cells #[.pointer (some ⟨bs 0, 0, none⟩), .int .i64 (l0.length : Int)] 68))
  generalize w3.alloc (.cells #[.pointer (some ⟨bs 0, 0, none⟩), .int .i64 (l0.length : Int)] 68) = w5 at *
  generalize w3.heap.size = g4 at *
  have c0 : w5.cell? ⟨g4, 0, none⟩ = some (.pointer (some ⟨bs 0, 0, none⟩)) := blk_cell HM.out.a0 0
  have c1 : w5.cell? ⟨g4, 1, none⟩ = some (.int .i64 (l0.length : Int)) := blk_cell HM.out.a0 1
  go_wp2_with (go_at_call 38; (with_reducible refine (area_calls l0.length bs (plX l0) (plY l0) _ (by omega) HRG.out).mono ?_); rintro e w6 ⟨rfl, hb⟩; replace HRG := Aside0.mk (HRG.out.next hb); replace HM := Aside0.mk (HM.out.keep hb); clear hb c0 c1; have c0 : w6.cell? ⟨g4, 0, none⟩ = some (.pointer (some ⟨bs 0, 0, none⟩)) := blk_cell HM.out.a0 0; have c1 : w6.cell? ⟨g4, 1, none⟩ = some (.int .i64 (l0.length : Int)) := blk_cell HM.out.a0 1)
  go_ret2
  exact ⟨rfl, HM.out.1⟩
end Go.Proofs.Ytolkcbnolbkgmaa.P
-- squeezed

import Derived.Test.YtfonigbkoligmaaPx0
import Derived.Test.YtfonigbkoligmaaPx1
import Derived.Test.YtfonigbkoligmaaPx3
import Derived.Test.YtfonigbkoligmaaPx4
import Derived.Test.YtfonigbkoligmaaPx5
namespace Go.Proofs.Ytfonigbkoligmaa.P
open Go.RowKit Go.Proofs.YtfonigbkoligmaaW.PrintWords Go.Proofs.YtfonigbkoligmaaW.PrintLast Go.Proofs.YtfonigbkoligmaaW.PrintMore
attribute [local go_sem] max2_int min2_int max_two min_two max_three min_three max_four min_four
set_option linter.unusedVariables false
set_option linter.unusedSimpArgs false
attribute [local go_sem high] eqA33
def laws_samePoints.l0 : Nat → List (S33) → List (S33) → Int → Option (Bool)
 | 0, _, _, _ => none
 | k + 1, x0, x1, x5 => if x5 < (x0.length : Int) then (if 0 ≤ x5 then (if x5 < (x1.length : Int) then (if (!(((rd_T33 x0 x5).f0) == ((rd_T33 x1 x5).f0)) || (!(((rd_T33 x0 x5).f1) == ((rd_T33 x1 x5).f1)))) = true then (some false) else (laws_samePoints.l0 k x0 x1 (wrap64 (x5 + 1)))) else (none)) else (none)) else (some true)
def laws_samePoints.f (k : Nat) (l0 : List (S33)) (l1 : List (S33)) : Option (Bool) := if (l0.length : Int) = (l1.length : Int) then (laws_samePoints.l0 k l0 l1 0) else (some false)
theorem laws_samePoints.mono_l : ∀ k, (∀ y0 y1 y2, LeO (laws_samePoints.l0 k y0 y1 y2) (laws_samePoints.l0 (k + 1) y0 y1 y2))
 | 0 => fun _ _ _ r h => by simp [laws_samePoints.l0] at h
 | k + 1 => by
  have ih0 := laws_samePoints.mono_l k
  ·intro y0 y1 y2
   unfold laws_samePoints.l0
   repeat' first
   | (with_reducible exact ih0 _ _ _)
   | (with_reducible exact LeO.refl _)
   | (with_reducible exact LeO.none _)
   | (with_reducible refine LeO.ite ?_ ?_)
   | (with_reducible refine LeO.bind ?_ (fun _ => ?_))
   | exact ih0 _ _ _
   | exact LeO.none _
   | refine LeO.ite ?_ ?_
   | refine LeO.bind ?_ (fun _ => ?_)
theorem laws_samePoints.mono : ∀ a0 a1 k, LeO (laws_samePoints.f k a0 a1) (laws_samePoints.f (k + 1) a0 a1) := by
 intro a0 a1 k
 have ih0 := laws_samePoints.mono_l k
 unfold laws_samePoints.f
 repeat' first
   | (with_reducible exact ih0 _ _ _)
   | (with_reducible exact LeO.refl _)
   | (with_reducible exact LeO.none _)
   | (with_reducible refine LeO.ite ?_ ?_)
   | (with_reducible refine LeO.bind ?_ (fun _ => ?_))
   | exact ih0 _ _ _
   | exact LeO.none _
   | refine LeO.ite ?_ ?_
   | refine LeO.bind ?_ (fun _ => ?_)
set_option maxHeartbeats 8000000 in
set_option maxRecDepth 100000 in
theorem laws_samePoints.calls (k : Nat) (A0 : Option Addr) (c0 : Nat) (l0 : List (S33)) (A1 : Option Addr) (c1 : Nat) (l1 : List (S33)) (r : Bool) (w : World) (hr0 : Kd.C k33 w A0 l0.length l0) (hc0 : l0.length ≤ c0) (hr1 : Kd.C k33 w A1 l1.length l1) (hc1 : l1.length ≤ c1) (h : laws_samePoints.f k l0 l1 = some r) :
  Calls Try.prog 10 #[.slice A0 l0.length c0, .slice A1 l1.length c1] w fun e w' => e = .returned (.bool r) ∧ Drawn0 w w' := by
 have hu33 := Try.underlying33
 have HR0 := Aside0.mk hr0
 have HC0 := Aside0.mk hc0
 clear hr0 hc0
 have HR1 := Aside0.mk hr1
 have HC1 := Aside0.mk hc1
 clear hr1 hc1
 have H : (if (l0.length : Int) = (l1.length : Int) then (laws_samePoints.l0 k l0 l1 0) else (some false)) = some r := h
 clear h
 by_cases c3 : (l0.length : Int) = (l1.length : Int)
 ·rw [if_pos c3] at H
  have c3b0 : ((l0.length : Int) == (l1.length : Int)) = true := beq_iff_eq.mpr c3
  have c3b1 : ((l0.length : Int) != (l1.length : Int)) = false := bne_eq_false_iff_eq.mpr c3
  have c3b2 : (l0.length == l1.length) = true := by first | simpa using c3 | (simp at c3 ⊢; omega)
  clear c3
  have H' := Aside0.mk H
  clear H
  go_enter Try.func10, Try.ntmps10
  go_wp2
  repeat (go_quiet (fail); try go_wp2)
  go_loopg [5] k (fun kq v5 w' => ∃ (x5_1 : Int), v5 = .int .i64 x5_1 ∧ Aside0 (laws_samePoints.l0 kq l0 l1 x5_1 = some r) ∧ Aside0 (kq ≤ k) ∧ Drawn0 w w')
  case atStart => exact ⟨(0), (by first | rfl | (simp; done) | (simp [*]; done)), H', ⟨Nat.le_refl _⟩, by repeat (first | exact Drawn0.refl _ | apply Drawn0.step)⟩
  case round =>
   clear H'
   try clear c1
   try clear p2
   try clear c3
   try clear c3b0
   try clear c3b1
   try clear c3b2
   obtain ⟨x5_1, rfl, HA, HK1, ⟨m1, rfl⟩⟩ := hrel
   cases gk with
   | zero => exact absurd HA.out (by simp [laws_samePoints.l0])
   | succ k1 =>
    have H := HA.out
    clear HA
    simp only [laws_samePoints.l0] at H
    by_cases c4 : x5_1 < (l0.length : Int)
    ·rw [if_pos c4] at H
     have c4b0 : decide (x5_1 < (l0.length : Int)) = true := decide_eq_true c4
     clear c4
     by_cases c5 : 0 ≤ x5_1
     ·rw [if_pos c5] at H
      have c5b0 : decide (0 ≤ x5_1) = true := decide_eq_true c5
      clear c5
      by_cases c6 : x5_1 < (l1.length : Int)
      ·rw [if_pos c6] at H
       have c6b0 : decide (x5_1 < (l1.length : Int)) = true := decide_eq_true c6
       clear c6
       by_cases c7 : (!(((rd_T33 l0 x5_1).f0) == ((rd_T33 l1 x5_1).f0)) || (!(((rd_T33 l0 x5_1).f1) == ((rd_T33 l1 x5_1).f1)))) = true
       ·rw [if_pos c7] at H
        have c7b0 : (!(((rd_T33 l0 x5_1).f0) == ((rd_T33 l1 x5_1).f0)) || (!(((rd_T33 l0 x5_1).f1) == ((rd_T33 l1 x5_1).f1)))) = true := c7
        clear c7
        obtain rfl := Option.some.inj H
        have p402 : 0 ≤ (x5_1 : Int) := oa
        have q402 : x5_1 < (l0.length : Int) := oa
        obtain ⟨ad402, e402, hx402_0, hx402_1⟩ := at_T33 HR0.out x5_1 p402 q402
        cases e402
        replace p402 := eq_true p402
        replace q402 := eq_true q402
        have p403 : 0 ≤ (x5_1 : Int) := oa
        have q403 : x5_1 < (l1.length : Int) := oa
        obtain ⟨ad403, e403, hx403_0, hx403_1⟩ := at_T33 HR1.out x5_1 p403 q403
        cases e403
        replace p403 := eq_true p403
        replace q403 := eq_true q403
        go_wp2
        repeat (go_quiet (fail); try go_wp2)
        go_ret
        exact ⟨by first | rfl | (simp; done) | (simp [*]; done), by repeat (first | exact Drawn0.refl _ | apply Drawn0.step)⟩
       ·rw [if_neg c7] at H
        have c7b0 : (!(((rd_T33 l0 x5_1).f0) == ((rd_T33 l1 x5_1).f0)) || (!(((rd_T33 l0 x5_1).f1) == ((rd_T33 l1 x5_1).f1)))) = false := by simpa using c7
        clear c7
        have H' := Aside0.mk H
        clear H
        have p402 : 0 ≤ (x5_1 : Int) := oa
        have q402 : x5_1 < (l0.length : Int) := oa
        obtain ⟨ad402, e402, hx402_0, hx402_1⟩ := at_T33 HR0.out x5_1 p402 q402
        cases e402
        replace p402 := eq_true p402
        replace q402 := eq_true q402
        have p403 : 0 ≤ (x5_1 : Int) := oa
        have q403 : x5_1 < (l1.length : Int) := oa
        obtain ⟨ad403, e403, hx403_0, hx403_1⟩ := at_T33 HR1.out x5_1 p403 q403
        cases e403
        replace p403 := eq_true p403
        replace q403 := eq_true q403
        go_wp2
        repeat (go_quiet (fail); try go_wp2)
        go_roundg k1
        case measure => have := HK1.out; omega
        case rel => exact ⟨(wrap64 (x5_1 + 1)), (by first | rfl | (simp; done) | (simp [*]; done)), H', ⟨by have := HK1.out; omega⟩, by repeat (first | exact Drawn0.refl _ | apply Drawn0.step)⟩
      ·rw [if_neg c6] at H
       exact absurd H (by simp)
     ·rw [if_neg c5] at H
      exact absurd H (by simp)
    ·rw [if_neg c4] at H
     have c4b0 : decide (x5_1 < (l0.length : Int)) = false := decide_eq_false c4
     clear c4
     obtain rfl := Option.some.inj H
     go_wp2
     repeat (go_quiet (fail); try go_wp2)
     go_ret
     exact ⟨by first | rfl | (simp; done) | (simp [*]; done), by repeat (first | exact Drawn0.refl _ | apply Drawn0.step)⟩
 ·rw [if_neg c3] at H
  have c3b0 : ((l0.length : Int) == (l1.length : Int)) = false := beq_eq_false_iff_ne.mpr c3
  have c3b1 : ((l0.length : Int) != (l1.length : Int)) = true := bne_iff_ne.mpr c3
  have c3b2 : (l0.length == l1.length) = false := by first | simpa using c3 | (simp at c3 ⊢; omega)
  obtain rfl := Option.some.inj H
  go_enter Try.func10, Try.ntmps10
  go_wp2
  repeat (go_quiet (fail); try go_wp2)
  go_ret
  exact ⟨by first | rfl | (simp; done) | (simp [*]; done), by repeat (first | exact Drawn0.refl _ | apply Drawn0.step)⟩
def impl_PolyArea.v (l0 : List (S33)) : Int × Bool := if vdB l0 = true then (arN (plX l0) (plY l0) l0.length l0.length, true) else (0, false)
def impl_PolyArea.f (l0 : List (S33)) : Option (Int × Bool) := some (impl_PolyArea.v l0)
set_option maxHeartbeats 4000000 in
theorem impl_PolyArea.calls (A0 : Option Addr) (c0 : Nat) (l0 : List (S33)) (r1 : Int) (r2 : Bool) (w : World) (hr0 : Kd.C k33 w A0 l0.length l0) (hc0 : l0.length ≤ c0) (h : impl_PolyArea.f l0 = some (r1, r2)) :
  Calls Try.prog 11 #[.slice A0 l0.length c0] w fun e w' => e = .returned (.tuple #[.int .i64 r1, .bool r2]) ∧ Below w.heap.size w w' := by
 have HR := Aside0.mk hr0
 have HC := Aside0.mk hc0
 have HM := Aside0.mk (Hd.nil w)
 have h := Option.some.inj h
 clear hr0
 obtain ⟨k, hk⟩ := vd_f l0
 cases hv : vdB l0 with
 | false =>
  have HV := Aside0.mk (hk.trans (congrArg some hv))
  unfold impl_PolyArea.v at h
  rw [hv, if_neg (by simp)] at h
  obtain ⟨rfl, rfl⟩ := Prod.mk.inj h
  clear h hv hk
  go_enter Try.func11, Try.ntmps11
  go_upto_region 2 with (go_at_call 37; have hbel := HM.out.1; (with_reducible refine (outlineOf_no k A0 c0 l0 _ (Kd.C_below HR.out hbel) HC.out HV.out).mono ?_); rintro e w3 ⟨rfl, hb⟩; clear hbel; replace HM := Aside0.mk (HM.out.keep hb); clear hb)
  replace HM := Aside0.mk (HM.out.alloc #[.pointer none, .int .i64 0] 58)
  generalize w3.alloc (.cells #[.pointer none, .int .i64 0] 58) = w5 at *
  generalize w3.heap.size = g4 at *
  have c0 : w5.cell? ⟨g4, 0, none⟩ = some (.pointer none) := blk_cell HM.out.a0 0
  have c1 : w5.cell? ⟨g4, 1, none⟩ = some (.int .i64 0) := blk_cell HM.out.a0 1
  go_wp2_with fail
  go_ret2
  exact ⟨rfl, HM.out.1⟩
 | true =>
  have HV := Aside0.mk (hk.trans (congrArg some hv))
  unfold impl_PolyArea.v at h
  rw [hv, if_pos rfl] at h
  obtain ⟨rfl, rfl⟩ := Prod.mk.inj h
  have hvi := vdB_iff.1 hv
  clear h hv hk
  go_enter Try.func11, Try.ntmps11
  go_upto_region 2 with (go_at_call 37; have hbel := HM.out.1; (with_reducible refine (outlineOf_yes k A0 c0 l0 _ (Kd.C_below HR.out hbel) HC.out HV.out hvi.1 hvi.2.1).mono ?_); rintro e w3 ⟨bs, rfl, hrg, hb⟩; clear hbel; replace HM := Aside0.mk (HM.out.keep hb); have HRG := Aside0.mk hrg; clear hb hrg)
  replace HM := Aside0.mk (HM.out.alloc #[.pointer (some ⟨bs 0, 0, none⟩), .int .i64 (l0.length : Int)] 58)
  replace HRG := Aside0.mk (HRG.out.nextAlloc (.cells #[.pointer (some ⟨bs 0, 0, none⟩), .int .i64 (l0.length : Int)] 58))
  generalize w3.alloc (.cells #[.pointer (some ⟨bs 0, 0, none⟩), .int .i64 (l0.length : Int)] 58) = w5 at *
  generalize w3.heap.size = g4 at *
  have c0 : w5.cell? ⟨g4, 0, none⟩ = some (.pointer (some ⟨bs 0, 0, none⟩)) := blk_cell HM.out.a0 0
  have c1 : w5.cell? ⟨g4, 1, none⟩ = some (.int .i64 (l0.length : Int)) := blk_cell HM.out.a0 1
  go_wp2_with (go_at_call 38; (with_reducible refine (area_calls l0.length bs (plX l0) (plY l0) _ (by omega) HRG.out).mono ?_); rintro e w6 ⟨rfl, hb⟩; replace HRG := Aside0.mk (HRG.out.next hb); replace HM := Aside0.mk (HM.out.keep hb); clear hb c0 c1; have c0 : w6.cell? ⟨g4, 0, none⟩ = some (.pointer (some ⟨bs 0, 0, none⟩)) := blk_cell HM.out.a0 0; have c1 : w6.cell? ⟨g4, 1, none⟩ = some (.int .i64 (l0.length : Int)) := blk_cell HM.out.a0 1)
  go_ret2
  exact ⟨rfl, HM.out.1⟩
def stP (x y a b : Int) : Int × Int × Bool := if inR x y 10000 = true ∧ inR a b 10000 = true then (wrap64 (a - x), wrap64 (b - y), true) else (0, 0, false)
set_option maxHeartbeats 4000000 in
theorem step_calls (x y a b : Int) (w : World) :
  Calls Try.prog 39 #[.agg #[.int .i64 x, .int .i64 y], .agg #[.int .i64 a, .int .i64 b]] w fun e w' => e = .returned (.tuple #[.agg #[.int .i64 (stP x y a b).1, .int .i64 (stP x y a b).2.1], .bool (stP x y a b).2.2]) ∧ Below w.heap.size w w' := by
 have HM := Aside0.mk (Mv.new w x y a b)
 by_cases h1 : inR x y 10000 = true
 ·by_cases h2 : inR a b 10000 = true
  ·have e : stP x y a b = (wrap64 (a - x), wrap64 (b - y), true) := by unfold stP; rw [if_pos ⟨h1, h2⟩]
   rw [e]
   clear e
   have H1 := Aside0.mk h1
   have H2 := Aside0.mk h2
   clear h1 h2
   go_enter Try.func39, Try.ntmps39
   go_upto_region 3 with (first | (go_at_call 68; (with_reducible refine (PointValid_calls x y _).mono ?_); rintro e w1 ⟨rfl, hb⟩; rw [H1.out]; replace HM := Aside0.mk (HM.out.keep hb); clear hb H1; (try clear k1 k2 k3 k4 k5 k6 k7 k8); obtain ⟨k1, k2, k3, k4, k5, k6, k7, k8⟩ := HM.out.cells) | (go_at_call 68; (with_reducible refine (PointValid_calls a b _).mono ?_); rintro e w2 ⟨rfl, hb⟩; rw [H2.out]; replace HM := Aside0.mk (HM.out.keep hb); clear hb k1 k2 k3 k4 k5 k6 k7 k8; obtain ⟨k1, k2, k3, k4, k5, k6, k7, k8⟩ := HM.out.cells))
   (try simp only [Act.put, List.setIfInBounds_toArray, List.set_cons_zero, List.set_cons_succ])
   generalize hp : wrap64 (a - x) = p at *
   generalize hq : wrap64 (b - y) = q at *
   have HP := Aside0.mk hp
   have HQ := Aside0.mk hq
   clear hp hq
   go_region_held3 (fun w' => w'.cell? ⟨w.heap.size, 0, none⟩ = some (.int .i64 x) ∧ w'.cell? ⟨w.heap.size, 1, none⟩ = some (.int .i64 y) ∧ w'.cell? ⟨w.heap.size + 1, 0, none⟩ = some (.int .i64 a) ∧ w'.cell? ⟨w.heap.size + 1, 1, none⟩ = some (.int .i64 b))
    (first
     | exact HM.out.keepRes p q
     | go_keep
     | exact ⟨k1, k2, k3, k4⟩)
    (first
     | (go_at_call 40; (with_reducible refine (pairOf_calls a b _).mono ?_); rintro e w3 ⟨rfl, hb⟩; replace HM : Aside0 (Mv w w3 x y a b 0 0) := ⟨by first | exact HM.out.keep hb | exact (HM.out.keep (below_drew1 (Below.refl _ _))).keep hb⟩; clear hb k1 k2 k3 k4 k5 k6 k7 k8; obtain ⟨k1, k2, k3, k4, k5, k6, k7, k8⟩ := HM.out.cells)
     | (go_at_call 40; (with_reducible refine (pairOf_calls x y _).mono ?_); rintro e w3 ⟨rfl, hb⟩; replace HM : Aside0 (Mv w w3 x y a b 0 0) := ⟨by first | exact HM.out.keep hb | exact (HM.out.keep (below_drew1 (Below.refl _ _))).keep hb⟩; clear hb k1 k2 k3 k4 k5 k6 k7 k8; obtain ⟨k1, k2, k3, k4, k5, k6, k7, k8⟩ := HM.out.cells)
     | (go_at_call 69; (with_reducible refine (pairMinus_calls a b x y _).mono ?_); rw [HP.out, HQ.out]; rintro e w3 ⟨rfl, hb⟩; replace HM : Aside0 (Mv w w3 x y a b 0 0) := ⟨HM.out.keep hb⟩; clear hb k1 k2 k3 k4 k5 k6 k7 k8; obtain ⟨k1, k2, k3, k4, k5, k6, k7, k8⟩ := HM.out.cells)
     | (go_at_call 70; (with_reducible refine (pairPoint_calls p q _).mono ?_); rintro e w3 ⟨rfl, hb⟩; replace HM : Aside0 (Mv w w3 x y a b 0 0) := ⟨HM.out.keep hb⟩; clear hb k1 k2 k3 k4 k5 k6 k7 k8; obtain ⟨k1, k2, k3, k4, k5, k6, k7, k8⟩ := HM.out.cells))
   all_goals
    go_wp2_with fail
    have HM3 := HM.out.put p q
    exact bodyPost_ret (results_ct rfl _ _ (w.heap.size + 1 + 1) 33 #[.int .i64 p, .int .i64 q] (0, 0) _ rfl HM3.2.2.2 Try.underlying33 rfl (by kernel_rfl)) rfl ⟨by rw [HP.out, HQ.out]; rfl, HM3.1⟩
  ·have e : stP x y a b = (0, 0, false) := by unfold stP; rw [if_neg (fun hh => h2 hh.2)]
   rw [e]
   have h2 : inR a b 10000 = false := by simpa using h2
   go_enter Try.func39, Try.ntmps39
   go_wp2_with (first | (go_at_call 68; (with_reducible refine (PointValid_calls x y _).mono ?_); rintro e w1 ⟨rfl, hb⟩; rw [h1]; have HM1 := Aside0.mk (HM.out.keep hb); clear hb h1; obtain ⟨k1, k2, k3, k4, k5, k6, k7, k8⟩ := HM1.out.cells) | (go_at_call 68; (with_reducible refine (PointValid_calls a b _).mono ?_); rintro e w2 ⟨rfl, hb⟩; rw [h2]; have HM2 := Aside0.mk (HM1.out.keep hb); clear hb k1 k2 k3 k4 k5 k6 k7 k8; obtain ⟨k1, k2, k3, k4, k5, k6, k7, k8⟩ := HM2.out.cells))
   have HM3 := HM2.out.put 0 0
   exact bodyPost_ret (results_ct rfl _ _ (w.heap.size + 1 + 1) 33 #[.int .i64 0, .int .i64 0] (0, 0) _ rfl HM3.2.2.2 Try.underlying33 rfl (by kernel_rfl)) rfl ⟨rfl, HM3.1⟩
 ·have e : stP x y a b = (0, 0, false) := by unfold stP; rw [if_neg (fun hh => h1 hh.1)]
  rw [e]
  have h1 : inR x y 10000 = false := by simpa using h1
  go_enter Try.func39, Try.ntmps39
  go_wp2_with (go_at_call 68; (with_reducible refine (PointValid_calls x y _).mono ?_); rintro e w1 ⟨rfl, hb⟩; rw [h1]; have HM1 := Aside0.mk (HM.out.keep hb); clear hb; obtain ⟨k1, k2, k3, k4, k5, k6, k7, k8⟩ := HM1.out.cells)
  have HM3 := HM1.out.put 0 0
  exact bodyPost_ret (results_ct rfl _ _ (w.heap.size + 1 + 1) 33 #[.int .i64 0, .int .i64 0] (0, 0) _ rfl HM3.2.2.2 Try.underlying33 rfl (by kernel_rfl)) rfl ⟨rfl, HM3.1⟩
def impl_PointStep.f (a0_0 : Int) (a0_1 : Int) (a1_0 : Int) (a1_1 : Int) : Option (Int × Int × Bool) := some (stP a0_0 a0_1 a1_0 a1_1)
theorem impl_PointStep.calls (a0_0 : Int) (a0_1 : Int) (a1_0 : Int) (a1_1 : Int) (r1 : Int) (r2 : Int) (r3 : Bool) (w : World) (h : impl_PointStep.f a0_0 a0_1 a1_0 a1_1 = some (r1, r2, r3)) :
  Calls Try.prog 39 #[.agg #[.int .i64 a0_0, .int .i64 a0_1], .agg #[.int .i64 a1_0, .int .i64 a1_1]] w fun e w' => e = .returned (.tuple #[.agg #[.int .i64 r1, .int .i64 r2], .bool r3]) ∧ Below w.heap.size w w' := by
 have h := Option.some.inj h
 have h0 := step_calls a0_0 a0_1 a1_0 a1_1 w
 rw [h] at h0
 exact h0
def impl_absInt.f (a0 : Int) : Option (Int) := if a0 < 0 then (some (wrap64 (-a0))) else (some a0)
set_option maxHeartbeats 8000000 in
set_option maxRecDepth 100000 in
theorem impl_absInt.calls (a0 : Int) (r : Int) (w : World) (h : impl_absInt.f a0 = some r) :
  Calls Try.prog 44 #[.int .i64 a0] w fun e w' => e = .returned (.int .i64 r) ∧ Drawn0 w w' := by
 have H : (if a0 < 0 then (some (wrap64 (-a0))) else (some a0)) = some r := h
 clear h
 by_cases c2 : a0 < 0
 ·rw [if_pos c2] at H
  have c2b0 : decide (a0 < 0) = true := decide_eq_true c2
  clear c2
  obtain rfl := Option.some.inj H
  go_enter Try.func44, Try.ntmps44
  go_wp2
  go_ret
  exact ⟨by first | rfl | (simp; done) | (simp [*]; done), by repeat (first | exact Drawn0.refl _ | apply Drawn0.step)⟩
 ·rw [if_neg c2] at H
  have c2b0 : decide (a0 < 0) = false := decide_eq_false c2
  clear c2
  obtain rfl := Option.some.inj H
  go_enter Try.func44, Try.ntmps44
  go_wp2
  go_ret
  exact ⟨by first | rfl | (simp; done) | (simp [*]; done), by repeat (first | exact Drawn0.refl _ | apply Drawn0.step)⟩
def impl_gcdInt.l0 : Nat → Int → Int → Option (Int)
 | 0, _, _ => none
 | k + 1, x0, x1 => if x1 = 0 then (some x0) else (impl_gcdInt.l0 k x1 (Int.tmod x0 x1))
def impl_gcdInt.f (k : Nat) (a0 : Int) (a1 : Int) : Option (Int) := (impl_absInt.f a0).bind fun t404 => ((impl_absInt.f a1).bind fun t405 => (impl_gcdInt.l0 k t404 t405))
theorem impl_gcdInt.mono_l : ∀ k, (∀ y0 y1, LeO (impl_gcdInt.l0 k y0 y1) (impl_gcdInt.l0 (k + 1) y0 y1))
 | 0 => fun _ _ r h => by simp [impl_gcdInt.l0] at h
 | k + 1 => by
  have ih0 := impl_gcdInt.mono_l k
  ·intro y0 y1
   unfold impl_gcdInt.l0
   repeat' first
   | (with_reducible exact ih0 _ _)
   | (with_reducible exact LeO.refl _)
   | (with_reducible exact LeO.none _)
   | (with_reducible refine LeO.ite ?_ ?_)
   | (with_reducible refine LeO.bind ?_ (fun _ => ?_))
   | exact ih0 _ _
   | exact LeO.none _
   | refine LeO.ite ?_ ?_
   | refine LeO.bind ?_ (fun _ => ?_)
theorem impl_gcdInt.mono : ∀ a0 a1 k, LeO (impl_gcdInt.f k a0 a1) (impl_gcdInt.f (k + 1) a0 a1) := by
 intro a0 a1 k
 have ih0 := impl_gcdInt.mono_l k
 unfold impl_gcdInt.f
 repeat' first
   | (with_reducible exact ih0 _ _)
   | (with_reducible exact LeO.refl _)
   | (with_reducible exact LeO.none _)
   | (with_reducible refine LeO.ite ?_ ?_)
   | (with_reducible refine LeO.bind ?_ (fun _ => ?_))
   | exact ih0 _ _
   | exact LeO.none _
   | refine LeO.ite ?_ ?_
   | refine LeO.bind ?_ (fun _ => ?_)
set_option maxHeartbeats 8000000 in
set_option maxRecDepth 100000 in
theorem impl_gcdInt.calls (k : Nat) (a0 : Int) (a1 : Int) (r : Int) (w : World) (h : impl_gcdInt.f k a0 a1 = some r) :
  Calls Try.prog 71 #[.int .i64 a0, .int .i64 a1] w fun e w' => e = .returned (.int .i64 r) ∧ Drawn0 w w' := by
 have H : ((impl_absInt.f a0).bind fun t404 => ((impl_absInt.f a1).bind fun t405 => (impl_gcdInt.l0 k t404 t405))) = some r := h
 clear h
 replace H := Option.bind_eq_some_iff.mp H
 obtain ⟨t404, A30, H⟩ := H
 replace H : ((impl_absInt.f a1).bind fun t405 => (impl_gcdInt.l0 k t404 t405)) = some r := H
 have A3 := Aside0.mk A30
 clear A30
 replace H := Option.bind_eq_some_iff.mp H
 obtain ⟨t405, A40, H⟩ := H
 replace H : (impl_gcdInt.l0 k t404 t405) = some r := H
 have A4 := Aside0.mk A40
 clear A40
 have H' := Aside0.mk H
 clear H
 go_enter Try.func71, Try.ntmps71
 go_wp2_with (first | (go_at_call 44; (with_reducible refine (impl_absInt.calls a0 t404 _ A3.out).mono ?_); rintro e w' ⟨rfl, ⟨nd, rfl⟩⟩; (try first | exact ⟨rfl, _, World.drewN_drewN _ _ _⟩ | exact ⟨rfl, _, Eq.trans (World.drewN_drewN _ _ _) (congrArg (World.drewN _) (Nat.add_assoc _ _ _))⟩)) | (go_at_call 44; (with_reducible refine (impl_absInt.calls a1 t405 _ A4.out).mono ?_); rintro e w' ⟨rfl, ⟨nd, rfl⟩⟩; (try first | exact ⟨rfl, _, World.drewN_drewN _ _ _⟩ | exact ⟨rfl, _, Eq.trans (World.drewN_drewN _ _ _) (congrArg (World.drewN _) (Nat.add_assoc _ _ _))⟩)))
 repeat (go_quiet (first | (go_at_call 44; (with_reducible refine (impl_absInt.calls a0 t404 _ A3.out).mono ?_); rintro e w' ⟨rfl, ⟨nd, rfl⟩⟩; (try first | exact ⟨rfl, _, World.drewN_drewN _ _ _⟩ | exact ⟨rfl, _, Eq.trans (World.drewN_drewN _ _ _) (congrArg (World.drewN _) (Nat.add_assoc _ _ _))⟩)) | (go_at_call 44; (with_reducible refine (impl_absInt.calls a1 t405 _ A4.out).mono ?_); rintro e w' ⟨rfl, ⟨nd, rfl⟩⟩; (try first | exact ⟨rfl, _, World.drewN_drewN _ _ _⟩ | exact ⟨rfl, _, Eq.trans (World.drewN_drewN _ _ _) (congrArg (World.drewN _) (Nat.add_assoc _ _ _))⟩))); try go_wp2_with (first | (go_at_call 44; (with_reducible refine (impl_absInt.calls a0 t404 _ A3.out).mono ?_); rintro e w' ⟨rfl, ⟨nd, rfl⟩⟩; (try first | exact ⟨rfl, _, World.drewN_drewN _ _ _⟩ | exact ⟨rfl, _, Eq.trans (World.drewN_drewN _ _ _) (congrArg (World.drewN _) (Nat.add_assoc _ _ _))⟩)) | (go_at_call 44; (with_reducible refine (impl_absInt.calls a1 t405 _ A4.out).mono ?_); rintro e w' ⟨rfl, ⟨nd, rfl⟩⟩; (try first | exact ⟨rfl, _, World.drewN_drewN _ _ _⟩ | exact ⟨rfl, _, Eq.trans (World.drewN_drewN _ _ _) (congrArg (World.drewN _) (Nat.add_assoc _ _ _))⟩))))
 go_loopg [0, 1] k (fun kq v0 v1 w' => ∃ (x0_1 : Int) (x1_1 : Int), v0 = .int .i64 x0_1 ∧ v1 = .int .i64 x1_1 ∧ Aside0 (impl_gcdInt.l0 kq x0_1 x1_1 = some r) ∧ Aside0 (kq ≤ k) ∧ Drawn0 w w')
 case atStart => exact ⟨(t404), (t405), (by first | rfl | (simp; done) | (simp [*]; done)), (by first | rfl | (simp; done) | (simp [*]; done)), H', ⟨Nat.le_refl _⟩, by repeat (first | exact Drawn0.refl _ | apply Drawn0.step)⟩
 case round =>
  clear H'
  try clear p2
  obtain ⟨x0_1, x1_1, rfl, rfl, HA, HK1, ⟨m1, rfl⟩⟩ := hrel
  cases gk with
  | zero => exact absurd HA.out (by simp [impl_gcdInt.l0])
  | succ k1 =>
   have H := HA.out
   clear HA
   simp only [impl_gcdInt.l0] at H
   by_cases c5 : x1_1 = 0
   ·rw [if_pos c5] at H
    have c5b0 : (x1_1 == 0) = true := beq_iff_eq.mpr c5
    have c5b1 : (x1_1 != 0) = false := bne_eq_false_iff_eq.mpr c5
    clear c5
    obtain rfl := Option.some.inj H
    go_wp2
    repeat (go_quiet (fail); try go_wp2)
    go_ret
    exact ⟨by first | rfl | (simp; done) | (simp [*]; done), by repeat (first | exact Drawn0.refl _ | apply Drawn0.step)⟩
   ·rw [if_neg c5] at H
    have c5b0 : (x1_1 == 0) = false := beq_eq_false_iff_ne.mpr c5
    have c5b1 : (x1_1 != 0) = true := bne_iff_ne.mpr c5
    have H' := Aside0.mk H
    clear H
    go_wp2
    repeat (go_quiet (fail); try go_wp2)
    go_roundg k1
    case measure => have := HK1.out; omega
    case rel => exact ⟨(x1_1), (Int.tmod x0_1 x1_1), (by first | rfl | (simp; done) | (simp [*]; done)), (by first | rfl | (simp; done) | (simp [*]; done)), H', ⟨by have := HK1.out; omega⟩, by repeat (first | exact Drawn0.refl _ | apply Drawn0.step)⟩
theorem gcd_l0 : ∀ (y x k : Nat), y < k → impl_gcdInt.l0 k (x : Int) (y : Int) = some ((Nat.gcd x y : Nat) : Int) := by
 intro y
 induction y using Nat.strongRecOn with
 | _ y ih =>
  intro x k hk
  cases k with
  | zero => omega
  | succ k =>
   rw [impl_gcdInt.l0]
   by_cases hy : y = 0
   ·rw [if_pos (by omega), hy, Nat.gcd_zero_right]
   ·rw [if_neg (by omega)]
    have hlt : x % y < y := Nat.mod_lt _ (by omega)
    have := ih (x % y) hlt y k (by omega)
    rw [show Int.tmod (x : Int) (y : Int) = ((x % y : Nat) : Int) from rfl, this, Nat.gcd_comm y, ← Nat.gcd_rec, Nat.gcd_comm]
theorem abs_f {p : Int} (hp : -100000 ≤ p ∧ p ≤ 100000) : impl_absInt.f p = some (p.natAbs : Int) := by
 unfold impl_absInt.f
 by_cases h : p < 0
 ·rw [if_pos h]; congr 1; unfold wrap64; omega
 ·rw [if_neg h]; congr 1; omega
theorem gcd_f {p q : Int} (hp : -100000 ≤ p ∧ p ≤ 100000) (hq : -100000 ≤ q ∧ q ≤ 100000) : impl_gcdInt.f 100001 p q = some (Int.gcd p q : Int) := by
 unfold impl_gcdInt.f
 rw [abs_f hp, Option.bind_some, abs_f hq, Option.bind_some, gcd_l0 _ _ _ (by omega)]
 rfl
set_option maxHeartbeats 4000000 in
theorem pairGcd_calls (k : Nat) (x y r : Int) (w : World) (h : impl_gcdInt.f k x y = some r) :
  Calls Try.prog 41 #[.agg #[.int .i64 x, .int .i64 y]] w fun e w' => e = .returned (.int .i64 r) ∧ Below w.heap.size w w' := by
 have H := Aside0.mk h
 have HM := Aside0.mk (Hd.nil w)
 clear h
 go_enter Try.func41, Try.ntmps41
 go_wp2_with (first
  | ((with_reducible refine gate_dst (N := 1) rfl ?_); refine bx_ 1 (cs := #[.int .i64 x, .int .i64 y]) (t := 65) ?_; intro g1 e_ w1 b_ hb; replace HM := Aside0.mk (HM.out.box hb b_ e_); clear e_ b_ hb; have c0 := blk_cell HM.out.a0 0; have c1 := blk_cell HM.out.a0 1)
  | (go_at_call 71; (with_reducible refine (impl_gcdInt.calls k x y r _ H.out).mono ?_); rintro e w_ ⟨rfl, hd⟩; have hb := hd.below; clear hd; replace HM := Aside0.mk (HM.out.keep hb); clear hb))
 go_ret
 exact ⟨rfl, HM.out.1⟩
def gpF (k : Nat) (a0_0 : Int) (a0_1 : Int) (a1_0 : Int) (a1_1 : Int) : Option (Int) := if inR a0_0 a0_1 10000 = true ∧ inR a1_0 a1_1 10000 = true then impl_gcdInt.f k (wrap64 (a1_0 - a0_0)) (wrap64 (a1_1 - a0_1)) else some (-1)
set_option maxHeartbeats 4000000 in
theorem gaps_calls (k : Nat) (a0_0 : Int) (a0_1 : Int) (a1_0 : Int) (a1_1 : Int) (r : Int) (w : World) (h : gpF k a0_0 a0_1 a1_0 a1_1 = some r) :
  Calls Try.prog 12 #[.agg #[.int .i64 a0_0, .int .i64 a0_1], .agg #[.int .i64 a1_0, .int .i64 a1_1]] w fun e w' => e = .returned (.int .i64 r) ∧ Below w.heap.size w w' := by
 unfold gpF at h
 have HM := Aside0.mk (Hd.nil w)
 have hst := fun w => step_calls a0_0 a0_1 a1_0 a1_1 w
 by_cases hv : inR a0_0 a0_1 10000 = true ∧ inR a1_0 a1_1 10000 = true
 ·rw [if_pos hv] at h
  have e : stP a0_0 a0_1 a1_0 a1_1 = (wrap64 (a1_0 - a0_0), wrap64 (a1_1 - a0_1), true) := by unfold stP; rw [if_pos hv]
  rw [e] at hst
  clear e hv
  generalize wrap64 (a1_0 - a0_0) = p at h hst
  generalize wrap64 (a1_1 - a0_1) = q at h hst
  have HST := Aside0.mk hst
  have H := Aside0.mk h
  clear hst h
  go_enter Try.func12, Try.ntmps12
  go_upto_region 2 with (first
   | ((with_reducible refine gate_dst (N := 2) rfl ?_); refine bx_ 2 (cs := #[.int .i64 a0_0, .int .i64 a0_1]) (t := 33) ?_; intro g2 e_ w1 b_ hb; replace HM := Aside0.mk (HM.out.box hb b_ e_); clear e_ b_ hb)
   | ((with_reducible refine gate_dst (N := 3) rfl ?_); refine bx_ 3 (cs := #[.int .i64 a1_0, .int .i64 a1_1]) (t := 33) ?_; intro g3 e_ w2 b_ hb; replace HM := Aside0.mk (HM.out.box hb b_ e_); clear e_ b_ hb; have c0 := blk_cell HM.out.a1 0; have c1 := blk_cell HM.out.a1 1; have d0 := blk_cell HM.out.a0 0; have d1 := blk_cell HM.out.a0 1)
   | (go_at_call 39; (with_reducible refine (HST.out _).mono ?_); rintro e w_ ⟨rfl, hb⟩; replace HM := Aside0.mk (HM.out.keep hb); clear hb c0 c1 d0 d1))
  replace HM := Aside0.mk (HM.out.alloc #[.int .i64 p, .int .i64 q] 33)
  generalize w_.alloc (.cells #[.int .i64 p, .int .i64 q] 33) = w5 at *
  generalize w_.heap.size = gp at *
  have c0 := blk_cell HM.out.a0 0
  have c1 := blk_cell HM.out.a0 1
  go_wp2_with (first
   | (go_at_call 40; (with_reducible refine (pairOf_calls p q _).mono ?_); rintro e w_ ⟨rfl, hb⟩; replace HM := Aside0.mk (HM.out.keep hb); clear hb c0 c1)
   | (go_at_call 41; (with_reducible refine (pairGcd_calls k p q r _ H.out).mono ?_); rintro e w_ ⟨rfl, hb⟩; replace HM := Aside0.mk (HM.out.keep hb); clear hb))
  go_ret
  exact ⟨rfl, HM.out.1⟩
 ·rw [if_neg hv] at h
  have e : stP a0_0 a0_1 a1_0 a1_1 = (0, 0, false) := by unfold stP; rw [if_neg hv]
  rw [e] at hst
  obtain rfl := Option.some.inj h
  clear e hv
  have HST := Aside0.mk hst
  clear hst h
  go_enter Try.func12, Try.ntmps12
  go_wp2_with (first
   | ((with_reducible refine gate_dst (N := 2) rfl ?_); refine bx_ 2 (cs := #[.int .i64 a0_0, .int .i64 a0_1]) (t := 33) ?_; intro g2 e_ w1 b_ hb; replace HM := Aside0.mk (HM.out.box hb b_ e_); clear e_ b_ hb)
   | ((with_reducible refine gate_dst (N := 3) rfl ?_); refine bx_ 3 (cs := #[.int .i64 a1_0, .int .i64 a1_1]) (t := 33) ?_; intro g3 e_ w2 b_ hb; replace HM := Aside0.mk (HM.out.box hb b_ e_); clear e_ b_ hb; have c0 := blk_cell HM.out.a1 0; have c1 := blk_cell HM.out.a1 1; have d0 := blk_cell HM.out.a0 0; have d1 := blk_cell HM.out.a0 1)
   | (go_at_call 39; (with_reducible refine (HST.out _).mono ?_); rintro e w_ ⟨rfl, hb⟩; replace HM := Aside0.mk (HM.out.keep hb); clear hb c0 c1 d0 d1))
  go_ret
  exact ⟨rfl, HM.out.1.alloc (by have := HM.out.1.size; omega) _⟩
def gpI (x y a b : Int) : Int := if inR x y 10000 = true ∧ inR a b 10000 = true then (Int.gcd (a - x) (b - y) : Int) else -1
theorem inR_iff {x y : Int} : inR x y 10000 = true ↔ (-10000 ≤ x ∧ x ≤ 10000) ∧ (-10000 ≤ y ∧ y ≤ 10000) := by
 unfold inR
 rw [show wrap64 (-10000) = -10000 by unfold wrap64; omega, Bool.and_eq_true, decide_eq_true_iff, decide_eq_true_iff]
theorem gpF_eq (x y a b : Int) : gpF 100001 x y a b = some (gpI x y a b) := by
 unfold gpF gpI
 by_cases h : inR x y 10000 = true ∧ inR a b 10000 = true
 ·rw [if_pos h, if_pos h]
  have h1 := inR_iff.1 h.1
  have h2 := inR_iff.1 h.2
  rw [show wrap64 (a - x) = a - x by unfold wrap64; omega, show wrap64 (b - y) = b - y by unfold wrap64; omega]
  exact gcd_f (by omega) (by omega)
 ·rw [if_neg h, if_neg h]
def impl_PointGaps.f (a0_0 : Int) (a0_1 : Int) (a1_0 : Int) (a1_1 : Int) : Option (Int) := some (gpI a0_0 a0_1 a1_0 a1_1)
theorem impl_PointGaps.calls (a0_0 : Int) (a0_1 : Int) (a1_0 : Int) (a1_1 : Int) (r : Int) (w : World) (h : impl_PointGaps.f a0_0 a0_1 a1_0 a1_1 = some r) :
  Calls Try.prog 12 #[.agg #[.int .i64 a0_0, .int .i64 a0_1], .agg #[.int .i64 a1_0, .int .i64 a1_1]] w fun e w' => e = .returned (.int .i64 r) ∧ Below w.heap.size w w' :=
 gaps_calls 100001 _ _ _ _ _ w ((gpF_eq _ _ _ _).trans h)
def sgN (g : Nat → Int) : Nat → Int
 | 0 => 0
 | i + 1 => wrap64 (sgN g i + g i)
def gN (X Y : Nat → Int) (n i : Nat) : Int := gpI (X i) (Y i) (X ((i + 1) % n)) (Y ((i + 1) % n))
def plEdge.T : Bool × List (List Nat × List Nat) := (true,[([],[]),([],[]),([1],[1]),([2],[2]),([3],[3]),([],[]),([5],[5]),([6],[6]),([7],[7]),([8],[8]),([9],[9]),([10],[10]),([4,11],[4,11]),([0,12],[0,12]),([13,12,0,1,2,3,4,5,6,7,8,9,10,11,12,13],[13])])
def plEdge.B : List Nat := [0,0,2,6,14,0,32,96,224,480,992,2016,4094,8191,16383]
theorem plEdge.tab : rtab .any (opsOf Try.f45 4) = plEdge.T := by kernel_rfl
theorem plEdge.bits : waitsOk plEdge.T.2 plEdge.B = true := by kernel_rfl
theorem plEdge.both : rtab .any (opsOf Try.f45 4) = plEdge.T ∧ waitsOk plEdge.T.2 plEdge.B = true := ⟨plEdge.tab, plEdge.bits⟩
set_option maxHeartbeats 4000000 in
set_option maxRecDepth 100000 in
theorem edge_calls (n : Nat) (bs : Nat → Nat) (X Y : Nat → Int) (w : World) (hn : n ≤ 1000) (hR : Ring w w.heap.size n bs X Y) :
  Calls Try.prog 45 #[.agg #[.pointer (some ⟨bs 0, 0, none⟩), .int .i64 (n : Int)]] w fun e w' => e = .returned (.int .i64 (sgN (gN X Y n) n)) ∧ Below w.heap.size w w' := by
 have HR := Aside0.mk hR
 have HM := Aside0.mk (Hd.nil w)
 have hpos := hR.pos
 clear hR
 refine pl_enter Try.func45 rfl ?_
 simp only [Try.ntmps45, List.size_toArray, List.length_cons, List.length_nil, Nat.reduceAdd, Nat.reduceSub, Array.replicate_succ, Array.replicate_zero, List.push_toArray, List.append_toArray, List.nil_append, List.cons_append]
 go_upto_region 2 with ((with_reducible refine gate_dst (N := 1) rfl ?_); refine bx_ 1 (cs := #[.pointer (some ⟨bs 0, 0, none⟩), .int .i64 (n : Int)]) (t := 58) ?_; intro g1 e_ w1 b_ hb; replace HM := Aside0.mk (HM.out.box hb b_ e_); clear e_ b_ hb)
 replace HM := Aside0.mk (HM.out.alloc #[.int .i64 0] 3)
 generalize w1.alloc (.cells #[.int .i64 0] 3) = w2 at *
 generalize w1.heap.size = gs at *
 have c0 : w2.cell? ⟨g1, 0, none⟩ = some (.pointer (some ⟨bs 0, 0, none⟩)) := blk_cell HM.out.a1 0
 have c1 : w2.cell? ⟨g1, 1, none⟩ = some (.int .i64 (n : Int)) := blk_cell HM.out.a1 1
 go_wp2_with fail
 clear c0 c1
 have hgs : w.heap.size ≤ gs := (HM.out.2.1 (gs, #[.int .i64 0], 3) (by simp)).1
 have hgs2 : gs < w2.heap.size := blk_lt HM.out.a0
 have hw2 := HM.out.1.size
 have hR2 := HR.out.below HM.out.1
 refine pl_range (gf := 46) rfl (fun args w => enters_ Try.func46 (by kernel_rfl) rfl args w) w.heap.size n hw2 _ (corners_walks w.heap.size n bs X Y w2 hn hw2 hR2) (fun i W => W.heap[gs]? = some (.cells #[.int .i64 (sgN (gN X Y n) i)] 3 (0, 0)) ∧ Below w.heap.size w W) (fun _ _ => False) (OwnFrom.and (own_block (fun _ => rfl)) (ownFrom_below (Nat.le_refl _) hw2)) (fun _ _ _ _ h _ _ => h) ⟨HM.out.a0, HM.out.1⟩ (fun i => { tmps := #[.agg #[.pointer (some ⟨bs 0, 0, none⟩), .int .i64 (n : Int)], .pointer (some ⟨g1, 0, none⟩), .int .i64 0, .pointer (some ⟨gs, 0, none⟩), .pointer (some ⟨bs i, 0, none⟩), .agg #[.pointer (some ⟨bs 0, 0, none⟩), .int .i64 (n : Int)], .func (.func 46) #[.agg #[.pointer (some ⟨bs 0, 0, none⟩), .int .i64 (n : Int)]] #[], .pointer (some ⟨bs i, 0, none⟩), undef, undef, undef, undef, undef, undef, undef, undef, undef, undef, undef, undef, undef, undef, undef], defers := [] }) ?_ ?_ ?_ ?_
 ·intro l i W K hK
  exact pl_assign hK
 ·rintro l i W hi ⟨hS, hB⟩
  have hi1 : (i + 1) % n < n := Nat.mod_lt _ hpos
  have HRW := Aside0.mk (HR.out.below hB)
  have HK : Aside0 (Rd w W W w2.heap.size gs (.cells #[.int .i64 (sgN (gN X Y n) i)] 3 (0, 0))) := ⟨⟨hS, hB, Below.refl _ _, KeepsFrom.refl _ _⟩⟩
  have HA : Aside0 (sgN (gN X Y n) (i + 1) = wrap64 (sgN (gN X Y n) i + gN X Y n i)) := ⟨rfl⟩
  have HPO := Aside0.mk (plPost_no w2.heap.size w.heap.size (fun i W => W.heap[gs]? = some (.cells #[.int .i64 (sgN (gN X Y n) i)] 3 (0, 0)) ∧ Below w.heap.size w W) (fun _ _ => False) i W)
  generalize sgN (gN X Y n) i = sm at HK HA
  have hWs := hB.size
  clear hS hB HM hR2
  refine wpIn_block ?_
  replace HK := Aside0.mk HK.out.drew
  replace HRW := Aside0.mk (HRW.out.below ((below_drew1 (Below.refl _ W)).mono hWs))
  refine pl_start (S := fun w' => w'.cell? ⟨bs i, 0, none⟩ = some (.int .i64 (X i)) ∧ w'.cell? ⟨bs i, 1, none⟩ = some (.int .i64 (Y i)) ∧ w'.cell? ⟨bs i, 2, none⟩ = some (.pointer (some ⟨bs ((i + 1) % n), 0, none⟩)) ∧ w'.cell? ⟨bs ((i + 1) % n), 0, none⟩ = some (.int .i64 (X ((i + 1) % n))) ∧ w'.cell? ⟨bs ((i + 1) % n), 1, none⟩ = some (.int .i64 (Y ((i + 1) % n))) ∧ w'.cell? ⟨gs, 0, none⟩ = some (.int .i64 sm)) (ds := [14]) #[false,false,false,false,false,false,false,false,false,false,false,false,false,false,false] (by kernel_rfl) (noDefer_all (by kernel_rfl)) (pl_no_block _ HPO.out) rfl rfl ⟨(blk_cell (HRW.out.cell i hi) 0).trans rfl, (blk_cell (HRW.out.cell i hi) 1).trans rfl, (blk_cell (HRW.out.cell i hi) 2).trans rfl, (blk_cell (HRW.out.cell _ hi1) 0).trans rfl, (blk_cell (HRW.out.cell _ hi1) 1).trans rfl, (blk_cell HK.out.1 0).trans rfl⟩ (fun hHeld => ?_)
  refine with_tabW plEdge.both.1 plEdge.both.2 (fun HT_ HW_ => ?_)
  generalize hwd : W.drew = wd at HK HRW hHeld ⊢
  clear hwd
  refine pq_ 1 (some 9) ?_
  refine pq_ 2 (some 10) ?_
  refine pq_ 3 (some 11) ?_
  refine tq_ 4 (some 12) ?_
  refine tq_ 0 (some 8) ?_
  refine pq_ 5 (some 13) ?_
  refine pq_ 6 (some 14) ?_
  refine pq_ 7 (some 15) ?_
  refine tq_ 8 (some 16) ?_
  refine pq_ 9 (some 17) ?_
  refine pq_ 10 (some 18) ?_
  refine tq_ 11 (some 19) ?_
  refine one_ (i := 12) (N := some 20) #[true,true,true,true,true,true,true,true,true,true,true,true,true,false,false] rfl rfl (one_of HT_.out (by kernel_rfl)) (by decide) (fun K hK => ?_)
  refine goes_ Try.func12 (by kernel_rfl) rfl #[.agg #[.int .i64 (X i), .int .i64 (Y i)], .agg #[.int .i64 (X ((i + 1) % n)), .int .i64 (Y ((i + 1) % n))]] (by rfl) rfl rfl al ?_
  with_reducible refine (impl_PointGaps.calls (X i) (Y i) (X ((i + 1) % n)) (Y ((i + 1) % n)) (gN X Y n i) _ rfl).mono ?_
  rintro e w_ ⟨rfl, hb⟩
  refine ⟨_, rfl, ?_⟩
  replace HRW := Aside0.mk (HRW.out.below (hb.mono HK.out.2.1.size))
  replace HK := Aside0.mk (HK.out.keep hb)
  clear hb
  refine hK.out _ _ ⟨(blk_cell (HRW.out.cell i hi) 0).trans rfl, (blk_cell (HRW.out.cell i hi) 1).trans rfl, (blk_cell (HRW.out.cell i hi) 2).trans rfl, (blk_cell (HRW.out.cell _ hi1) 0).trans rfl, (blk_cell (HRW.out.cell _ hi1) 1).trans rfl, (blk_cell HK.out.1 0).trans rfl⟩ (fun hHeld => ?_)
  clear hK K
  refine norm_ (a' := ?_) ?_ ?_
  rotate_left
  ·show Act.put _ (some 20) _ = _
   simp only [Act.put, List.setIfInBounds_toArray, List.set_cons_zero, List.set_cons_succ, i64_w, i32_w]
   rfl
  refine pq_ 13 (some 21) ?_
  refine last_ (i := 14) (N := none) #[true,true,true,true,true,true,true,true,true,true,true,true,true,true,true] rfl rfl (one_of HT_.out (by kernel_rfl)) (by decide) (fun K hK => ?_)
  refine skip_ (w1 := ?_) (by rfl) rfl ?_ ?_
  rotate_left
  ·have hc3 := blk_cell HK.out.1 0
   have hf3 := blk_frozen HK.out.1 0
   go_simp
   rfl
  refine hK.out _ _ ?_
  clear hK K
  refine done_ (done_of HT_.out (by kernel_rfl)) ?_
  have HK2 := HK.out.put hgs 0 (.int .i64 (sgN (gN X Y n) (i + 1))) rfl
  have he := HA.out
  (try simp only [crI] at he)
  rw [he] at HK2
  refine ⟨HK2.2.2.2, HK2.2.2.1, ?_, HK2.2.1⟩
  simp only [he]
  exact HK2.1
 ·rintro D W hD ⟨hS, hB⟩ hdef
  have s0 : W.cell? ⟨gs, 0, none⟩ = some (.int .i64 (sgN (gN X Y n) n)) := (blk_cell hS 0).trans rfl
  go_wp2_with fail
  refine pl_leave hdef ?_
  refine ⟨_, ?_, rfl, hB.trans (belowK_b (w := w) (Nat.le_refl _) W D _ _ (Nat.le_trans hw2 hD) hdef rfl rfl)⟩
  simp [results, (rfl : Try.f45.results = #[.tmp 2])]
 ·intro D i W _ _ h; exact h.elim
def abI (x : Int) : Int := if x < 0 then wrap64 (-x) else x
theorem abI_f (x : Int) : impl_absInt.f x = some (abI x) := by unfold impl_absInt.f abI; split <;> rfl
def impl_PolyInside.v (l0 : List (S33)) : Int := if okB l0 = true then wrap64 (Int.tdiv (wrap64 (wrap64 (abI (arN (plX l0) (plY l0) l0.length l0.length) - sgN (gN (plX l0) (plY l0) l0.length) l0.length) + 2)) 2) else -1
def impl_PolyInside.f (l0 : List (S33)) : Option Int := some (impl_PolyInside.v l0)
set_option maxHeartbeats 4000000 in
theorem impl_PolyInside.calls (A0 : Option Addr) (c0 : Nat) (l0 : List (S33)) (r : Int) (w : World) (hr0 : Kd.C k33 w A0 l0.length l0) (hc0 : l0.length ≤ c0) (h : impl_PolyInside.f l0 = some r) :
  Calls Try.prog 14 #[.slice A0 l0.length c0] w fun e w' => e = .returned (.int .i64 r) ∧ Below w.heap.size w w' := by
 have HR := Aside0.mk hr0
 have HC := Aside0.mk hc0
 have HM := Aside0.mk (Hd.nil w)
 have h := Option.some.inj h
 clear hr0
 cases hv : okB l0 with
 | false =>
  have HV := Aside0.mk hv
  unfold impl_PolyInside.v at h
  rw [hv] at h
  obtain rfl := h
  clear hv
  go_enter Try.func14, Try.ntmps14
  go_upto_region 2 with (go_at_call 43; have hbel := HM.out.1; (with_reducible refine (simpleOf_no A0 c0 l0 _ (Kd.C_below HR.out hbel) HC.out HV.out).mono ?_); rintro e w3 ⟨rfl, hb⟩; clear hbel; replace HM := Aside0.mk (HM.out.keep hb); clear hb)
  replace HM := Aside0.mk (HM.out.alloc #[.pointer none, .int .i64 0] 58)
  generalize w3.alloc (.cells #[.pointer none, .int .i64 0] 58) = w5 at *
  generalize w3.heap.size = g4 at *
  have c0 : w5.cell? ⟨g4, 0, none⟩ = some (.pointer none) := blk_cell HM.out.a0 0
  have c1 : w5.cell? ⟨g4, 1, none⟩ = some (.int .i64 0) := blk_cell HM.out.a0 1
  go_wp2_with fail
  go_ret
  exact ⟨rfl, HM.out.1⟩
 | true =>
  have HV := Aside0.mk hv
  unfold impl_PolyInside.v at h
  rw [hv] at h
  obtain rfl := h
  have hvi := vdB_iff.1 (okB_vd hv)
  clear hv
  go_enter Try.func14, Try.ntmps14
  go_upto_region 2 with (go_at_call 43; have hbel := HM.out.1; (with_reducible refine (simpleOf_yes A0 c0 l0 _ (Kd.C_below HR.out hbel) HC.out HV.out).mono ?_); rintro e w3 ⟨bs, rfl, hrg, hb⟩; clear hbel; replace HM := Aside0.mk (HM.out.keep hb); have HRG := Aside0.mk hrg; clear hb hrg)
  replace HM := Aside0.mk (HM.out.alloc #[.pointer (some ⟨bs 0, 0, none⟩), .int .i64 (l0.length : Int)] 58)
  replace HRG := Aside0.mk (HRG.out.nextAlloc (.cells #[.pointer (some ⟨bs 0, 0, none⟩), .int .i64 (l0.length : Int)] 58))
  generalize w3.alloc (.cells #[.pointer (some ⟨bs 0, 0, none⟩), .int .i64 (l0.length : Int)] 58) = w5 at *
  generalize w3.heap.size = g4 at *
  have c0 : w5.cell? ⟨g4, 0, none⟩ = some (.pointer (some ⟨bs 0, 0, none⟩)) := blk_cell HM.out.a0 0
  have c1 : w5.cell? ⟨g4, 1, none⟩ = some (.int .i64 (l0.length : Int)) := blk_cell HM.out.a0 1
  go_wp2_with fail
  go_region_held3 (fun w' => w'.cell? ⟨g4, 0, none⟩ = some (.pointer (some ⟨bs 0, 0, none⟩)) ∧ w'.cell? ⟨g4, 1, none⟩ = some (.int .i64 (l0.length : Int)))
   (first
    | exact ⟨c0, c1⟩
    | go_keep)
   (first
    | (go_at_call 38; (first | ((with_reducible refine (area_calls l0.length bs (plX l0) (plY l0) _ (by omega) HRG.out).mono ?_); rintro e w6 ⟨rfl, hb⟩; replace HRG := Aside0.mk (HRG.out.next hb); replace HM := Aside0.mk (HM.out.keep hb); clear hb c0 c1; have c0 : w6.cell? ⟨g4, 0, none⟩ = some (.pointer (some ⟨bs 0, 0, none⟩)) := blk_cell HM.out.a0 0; have c1 : w6.cell? ⟨g4, 1, none⟩ = some (.int .i64 (l0.length : Int)) := blk_cell HM.out.a0 1) | ((with_reducible refine (area_calls l0.length bs (plX l0) (plY l0) _ (by omega) (HRG.out.next (below_drew1 (Below.refl _ _)))).mono ?_); rintro e w6 ⟨rfl, hb⟩; replace HRG := Aside0.mk ((HRG.out.next (below_drew1 (Below.refl _ _))).next hb); replace HM := Aside0.mk (HM.out.drew.keep hb); clear hb c0 c1; have c0 : w6.cell? ⟨g4, 0, none⟩ = some (.pointer (some ⟨bs 0, 0, none⟩)) := blk_cell HM.out.a0 0; have c1 : w6.cell? ⟨g4, 1, none⟩ = some (.int .i64 (l0.length : Int)) := blk_cell HM.out.a0 1)))
    | (go_at_call 45; (first | ((with_reducible refine (edge_calls l0.length bs (plX l0) (plY l0) _ (by omega) HRG.out).mono ?_); rintro e w6 ⟨rfl, hb⟩; replace HRG := Aside0.mk (HRG.out.next hb); replace HM := Aside0.mk (HM.out.keep hb); clear hb c0 c1; have c0 : w6.cell? ⟨g4, 0, none⟩ = some (.pointer (some ⟨bs 0, 0, none⟩)) := blk_cell HM.out.a0 0; have c1 : w6.cell? ⟨g4, 1, none⟩ = some (.int .i64 (l0.length : Int)) := blk_cell HM.out.a0 1) | ((with_reducible refine (edge_calls l0.length bs (plX l0) (plY l0) _ (by omega) (HRG.out.next (below_drew1 (Below.refl _ _)))).mono ?_); rintro e w6 ⟨rfl, hb⟩; replace HRG := Aside0.mk ((HRG.out.next (below_drew1 (Below.refl _ _))).next hb); replace HM := Aside0.mk (HM.out.drew.keep hb); clear hb c0 c1; have c0 : w6.cell? ⟨g4, 0, none⟩ = some (.pointer (some ⟨bs 0, 0, none⟩)) := blk_cell HM.out.a0 0; have c1 : w6.cell? ⟨g4, 1, none⟩ = some (.int .i64 (l0.length : Int)) := blk_cell HM.out.a0 1)))
    | (go_at_call 44; (with_reducible refine (impl_absInt.calls _ _ _ (abI_f _)).mono ?_); rintro e w6 ⟨rfl, hd⟩; have hb := hd.below; clear hd; replace HRG := Aside0.mk (HRG.out.next hb); replace HM := Aside0.mk (HM.out.keep hb); clear hb c0 c1; have c0 : w6.cell? ⟨g4, 0, none⟩ = some (.pointer (some ⟨bs 0, 0, none⟩)) := blk_cell HM.out.a0 0; have c1 : w6.cell? ⟨g4, 1, none⟩ = some (.int .i64 (l0.length : Int)) := blk_cell HM.out.a0 1))
  all_goals
   go_wp2_with fail
   simp only [i64_w]
   go_ret
   exact ⟨rfl, HM.out.1⟩
def sideIs (X Y : Nat → Int) (n : Nat) (fx fy tx ty : Int) (i : Nat) : Bool := (X i == fx && (Y i == fy)) && (X ((i + 1) % n) == tx && (Y ((i + 1) % n) == ty))
def hsB (X Y : Nat → Int) (n : Nat) (fx fy tx ty : Int) : Bool := (List.range n).any (sideIs X Y n fx fy tx ty)
theorem hsB_yes {X Y : Nat → Int} {n i : Nat} {fx fy tx ty : Int} (hi : i < n) (h : sideIs X Y n fx fy tx ty i = true) : hsB X Y n fx fy tx ty = true := List.any_eq_true.2 ⟨i, List.mem_range.2 hi, h⟩
theorem hsB_no {X Y : Nat → Int} {n : Nat} {fx fy tx ty : Int} (h : ∀ i, i < n → sideIs X Y n fx fy tx ty i = false) : hsB X Y n fx fy tx ty = false := by
 rw [hsB, List.any_eq_false]
 intro i hi
 rw [h i (List.mem_range.1 hi)]
 simp
def plHas3.T : Bool × List (List Nat × List Nat) := (true,[([],[]),([0],[0]),([1],[1]),([2],[2]),([],[]),([3,4],[3,4]),([5],[5]),([6],[6]),([7,6],[6,7]),([8,6],[6,8]),([9,6],[6,9]),([10,6],[6,10]),([11,6],[6,11]),([12,6],[6,12]),([6],[6]),([13,14,6],[6,13,14]),([6,15],[6,15])])
def plHas3.B : List Nat := [0,1,3,7,0,31,63,127,255,511,1023,2047,4095,8191,127,32767,65535]
theorem plHas3.tab : rtab .any (opsOf Try.f47 3) = plHas3.T := by kernel_rfl
theorem plHas3.bits : waitsOk plHas3.T.2 plHas3.B = true := by kernel_rfl
theorem plHas3.both : rtab .any (opsOf Try.f47 3) = plHas3.T ∧ waitsOk plHas3.T.2 plHas3.B = true := ⟨plHas3.tab, plHas3.bits⟩
section
attribute [local go_sem] Oper.semAt_some
attribute [local go_sem high] eqA33
set_option maxHeartbeats 8000000 in
set_option maxRecDepth 100000 in
theorem hasSide_calls (n : Nat) (bs : Nat → Nat) (X Y : Nat → Int) (fx fy tx ty : Int) (w : World) (hn : n ≤ 1000) (hR : Ring w w.heap.size n bs X Y) :
  Calls Try.prog 47 #[.agg #[.pointer (some ⟨bs 0, 0, none⟩), .int .i64 (n : Int)], .agg #[.int .i64 fx, .int .i64 fy], .agg #[.int .i64 tx, .int .i64 ty]] w fun e w' => e = .returned (.bool (hsB X Y n fx fy tx ty)) ∧ Below w.heap.size w w' := by
 obtain ⟨b, hb⟩ : ∃ b, hsB X Y n fx fy tx ty = b := ⟨_, rfl⟩
 rw [hb]
 have HR := Aside0.mk hR
 have HM := Aside0.mk (Hd.nil w)
 have HB0 := Aside0.mk hb
 have hpos := hR.pos
 clear hR hb
 refine pl_enter Try.func47 rfl ?_
 simp only [Try.ntmps47, List.size_toArray, List.length_cons, List.length_nil, Nat.reduceAdd, Nat.reduceSub, Array.replicate_succ, Array.replicate_zero, List.push_toArray, List.append_toArray, List.nil_append, List.cons_append]
 go_upto_region 1 with (first | ((with_reducible refine gate_dst (N := 3) rfl ?_); refine bx_ 3 (cs := #[.pointer (some ⟨bs 0, 0, none⟩), .int .i64 (n : Int)]) (t := 68) ?_; intro g3 e_ w3 b_ hb; replace HM := Aside0.mk (HM.out.box hb b_ e_); clear e_ b_ hb) | ((with_reducible refine gate_dst (N := 4) rfl ?_); refine bx_ 4 (cs := #[.int .i64 fx, .int .i64 fy]) (t := 33) ?_; intro g4 e_ w4 b_ hb; replace HM := Aside0.mk (HM.out.box hb b_ e_); clear e_ b_ hb) | ((with_reducible refine gate_dst (N := 5) rfl ?_); refine bx_ 5 (cs := #[.int .i64 tx, .int .i64 ty]) (t := 33) ?_; intro g5 e_ w5 b_ hb; replace HM := Aside0.mk (HM.out.box hb b_ e_); clear e_ b_ hb))
 replace HM := Aside0.mk (HM.out.alloc #[.bool false] 4)
 generalize w5.alloc (.cells #[.bool false] 4) = w2 at *
 generalize w5.heap.size = gr at *
 have c0 : w2.cell? ⟨g3, 0, none⟩ = some (.pointer (some ⟨bs 0, 0, none⟩)) := blk_cell HM.out.a3 0
 have c1 : w2.cell? ⟨g3, 1, none⟩ = some (.int .i64 (n : Int)) := blk_cell HM.out.a3 1
 go_wp2_with fail
 clear c0 c1
 have hgs : w.heap.size ≤ gr := (HM.out.2.1 (gr, #[.bool false], 4) (by simp)).1
 have hgs2 : gr < w2.heap.size := blk_lt HM.out.a0
 have hw2 := HM.out.1.size
 have hR2 := HR.out.below HM.out.1
 refine pl_range (gf := 46) rfl (fun args w => enters_ Try.func46 (by kernel_rfl) rfl args w) w.heap.size n hw2 _ (corners_walks w.heap.size n bs X Y w2 hn hw2 hR2)
  (fun i W => (W.heap[gr]? = some (.cells #[.bool false] 4 (0, 0)) ∧ W.heap[g4]? = some (.cells #[.int .i64 fx, .int .i64 fy] 33 (0, 0)) ∧ W.heap[g5]? = some (.cells #[.int .i64 tx, .int .i64 ty] 33 (0, 0))) ∧ Below w.heap.size w W ∧ ∀ i', i' < i → sideIs X Y n fx fy tx ty i' = false)
  (fun i W => W.heap[gr]? = some (.cells #[.bool true] 4 (0, 0)) ∧ Below w.heap.size w W ∧ b = true)
  (OwnFrom.and (OwnFrom.and (own_block (fun _ => rfl)) (OwnFrom.and (own_block (fun _ => rfl)) (own_block (fun _ => rfl)))) (OwnFrom.and (ownFrom_below (Nat.le_refl _) hw2) (ownFrom_pure _ _)))
  (OwnFrom.and (own_block (fun _ => rfl)) (OwnFrom.and (ownFrom_below (Nat.le_refl _) hw2) (ownFrom_pure _ _))) ⟨⟨HM.out.a0, HM.out.a2, HM.out.a1⟩, HM.out.1, fun _ h => absurd h (Nat.not_lt_zero _)⟩
  (fun i => { tmps := #[.agg #[.pointer (some ⟨bs 0, 0, none⟩), .int .i64 (n : Int)], .agg #[.int .i64 fx, .int .i64 fy], .agg #[.int .i64 tx, .int .i64 ty], .pointer (some ⟨g3, 0, none⟩), .pointer (some ⟨g4, 0, none⟩), .pointer (some ⟨g5, 0, none⟩), .pointer (some ⟨gr, 0, none⟩), .pointer (some ⟨bs i, 0, none⟩), .pointer (some ⟨g3, 0, none⟩), .agg #[.pointer (some ⟨bs 0, 0, none⟩), .int .i64 (n : Int)], .func (.func 46) #[.agg #[.pointer (some ⟨bs 0, 0, none⟩), .int .i64 (n : Int)]] #[], .pointer (some ⟨bs i, 0, none⟩), undef, undef, undef, undef, undef, undef, undef, undef, undef, undef, undef, undef, undef, undef, undef, undef, undef], defers := [] }) ?_ ?_ ?_ ?_
 ·intro l i W K hK
  exact pl_assign hK
 ·rintro l i W hi ⟨⟨hS, h4, h5⟩, hB, hP⟩
  have HPP := Aside0.mk hP
  have HRW := Aside0.mk (HR.out.below hB)
  have hi1 : (i + 1) % n < n := Nat.mod_lt _ hpos
  have HK : Aside0 (Rd w W W w2.heap.size gr (.cells #[.bool false] 4 (0, 0))) := ⟨⟨hS, hB, Below.refl _ _, KeepsFrom.refl _ _⟩⟩
  have H4 := Aside0.mk h4
  have H5 := Aside0.mk h5
  have HSI : Aside0 (∀ x y, (X i == fx && (Y i == fy)) = x → (X ((i + 1) % n) == tx && (Y ((i + 1) % n) == ty)) = y → sideIs X Y n fx fy tx ty i = (x && y)) := ⟨fun x y h1 h2 => by unfold sideIs; rw [h1, h2]⟩
  clear hS h4 h5 hB hP HM hR2
  gi_wp2
  replace HRW := Aside0.mk (HRW.out.below ((below_drew1 (Below.refl _ W)).mono HK.out.2.1.size))
  replace HK := Aside0.mk HK.out.drew
  replace H4 := Aside0.mk (blk_drew H4.out)
  replace H5 := Aside0.mk (blk_drew H5.out)
  refine pl_start (S := fun w' => w'.cell? ⟨bs i, 0, none⟩ = some (.int .i64 (X i)) ∧ w'.cell? ⟨bs i, 1, none⟩ = some (.int .i64 (Y i)) ∧ w'.cell? ⟨bs i, 2, none⟩ = some (.pointer (some ⟨bs ((i + 1) % n), 0, none⟩)) ∧ w'.cell? ⟨bs ((i + 1) % n), 0, none⟩ = some (.int .i64 (X ((i + 1) % n))) ∧ w'.cell? ⟨bs ((i + 1) % n), 1, none⟩ = some (.int .i64 (Y ((i + 1) % n))) ∧ w'.cell? ⟨g4, 0, none⟩ = some (.int .i64 fx) ∧ w'.cell? ⟨g4, 1, none⟩ = some (.int .i64 fy) ∧ w'.cell? ⟨g5, 0, none⟩ = some (.int .i64 tx) ∧ w'.cell? ⟨g5, 1, none⟩ = some (.int .i64 ty)) (ds := []) #[false,false,false,false,false,false,false,false,false,false,false,false,false,false,false,false,false] (by kernel_rfl) (noDefer_all (by kernel_rfl)) (fun ⟨_, _, h⟩ => h) rfl rfl ⟨(blk_cell (HRW.out.cell _ hi) 0).trans rfl, (blk_cell (HRW.out.cell _ hi) 1).trans rfl, (blk_cell (HRW.out.cell _ hi) 2).trans rfl, (blk_cell (HRW.out.cell _ hi1) 0).trans rfl, (blk_cell (HRW.out.cell _ hi1) 1).trans rfl, (blk_cell H4.out 0).trans rfl, (blk_cell H4.out 1).trans rfl, (blk_cell H5.out 0).trans rfl, (blk_cell H5.out 1).trans rfl⟩ (fun hHeld => ?_)
  refine with_tabW plHas3.both.1 plHas3.both.2 (fun HT_ HW_ => ?_)
  generalize W.drew = wd at HK HRW H4 H5 hHeld ⊢
  refine pq_ 0 (some 12) ?_
  refine pq_ 1 (some 13) ?_
  refine pq_ 2 (some 14) ?_
  refine tq_ 3 (some 15) ?_
  refine tq_ 4 (some 16) ?_
  refine pq_ 5 (some 17) ?_
  refine pq_ 6 (some 18) ?_
  generalize hE : (X i == fx && (Y i == fy)) = eb at *
  have HE := Aside0.mk hE
  clear hE
  cases eb with
  | false =>
   refine pure_ (i := 7) (N := some 19) (v := undef) (a' := ?_) #[true,true,true,true,true,true,true,true,false,false,false,false,false,false,false,false,false] rfl rfl (any_of HT_.out (by kernel_rfl)) (fun _ _ _ h => h) (Or.inr ⟨by rfl, rfl⟩) ?_ ?_
   rotate_left
   ·simp only [Act.put, List.setIfInBounds_toArray, List.set_cons_zero, List.set_cons_succ, i64_w, i32_w]
    rfl
   refine pure_ (i := 8) (N := some 20) (v := undef) (a' := ?_) #[true,true,true,true,true,true,true,true,true,false,false,false,false,false,false,false,false] rfl rfl (any_of HT_.out (by kernel_rfl)) (fun _ _ _ h => h) (Or.inr ⟨by rfl, rfl⟩) ?_ ?_
   rotate_left
   ·simp only [Act.put, List.setIfInBounds_toArray, List.set_cons_zero, List.set_cons_succ, i64_w, i32_w]
    rfl
   refine pure_ (i := 9) (N := some 21) (v := undef) (a' := ?_) #[true,true,true,true,true,true,true,true,true,true,false,false,false,false,false,false,false] rfl rfl (any_of HT_.out (by kernel_rfl)) (fun _ _ _ h => h) (Or.inr ⟨by rfl, rfl⟩) ?_ ?_
   rotate_left
   ·simp only [Act.put, List.setIfInBounds_toArray, List.set_cons_zero, List.set_cons_succ, i64_w, i32_w]
    rfl
   refine pure_ (i := 10) (N := some 22) (v := undef) (a' := ?_) #[true,true,true,true,true,true,true,true,true,true,true,false,false,false,false,false,false] rfl rfl (any_of HT_.out (by kernel_rfl)) (fun _ _ _ h => h) (Or.inr ⟨by rfl, rfl⟩) ?_ ?_
   rotate_left
   ·simp only [Act.put, List.setIfInBounds_toArray, List.set_cons_zero, List.set_cons_succ, i64_w, i32_w]
    rfl
   refine pure_ (i := 11) (N := some 23) (v := undef) (a' := ?_) #[true,true,true,true,true,true,true,true,true,true,true,true,false,false,false,false,false] rfl rfl (any_of HT_.out (by kernel_rfl)) (fun _ _ _ h => h) (Or.inr ⟨by rfl, rfl⟩) ?_ ?_
   rotate_left
   ·simp only [Act.put, List.setIfInBounds_toArray, List.set_cons_zero, List.set_cons_succ, i64_w, i32_w]
    rfl
   refine pure_ (i := 12) (N := some 24) (v := undef) (a' := ?_) #[true,true,true,true,true,true,true,true,true,true,true,true,true,false,false,false,false] rfl rfl (any_of HT_.out (by kernel_rfl)) (fun _ _ _ h => h) (Or.inr ⟨by rfl, rfl⟩) ?_ ?_
   rotate_left
   ·simp only [Act.put, List.setIfInBounds_toArray, List.set_cons_zero, List.set_cons_succ, i64_w, i32_w]
    rfl
   refine pure_ (i := 13) (N := some 25) (v := undef) (a' := ?_) #[true,true,true,true,true,true,true,true,true,true,true,true,true,true,false,false,false] rfl rfl (any_of HT_.out (by kernel_rfl)) (fun _ _ _ h => h) (Or.inr ⟨by rfl, rfl⟩) ?_ ?_
   rotate_left
   ·simp only [Act.put, List.setIfInBounds_toArray, List.set_cons_zero, List.set_cons_succ, i64_w, i32_w]
    rfl
   refine pure_ (i := 14) (N := some 26) (v := undef) (a' := ?_) #[true,true,true,true,true,true,true,true,true,true,true,true,true,true,true,false,false] rfl rfl (any_of HT_.out (by kernel_rfl)) (fun _ _ _ h => h) (Or.inr ⟨by rfl, rfl⟩) ?_ ?_
   rotate_left
   ·simp only [Act.put, List.setIfInBounds_toArray, List.set_cons_zero, List.set_cons_succ, i64_w, i32_w]
    rfl
   refine pure_ (i := 15) (N := some 27) (v := undef) (a' := ?_) #[true,true,true,true,true,true,true,true,true,true,true,true,true,true,true,true,false] rfl rfl (any_of HT_.out (by kernel_rfl)) (fun _ _ _ h => h) (Or.inr ⟨by rfl, rfl⟩) ?_ ?_
   rotate_left
   ·simp only [Act.put, List.setIfInBounds_toArray, List.set_cons_zero, List.set_cons_succ, i64_w, i32_w]
    rfl
   refine pq_ 16 (some 28) ?_
   refine done_ (done_of HT_.out (by kernel_rfl)) ?_
   gi_wp2
   refine ⟨HK.out.2.2.2, HK.out.2.2.1, ⟨HK.out.1, H4.out, H5.out⟩, HK.out.2.1, fun i' h1 => ?_⟩
   by_cases e : i' = i
   ·subst e; exact (HSI.out _ _ rfl rfl).trans (Bool.false_and _)
   ·exact HPP.out i' (by omega)
  | true =>
   refine pq_ 7 (some 19) ?_
   refine pq_ 8 (some 20) ?_
   refine pq_ 9 (some 21) ?_
   refine tq_ 10 (some 22) ?_
   refine pq_ 11 (some 23) ?_
   refine pq_ 12 (some 24) ?_
   refine tq_ 13 (some 25) ?_
   refine tq_ 14 (some 26) ?_
   refine pq_ 15 (some 27) ?_
   refine pq_ 16 (some 28) ?_
   refine done_ (done_of HT_.out (by kernel_rfl)) ?_
   generalize hE2 : (X ((i + 1) % n) == tx && (Y ((i + 1) % n) == ty)) = fb at *
   have HE2 := Aside0.mk hE2
   clear hE2
   have r0 : wd.cell? ⟨gr, 0, none⟩ = some (.bool false) := blk_cell HK.out.1 0
   have rf := blk_frozen HK.out.1 0
   cases fb with
   | true =>
    gi_wp2
    have HK2 := HK.out.put hgs 0 (.bool true) rfl
    refine ⟨HK2.2.2.2, HK2.1, HK2.2.1, ?_⟩
    rw [← HB0.out]
    exact hsB_yes hi ((HSI.out _ _ rfl rfl).trans rfl)
   | false =>
    gi_wp2
    refine ⟨HK.out.2.2.2, HK.out.2.2.1, ⟨HK.out.1, H4.out, H5.out⟩, HK.out.2.1, fun i' h1 => ?_⟩
    by_cases e : i' = i
    ·subst e; exact (HSI.out _ _ rfl rfl).trans rfl
    ·exact HPP.out i' (by omega)
 ·rintro D W hD ⟨⟨hS, h4, h5⟩, hB, hP⟩ hdef
  have r0 : W.cell? ⟨gr, 0, none⟩ = some (.bool false) := blk_cell hS 0
  have rf := blk_frozen hS 0
  have hbt : b = false := by rw [← HB0.out]; exact hsB_no hP
  have HS2 := Aside0.mk hS
  have HB2 := Aside0.mk hB
  have HD2 := Aside0.mk hdef
  clear hS h4 h5 hB hP hdef
  go_wp2_with fail
  have hne2 : gr ≠ D := by omega
  have e1 := blk_put HS2.out 0 (.bool false) rfl
  have e3 := (Below.heap_setCell W ⟨gr, 0, none⟩ (.bool false) D (show D ≠ gr by omega)).trans HD2.out
  refine pl_leave e3 ?_
  have hput := (World.putObj_heap_other (o := .deferred none) hne2).trans e1
  have hc := blk_cell hput 0
  have f1 := belowK_b (w := w) (Nat.le_refl _) _ D _ (.deferred none) (by omega) e3 rfl rfl
  refine ⟨.bool false, ?_, ?_, (HB2.out.setCell (p := ⟨gr, 0, none⟩) hgs _).trans f1⟩
  ·simp [results, (rfl : Try.f47.results = #[.cell 6 4]), go_sem, hc]
  ·rw [hbt]
 ·rintro D i W hD hi ⟨hS, hB, hf⟩ hdef
  have hne2 : gr ≠ D := by omega
  refine pl_leave hdef ?_
  have hput := (World.putObj_heap_other (o := .deferred none) hne2).trans hS
  have hc := blk_cell hput 0
  have f1 := belowK_b (w := w) (Nat.le_refl _) _ D _ (.deferred none) (by omega) hdef rfl rfl
  refine ⟨.bool true, ?_, ?_, hB.trans f1⟩
  ·simp [results, (rfl : Try.f47.results = #[.cell 6 4]), go_sem, hc]
  ·rw [hf]
end
def cmN (h : Nat → Bool) : Nat → Int
 | 0 => 0
 | i + 1 => if h i = true then wrap64 (cmN h i + 1) else cmN h i
def cmS (l0 l1 : List S33) (i : Nat) : Bool := hsB (plX l1) (plY l1) l1.length (plX l0 ((i + 1) % l0.length)) (plY l0 ((i + 1) % l0.length)) (plX l0 i) (plY l0 i)
def impl_ParcelCommon.v (l0 l1 : List (S33)) : Int := if prB l0 = true ∧ prB l1 = true then cmN (cmS l0 l1) l0.length else -1
def impl_ParcelCommon.f (l0 : List (S33)) (l1 : List (S33)) : Option Int := some (impl_ParcelCommon.v l0 l1)
def plCom8.T : Bool × List (List Nat × List Nat) := (true,[([],[]),([],[]),([1],[1]),([2],[2]),([3],[3]),([4],[4]),([5],[5]),([6],[6]),([],[]),([8],[8]),([9],[9]),([10],[10]),([0,7,11],[0,7,11])])
def plCom8.B : List Nat := [0,0,2,6,14,30,62,126,0,256,768,1792,4095]
theorem plCom8.tab : rtab .any (opsOf Try.f15 8) = plCom8.T := by kernel_rfl
theorem plCom8.bits : waitsOk plCom8.T.2 plCom8.B = true := by kernel_rfl
theorem plCom8.both : rtab .any (opsOf Try.f15 8) = plCom8.T ∧ waitsOk plCom8.T.2 plCom8.B = true := ⟨plCom8.tab, plCom8.bits⟩
theorem common_no (A0 : Option Addr) (c0 : Nat) (l0 : List (S33)) (A1 : Option Addr) (c1 : Nat) (l1 : List (S33)) (w : World) (hr0 : Kd.C k33 w A0 l0.length l0) (hc0 : l0.length ≤ c0) (hr1 : Kd.C k33 w A1 l1.length l1) (hc1 : l1.length ≤ c1) (h : ¬ (prB l0 = true ∧ prB l1 = true)) :
  Calls Try.prog 15 #[.slice A0 l0.length c0, .slice A1 l1.length c1] w fun e w' => e = .returned (.int .i64 (-1)) ∧ Below w.heap.size w w' := by
 have HR := Aside0.mk hr0
 have HC := Aside0.mk hc0
 have HR1 := Aside0.mk hr1
 have HC1 := Aside0.mk hc1
 have HM := Aside0.mk (Hd.nil w)
 clear hr0 hr1
 cases hv : prB l0 with
 | false =>
  have HV := Aside0.mk hv
  cases hv1 : prB l1 with
  | false =>
   have HV1 := Aside0.mk hv1
   clear h hv hv1
   go_enter Try.func15, Try.ntmps15
   go_upto_region 2 with (go_at_call 42; have hbel := HM.out.1; (with_reducible refine (parcelOf_no A0 c0 l0 _ (Kd.C_below HR.out hbel) HC.out HV.out).mono ?_); rintro e w3 ⟨rfl, hb⟩; clear hbel; replace HM := Aside0.mk (HM.out.keep hb); clear hb)
   replace HM := Aside0.mk (HM.out.alloc #[.pointer none, .int .i64 0] 68)
   generalize w3.alloc (.cells #[.pointer none, .int .i64 0] 68) = w4 at *
   generalize w3.heap.size = g5 at *
   go_upto_region 3 with (go_at_call 42; have hbel := HM.out.1; (with_reducible refine (parcelOf_no A1 c1 l1 _ (Kd.C_below HR1.out hbel) HC1.out HV1.out).mono ?_); rintro e w6 ⟨rfl, hb⟩; clear hbel; replace HM := Aside0.mk (HM.out.keep hb); clear hb)
   replace HM := Aside0.mk (HM.out.alloc #[.pointer none, .int .i64 0] 68)
   generalize w6.alloc (.cells #[.pointer none, .int .i64 0] 68) = w7 at *
   generalize w6.heap.size = g7 at *
   go_wp2_with fail
   go_ret
   exact ⟨rfl, HM.out.1⟩
  | true =>
   have HV1 := Aside0.mk hv1
   clear h hv hv1
   go_enter Try.func15, Try.ntmps15
   go_upto_region 2 with (go_at_call 42; have hbel := HM.out.1; (with_reducible refine (parcelOf_no A0 c0 l0 _ (Kd.C_below HR.out hbel) HC.out HV.out).mono ?_); rintro e w3 ⟨rfl, hb⟩; clear hbel; replace HM := Aside0.mk (HM.out.keep hb); clear hb)
   replace HM := Aside0.mk (HM.out.alloc #[.pointer none, .int .i64 0] 68)
   generalize w3.alloc (.cells #[.pointer none, .int .i64 0] 68) = w4 at *
   generalize w3.heap.size = g5 at *
   go_upto_region 3 with (go_at_call 42; have hbel := HM.out.1; (with_reducible refine (parcelOf_yes A1 c1 l1 _ (Kd.C_below HR1.out hbel) HC1.out HV1.out).mono ?_); rintro e w6 ⟨cs, rfl, hrg, hb⟩; clear hbel; replace HM := Aside0.mk (HM.out.keep hb); clear hb hrg)
   replace HM := Aside0.mk (HM.out.alloc #[.pointer (some ⟨cs 0, 0, none⟩), .int .i64 (l1.length : Int)] 68)
   generalize w6.alloc (.cells #[.pointer (some ⟨cs 0, 0, none⟩), .int .i64 (l1.length : Int)] 68) = w7 at *
   generalize w6.heap.size = g7 at *
   go_wp2_with fail
   go_ret
   exact ⟨rfl, HM.out.1⟩
 | true =>
  have HV := Aside0.mk hv
  cases hv1 : prB l1 with
  | true => exact absurd ⟨hv, hv1⟩ h
  | false =>
   have HV1 := Aside0.mk hv1
   clear h hv hv1
   go_enter Try.func15, Try.ntmps15
   go_upto_region 2 with (go_at_call 42; have hbel := HM.out.1; (with_reducible refine (parcelOf_yes A0 c0 l0 _ (Kd.C_below HR.out hbel) HC.out HV.out).mono ?_); rintro e w3 ⟨bs, rfl, hrg, hb⟩; clear hbel; replace HM := Aside0.mk (HM.out.keep hb); clear hb hrg)
   replace HM := Aside0.mk (HM.out.alloc #[.pointer (some ⟨bs 0, 0, none⟩), .int .i64 (l0.length : Int)] 68)
   generalize w3.alloc (.cells #[.pointer (some ⟨bs 0, 0, none⟩), .int .i64 (l0.length : Int)] 68) = w4 at *
   generalize w3.heap.size = g5 at *
   go_upto_region 3 with (go_at_call 42; have hbel := HM.out.1; (with_reducible refine (parcelOf_no A1 c1 l1 _ (Kd.C_below HR1.out hbel) HC1.out HV1.out).mono ?_); rintro e w6 ⟨rfl, hb⟩; clear hbel; replace HM := Aside0.mk (HM.out.keep hb); clear hb)
   replace HM := Aside0.mk (HM.out.alloc #[.pointer none, .int .i64 0] 68)
   generalize w6.alloc (.cells #[.pointer none, .int .i64 0] 68) = w7 at *
   generalize w6.heap.size = g7 at *
   go_wp2_with fail
   go_ret
   exact ⟨rfl, HM.out.1⟩
section
attribute [local go_sem] Oper.semAt_some
set_option maxHeartbeats 8000000 in
set_option maxRecDepth 100000 in
theorem common_yes (A0 : Option Addr) (c0 : Nat) (l0 : List (S33)) (A1 : Option Addr) (c1 : Nat) (l1 : List (S33)) (w : World) (hr0 : Kd.C k33 w A0 l0.length l0) (hc0 : l0.length ≤ c0) (hr1 : Kd.C k33 w A1 l1.length l1) (hc1 : l1.length ≤ c1) (hv : prB l0 = true) (hv1 : prB l1 = true) :
  Calls Try.prog 15 #[.slice A0 l0.length c0, .slice A1 l1.length c1] w fun e w' => e = .returned (.int .i64 (cmN (cmS l0 l1) l0.length)) ∧ Below w.heap.size w w' := by
 have HR := Aside0.mk hr0
 have HC := Aside0.mk hc0
 have HR1 := Aside0.mk hr1
 have HC1 := Aside0.mk hc1
 have HM := Aside0.mk (Hd.nil w)
 have HV := Aside0.mk hv
 have HV1 := Aside0.mk hv1
 have hvi := vdB_iff.1 (okB_vd (prB_ok hv))
 have hvj := vdB_iff.1 (okB_vd (prB_ok hv1))
 have hpos : 0 < l0.length := by omega
 clear hr0 hr1 hv hv1
 refine pl_enter Try.func15 rfl ?_
 simp only [Try.ntmps15, List.size_toArray, List.length_cons, List.length_nil, Nat.reduceAdd, Nat.reduceSub, Array.replicate_succ, Array.replicate_zero, List.push_toArray, List.append_toArray, List.nil_append, List.cons_append]
 go_upto_region 2 with (go_at_call 42; have hbel := HM.out.1; (with_reducible refine (parcelOf_yes A0 c0 l0 _ (Kd.C_below HR.out hbel) HC.out HV.out).mono ?_); rintro e w3 ⟨bs, rfl, hrg, hb⟩; clear hbel; replace HM := Aside0.mk (HM.out.keep hb); have HP := Aside0.mk hrg; clear hb hrg)
 replace HM := Aside0.mk (HM.out.alloc #[.pointer (some ⟨bs 0, 0, none⟩), .int .i64 (l0.length : Int)] 68)
 replace HP := Aside0.mk (HP.out.nextAlloc (.cells #[.pointer (some ⟨bs 0, 0, none⟩), .int .i64 (l0.length : Int)] 68))
 generalize w3.alloc (.cells #[.pointer (some ⟨bs 0, 0, none⟩), .int .i64 (l0.length : Int)] 68) = w4 at *
 generalize w3.heap.size = g5 at *
 go_upto_region 3 with (go_at_call 42; have hbel := HM.out.1; (with_reducible refine (parcelOf_yes A1 c1 l1 _ (Kd.C_below HR1.out hbel) HC1.out HV1.out).mono ?_); rintro e w6 ⟨cs, rfl, hrg, hb⟩; clear hbel; replace HM := Aside0.mk (HM.out.keep hb); replace HP := Aside0.mk (HP.out.next hb); have HQ := Aside0.mk hrg; clear hb hrg)
 replace HM := Aside0.mk (HM.out.alloc #[.pointer (some ⟨cs 0, 0, none⟩), .int .i64 (l1.length : Int)] 68)
 replace HP := Aside0.mk (HP.out.nextAlloc (.cells #[.pointer (some ⟨cs 0, 0, none⟩), .int .i64 (l1.length : Int)] 68))
 replace HQ := Aside0.mk (HQ.out.nextAlloc (.cells #[.pointer (some ⟨cs 0, 0, none⟩), .int .i64 (l1.length : Int)] 68))
 generalize w6.alloc (.cells #[.pointer (some ⟨cs 0, 0, none⟩), .int .i64 (l1.length : Int)] 68) = w7 at *
 generalize w6.heap.size = g7 at *
 go_upto_region 5 with fail
 generalize hwd : w7 = wb at *
 have HB := Aside0.mk HM.out.1
 have hb0 := HB.out.size
 have h7a := HM.out.a0
 have h5a := HM.out.a1
 have HB7 := Aside0.mk h7a
 have HB5 := Aside0.mk h5a
 clear HM hwd h7a h5a
 have HM := Aside0.mk ((Hd.nil wb).alloc #[.int .i64 0] 3)
 go_upto_region 6 with fail
 generalize hgs0 : wb.heap.size = gs at *
 generalize wb.alloc (.cells #[.int .i64 0] 3) = w2 at *
 have hlb : wb.heap.size ≤ gs := by omega
 have hM1 := HM.out.1
 rw [hgs0] at hM1
 have HRP := Aside0.mk (HP.out.below hM1)
 have hlt7 := blk_lt HB7.out
 rw [hgs0] at hlt7
 replace HB5 := Aside0.mk ((hM1.block _ (by have := blk_lt HB5.out; omega)).trans HB5.out)
 have hlt5 := blk_lt HB5.out
 have x0 : w2.cell? ⟨g5, 0, none⟩ = some (.pointer (some ⟨bs 0, 0, none⟩)) := blk_cell HB5.out 0
 have x1 : w2.cell? ⟨g5, 1, none⟩ = some (.int .i64 (l0.length : Int)) := blk_cell HB5.out 1
 go_wp2_with fail
 clear x0 x1
 have hw2 : gs ≤ w2.heap.size := by have := hM1.size; omega
 refine pl_range (gf := 46) rfl (fun args w => enters_ Try.func46 (by kernel_rfl) rfl args w) gs l0.length hw2 _ (corners_walks gs l0.length bs (plX l0) (plY l0) w2 (by omega) hw2 HRP.out)
  (fun i W => W.heap[gs]? = some (.cells #[.int .i64 (cmN (cmS l0 l1) i)] 3 (0, 0)) ∧ Below gs wb W) (fun _ _ => False)
  (OwnFrom.and (own_block (fun _ => rfl)) (ownFrom_below (by omega) hw2)) (fun _ _ _ _ h _ _ => h) ⟨HM.out.a0, hM1⟩ (fun i => { tmps := #[.slice A0 l0.length c0, .slice A1 l1.length c1, undef, undef, .int .i64 0, .pointer (some ⟨g5, 0, none⟩), .bool true, .pointer (some ⟨g7, 0, none⟩), .bool true, .pointer (some ⟨gs, 0, none⟩), .pointer (some ⟨bs i, 0, none⟩), .tuple #[.agg #[.pointer (some ⟨bs 0, 0, none⟩), .int .i64 (l0.length : Int)], .bool true], .slice A0 l0.length c0, .tuple #[.agg #[.pointer (some ⟨bs 0, 0, none⟩), .int .i64 (l0.length : Int)], .bool true], .agg #[.pointer (some ⟨bs 0, 0, none⟩), .int .i64 (l0.length : Int)], .bool true, .tuple #[.agg #[.pointer (some ⟨cs 0, 0, none⟩), .int .i64 (l1.length : Int)], .bool true], .slice A1 l1.length c1, .tuple #[.agg #[.pointer (some ⟨cs 0, 0, none⟩), .int .i64 (l1.length : Int)], .bool true], .agg #[.pointer (some ⟨cs 0, 0, none⟩), .int .i64 (l1.length : Int)], .bool true, .bool true, .bool false, .bool false, .bool true, .bool false, .bool false, .pointer (some ⟨g5, 0, none⟩), .agg #[.pointer (some ⟨bs 0, 0, none⟩), .int .i64 (l0.length : Int)], .func (.func 46) #[.agg #[.pointer (some ⟨bs 0, 0, none⟩), .int .i64 (l0.length : Int)]] #[], .pointer (some ⟨bs i, 0, none⟩), undef, undef, undef, undef, undef, undef, undef, undef, undef, undef, undef, undef, undef, undef, undef, undef], defers := [] }) ?_ ?_ ?_ ?_
 ·intro l i W K hK
  exact pl_assign hK
 ·rintro l i W hi ⟨hS, hBW⟩
  have hi1 : (i + 1) % l0.length < l0.length := Nat.mod_lt _ hpos
  have HRW := Aside0.mk (HP.out.below hBW)
  have HQW := Aside0.mk (HQ.out.below hBW)
  have H7 := Aside0.mk ((hBW.block _ hlt7).trans HB7.out)
  have HK : Aside0 (Rd wb W W w2.heap.size gs (.cells #[.int .i64 (cmN (cmS l0 l1) i)] 3 (0, 0))) := ⟨⟨hS, by rw [hgs0]; exact hBW, Below.refl _ _, KeepsFrom.refl _ _⟩⟩
  have HA : Aside0 (cmN (cmS l0 l1) (i + 1) = if cmS l0 l1 i = true then wrap64 (cmN (cmS l0 l1) i + 1) else cmN (cmS l0 l1) i) := ⟨rfl⟩
  generalize hsm : cmN (cmS l0 l1) i = sm at HK HA
  have HC2 := Aside0.mk (fun (w : World) (n₀ : Nat) (hrg : Ring w n₀ l1.length cs (plX l1) (plY l1)) (hle : n₀ ≤ w.heap.size) => hasSide_calls l1.length cs (plX l1) (plY l1) (plX l0 ((i + 1) % l0.length)) (plY l0 ((i + 1) % l0.length)) (plX l0 i) (plY l0 i) w (by omega) (hrg.mono hle))
  rw [show hsB (plX l1) (plY l1) l1.length (plX l0 ((i + 1) % l0.length)) (plY l0 ((i + 1) % l0.length)) (plX l0 i) (plY l0 i) = cmS l0 l1 i from rfl] at HC2
  have hWs := hBW.size
  clear hS hBW HM hM1 hsm
  gi_wp2
  have hdb : Below gs W W.drew := (below_drew1 (Below.refl _ W)).mono (Nat.le_trans (Nat.le_of_eq hgs0.symm) hWs)
  replace HRW := Aside0.mk (HRW.out.below hdb)
  replace HQW := Aside0.mk (HQW.out.below hdb)
  replace H7 := Aside0.mk (blk_drew H7.out)
  replace HK := Aside0.mk HK.out.drew
  clear hdb
  refine pl_start (S := fun w' => w'.cell? ⟨bs i, 0, none⟩ = some (.int .i64 (plX l0 i)) ∧ w'.cell? ⟨bs i, 1, none⟩ = some (.int .i64 (plY l0 i)) ∧ w'.cell? ⟨bs i, 2, none⟩ = some (.pointer (some ⟨bs ((i + 1) % l0.length), 0, none⟩)) ∧ w'.cell? ⟨bs ((i + 1) % l0.length), 0, none⟩ = some (.int .i64 (plX l0 ((i + 1) % l0.length))) ∧ w'.cell? ⟨bs ((i + 1) % l0.length), 1, none⟩ = some (.int .i64 (plY l0 ((i + 1) % l0.length))) ∧ w'.cell? ⟨g7, 0, none⟩ = some (.pointer (some ⟨cs 0, 0, none⟩)) ∧ w'.cell? ⟨g7, 1, none⟩ = some (.int .i64 (l1.length : Int))) (ds := []) #[false,false,false,false,false,false,false,false,false,false,false,false,false] (by kernel_rfl) (noDefer_all (by kernel_rfl)) (fun ⟨_, _, h⟩ => h) rfl rfl ⟨(blk_cell (HRW.out.cell _ hi) 0).trans rfl, (blk_cell (HRW.out.cell _ hi) 1).trans rfl, (blk_cell (HRW.out.cell _ hi) 2).trans rfl, (blk_cell (HRW.out.cell _ hi1) 0).trans rfl, (blk_cell (HRW.out.cell _ hi1) 1).trans rfl, (blk_cell H7.out 0).trans rfl, (blk_cell H7.out 1).trans rfl⟩ (fun hHeld => ?_)
  refine with_tabW plCom8.both.1 plCom8.both.2 (fun HT_ HW_ => ?_)
  generalize W.drew = wd at HK HRW HQW H7 hHeld ⊢
  refine tq_ 0 (some 31) ?_
  refine pq_ 1 (some 32) ?_
  refine pq_ 2 (some 33) ?_
  refine pq_ 3 (some 34) ?_
  refine tq_ 4 (some 35) ?_
  refine pq_ 5 (some 36) ?_
  refine pq_ 6 (some 37) ?_
  refine tq_ 7 (some 38) ?_
  refine pq_ 8 (some 39) ?_
  refine pq_ 9 (some 40) ?_
  refine pq_ 10 (some 41) ?_
  refine tq_ 11 (some 42) ?_
  refine one_ (i := 12) (N := some 43) #[true,true,true,true,true,true,true,true,true,true,true,true,true] rfl rfl (one_of HT_.out (by kernel_rfl)) (by decide) (fun K hK => ?_)
  refine goes_ Try.func47 (by kernel_rfl) rfl #[.agg #[.pointer (some ⟨cs 0, 0, none⟩), .int .i64 (l1.length : Int)], .agg #[.int .i64 (plX l0 ((i + 1) % l0.length)), .int .i64 (plY l0 ((i + 1) % l0.length))], .agg #[.int .i64 (plX l0 i), .int .i64 (plY l0 i)]] (by rfl) rfl rfl al ?_
  have hsz : gs ≤ wd.heap.size := by have := HK.out.2.1.size; omega
  with_reducible refine (HC2.out _ _ HQW.out hsz).mono ?_
  rintro e w_ ⟨rfl, hb⟩
  refine ⟨_, rfl, ?_⟩
  replace HRW := Aside0.mk (HRW.out.below (hb.mono hsz))
  replace H7 := Aside0.mk (blk_below H7.out hb)
  replace HK := Aside0.mk (HK.out.keep hb)
  clear hb HC2 HQW hsz
  refine hK.out _ _ ⟨(blk_cell (HRW.out.cell _ hi) 0).trans rfl, (blk_cell (HRW.out.cell _ hi) 1).trans rfl, (blk_cell (HRW.out.cell _ hi) 2).trans rfl, (blk_cell (HRW.out.cell _ hi1) 0).trans rfl, (blk_cell (HRW.out.cell _ hi1) 1).trans rfl, (blk_cell H7.out 0).trans rfl, (blk_cell H7.out 1).trans rfl⟩ (fun hHeld => ?_)
  clear hK K
  refine norm_ (a' := ?_) ?_ ?_
  rotate_left
  ·show Act.put _ (some 43) _ = _
   simp only [Act.put, List.setIfInBounds_toArray, List.set_cons_zero, List.set_cons_succ, i64_w, i32_w]
   rfl
  refine done_ (done_of HT_.out (by kernel_rfl)) ?_
  have r0 : w_.cell? ⟨gs, 0, none⟩ = some (.int .i64 sm) := blk_cell HK.out.1 0
  have rf := blk_frozen HK.out.1 0
  cases hcm : cmS l0 l1 i with
  | true =>
   rw [hcm, if_pos rfl] at HA
   gi_wp2
   have HK2 := HK.out.put (by omega) 0 (.int .i64 (wrap64 (sm + 1))) rfl
   rw [← HA.out] at HK2
   have h1 := HK2.2.1
   have h2 := HK2.2.2.1
   rw [hgs0] at h1 h2
   (try simp only [i64_w])
   rw [← HA.out]
   exact ⟨HK2.2.2.2, h2, HK2.1, h1⟩
  | false =>
   rw [hcm, if_neg (by simp)] at HA
   gi_wp2
   have h1 := HK.out.2.1
   have h2 := HK.out.2.2.1
   rw [hgs0] at h1 h2
   rw [← HA.out] at HK
   exact ⟨HK.out.2.2.2, h2, HK.out.1, h1⟩
 ·rintro D W hD ⟨hS, hBW⟩ hdef
  have s0 : W.cell? ⟨gs, 0, none⟩ = some (.int .i64 (cmN (cmS l0 l1) l0.length)) := (blk_cell hS 0).trans rfl
  go_wp2_with fail
  refine pl_leave hdef ?_
  refine ⟨_, ?_, rfl, (HB.out.trans (hBW.mono hb0)).trans (belowK_b (w := w) (Nat.le_refl _) W D _ _ (by omega) hdef rfl rfl)⟩
  simp [results, (rfl : Try.f15.results = #[.tmp 4])]
 ·intro D i W _ _ h; exact h.elim
end
theorem impl_ParcelCommon.calls (A0 : Option Addr) (c0 : Nat) (l0 : List (S33)) (A1 : Option Addr) (c1 : Nat) (l1 : List (S33)) (r : Int) (w : World) (hr0 : Kd.C k33 w A0 l0.length l0) (hc0 : l0.length ≤ c0) (hr1 : Kd.C k33 w A1 l1.length l1) (hc1 : l1.length ≤ c1) (h : impl_ParcelCommon.f l0 l1 = some r) :
  Calls Try.prog 15 #[.slice A0 l0.length c0, .slice A1 l1.length c1] w fun e w' => e = .returned (.int .i64 r) ∧ Below w.heap.size w w' := by
 have h := Option.some.inj h
 unfold impl_ParcelCommon.v at h
 by_cases hv : prB l0 = true ∧ prB l1 = true
 ·rw [if_pos hv] at h
  subst h
  exact common_yes A0 c0 l0 A1 c1 l1 w hr0 hc0 hr1 hc1 hv.1 hv.2
 ·rw [if_neg hv] at h
  subst h
  exact common_no A0 c0 l0 A1 c1 l1 w hr0 hc0 hr1 hc1 hv
end Go.Proofs.Ytfonigbkoligmaa.P
-- squeezed

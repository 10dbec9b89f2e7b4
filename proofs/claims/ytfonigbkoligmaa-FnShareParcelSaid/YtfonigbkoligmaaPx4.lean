import Derived.Test.YtfonigbkoligmaaPx0
import Derived.Test.YtfonigbkoligmaaPx3
namespace Go.Proofs.Ytfonigbkoligmaa.P
open Go.RowKit Go.Proofs.YtfonigbkoligmaaW.PrintWords Go.Proofs.YtfonigbkoligmaaW.PrintLast Go.Proofs.YtfonigbkoligmaaW.PrintMore
attribute [local go_sem] max2_int min2_int max_two min_two max_three min_three max_four min_four
set_option linter.unusedVariables false
set_option linter.unusedSimpArgs false
def spec_l31Points.l0 : Nat → List (S33) → Int → Option (Bool)
 | 0, _, _ => none
 | k + 1, x0, x3 => if x3 < (x0.length : Int) then (if 0 ≤ x3 then ((spec_PointValid.f ((rd_T33 x0 x3).f0) ((rd_T33 x0 x3).f1)).bind fun t148 => (if t148 = true then (spec_l31Points.l0 k x0 (wrap64 (x3 + 1))) else (some false))) else (none)) else ((spec_l6In.f (x0.length : Int) 3 12).bind fun t149 => (some t149))
def spec_l31Points.f (k : Nat) (l0 : List (S33)) : Option (Bool) := spec_l31Points.l0 k l0 0
theorem spec_l31Points.mono_l : ∀ k, (∀ y0 y1, LeO (spec_l31Points.l0 k y0 y1) (spec_l31Points.l0 (k + 1) y0 y1))
 | 0 => fun _ _ r h => by simp [spec_l31Points.l0] at h
 | k + 1 => by
  have ih0 := spec_l31Points.mono_l k
  ·intro y0 y1
   unfold spec_l31Points.l0
   repeat' first
   | (with_reducible exact ih0 _ _)
   | (with_reducible exact LeO.refl _)
   | (with_reducible exact LeO.none _)
   | (with_reducible refine LeO.ite ?_ ?_)
   | (with_reducible refine LeO.bind ?_ (fun _ => ?_))
   | exact ih0 _ _
   | exact LeO.none _
   | refine LeO.ite ?_ ?_
   | refine LeO.bind ?_ (fun _ => ?_)
theorem spec_l31Points.mono : ∀ a0 k, LeO (spec_l31Points.f k a0) (spec_l31Points.f (k + 1) a0) := by
 intro a0 k
 have ih0 := spec_l31Points.mono_l k
 unfold spec_l31Points.f
 repeat' first
   | (with_reducible exact ih0 _ _)
   | (with_reducible exact LeO.refl _)
   | (with_reducible exact LeO.none _)
   | (with_reducible refine LeO.ite ?_ ?_)
   | (with_reducible refine LeO.bind ?_ (fun _ => ?_))
   | exact ih0 _ _
   | exact LeO.none _
   | refine LeO.ite ?_ ?_
   | refine LeO.bind ?_ (fun _ => ?_)
set_option maxHeartbeats 8000000 in
set_option maxRecDepth 100000 in
theorem spec_l31Points.calls (k : Nat) (A0 : Option Addr) (c0 : Nat) (l0 : List (S33)) (r : Bool) (w : World) (hr0 : Kd.C k33 w A0 l0.length l0) (hc0 : l0.length ≤ c0) (h : spec_l31Points.f k l0 = some r) :
  Calls Try.prog 88 #[.slice A0 l0.length c0] w fun e w' => e = .returned (.bool r) ∧ Below w.heap.size w w' := by
 have hu33 := Try.underlying33
 have HR0 := Aside0.mk hr0
 have HC0 := Aside0.mk hc0
 clear hr0 hc0
 have HB := Aside0.mk (Below.refl w.heap.size w)
 have H : (spec_l31Points.l0 k l0 0) = some r := h
 clear h
 have H' := Aside0.mk H
 clear H
 go_enter Try.func88, Try.ntmps88
 go_wp2
 go_loopg [3] k (fun kq v3 w' => ∃ (x3_1 : Int), v3 = .int .i64 x3_1 ∧ Aside0 (spec_l31Points.l0 kq l0 x3_1 = some r) ∧ Aside0 (kq ≤ k) ∧ Aside0 (Below w.heap.size w w'))
 case atStart => exact ⟨(0), (by first | rfl | (simp; done) | (simp [*]; done)), H', ⟨Nat.le_refl _⟩, ⟨lb HB.out⟩⟩
 case round =>
  clear H'
  obtain ⟨x3_1, rfl, HA, HK1, HB⟩ := hrel
  cases gk with
  | zero => exact absurd HA.out (by simp [spec_l31Points.l0])
  | succ k1 =>
   have H := HA.out
   clear HA
   simp only [spec_l31Points.l0] at H
   by_cases c2 : x3_1 < (l0.length : Int)
   ·rw [if_pos c2] at H
    have c2b0 : decide (x3_1 < (l0.length : Int)) = true := decide_eq_true c2
    clear c2
    by_cases c3 : 0 ≤ x3_1
    ·rw [if_pos c3] at H
     have c3b0 : decide (0 ≤ x3_1) = true := decide_eq_true c3
     clear c3
     replace H := Option.bind_eq_some_iff.mp H
     obtain ⟨t148, A40, H⟩ := H
     replace H : (if t148 = true then (spec_l31Points.l0 k1 l0 (wrap64 (x3_1 + 1))) else (some false)) = some r := H
     have A4 := Aside0.mk A40
     clear A40
     by_cases c5 : t148 = true
     ·subst c5
      have H1 : (spec_l31Points.l0 k1 l0 (wrap64 (x3_1 + 1))) = some r := by rw [if_pos rfl] at H; exact H
      clear H
      have H := H1
      clear H1
      have H' := Aside0.mk H
      clear H
      have p147 : 0 ≤ (x3_1 : Int) := oa
      have q147 : x3_1 < (l0.length : Int) := oa
      obtain ⟨ad147, e147, hx147_0, hx147_1⟩ := at_T33 HR0.out x3_1 p147 q147
      cases e147
      replace hx147_0 := (HB.out.cell (World.block_lt_of_cell? w _ hx147_0)).trans hx147_0
      replace hx147_1 := (HB.out.cell (World.block_lt_of_cell? w _ hx147_1)).trans hx147_1
      replace p147 := eq_true p147
      replace q147 := eq_true q147
      go_wp2_with (first | ((with_reducible refine gate_callee (f := 86) rfl ?_); refine goesL_ (some 14) rfl rfl Try.func86 (by kernel_rfl) rfl #[.agg #[.int .i64 ((rd_T33 l0 x3_1).f0), .int .i64 ((rd_T33 l0 x3_1).f1)]] rfl al ?_; (with_reducible refine (spec_PointValid.calls ((rd_T33 l0 x3_1).f0) ((rd_T33 l0 x3_1).f1) true _ A4.out).mono ?_); rintro e w6 ⟨rfl, hb⟩; refine ⟨_, rfl, ?_⟩; have n0_ := Aside0.mk (below_step (lb HB.out) hb); clear HB; have HB := n0_; clear n0_; (try clear hb); (try clear hb2); (try clear hk); (try clear hi)))
      go_roundg k1
      case measure => have := HK1.out; omega
      case rel => exact ⟨(wrap64 (x3_1 + 1)), (by first | rfl | (simp; done) | (simp [*]; done)), H', ⟨by have := HK1.out; omega⟩, ⟨lb HB.out⟩⟩
     ·replace c5 := Bool.eq_false_iff.mpr c5
      subst c5
      have H1 : (some false) = some r := by rw [if_neg (show ¬ (false = true) by decide)] at H; exact H
      clear H
      have H := H1
      clear H1
      obtain rfl := Option.some.inj H
      have p147 : 0 ≤ (x3_1 : Int) := oa
      have q147 : x3_1 < (l0.length : Int) := oa
      obtain ⟨ad147, e147, hx147_0, hx147_1⟩ := at_T33 HR0.out x3_1 p147 q147
      cases e147
      replace hx147_0 := (HB.out.cell (World.block_lt_of_cell? w _ hx147_0)).trans hx147_0
      replace hx147_1 := (HB.out.cell (World.block_lt_of_cell? w _ hx147_1)).trans hx147_1
      replace p147 := eq_true p147
      replace q147 := eq_true q147
      go_wp2_with (first | ((with_reducible refine gate_callee (f := 86) rfl ?_); refine goesL_ (some 14) rfl rfl Try.func86 (by kernel_rfl) rfl #[.agg #[.int .i64 ((rd_T33 l0 x3_1).f0), .int .i64 ((rd_T33 l0 x3_1).f1)]] rfl al ?_; (with_reducible refine (spec_PointValid.calls ((rd_T33 l0 x3_1).f0) ((rd_T33 l0 x3_1).f1) false _ A4.out).mono ?_); rintro e w7 ⟨rfl, hb⟩; refine ⟨_, rfl, ?_⟩; have n0_ := Aside0.mk (below_step (lb HB.out) hb); clear HB; have HB := n0_; clear n0_; (try clear hb); (try clear hb2); (try clear hk); (try clear hi)))
      go_ret
      exact ⟨er, lb HB.out⟩
    ·rw [if_neg c3] at H
     exact absurd H (by simp)
   ·rw [if_neg c2] at H
    have c2b0 : decide (x3_1 < (l0.length : Int)) = false := decide_eq_false c2
    clear c2
    replace H := Option.bind_eq_some_iff.mp H
    obtain ⟨t149, A80, H⟩ := H
    replace H : (some t149) = some r := H
    have A8 := Aside0.mk A80
    clear A80
    obtain rfl := Option.some.inj H
    go_wp2_with (first | ((with_reducible refine gate_callee (f := 36) rfl ?_); refine goesL_ (some 18) rfl rfl Try.func36 (by kernel_rfl) rfl #[.int .i64 (l0.length : Int), .int .i64 3, .int .i64 12] rfl al ?_; (with_reducible refine (spec_l6In.calls (l0.length : Int) 3 12 t149 _ A8.out).mono ?_); rintro e w' ⟨rfl, ⟨nd, rfl⟩⟩; refine ⟨_, rfl, ?_⟩))
    go_ret
    exact ⟨er, lb HB.out⟩
def spec_PolyBack.l0 : Nat → List (S33) → List (S33) → Int → Option ((List (S33)) × Bool)
 | 0, _, _, _ => none
 | k + 1, x0, x4, x5 => if x5 > 0 then (if 0 ≤ x5 then (if x5 < (x0.length : Int) then (if x4.length < 8796093022208 then (spec_PolyBack.l0 k x0 (x4 ++ [(⟨(rd_T33 x0 x5).f0, (rd_T33 x0 x5).f1⟩ : S33)]) (wrap64 (x5 - 1))) else (none)) else (none)) else (none)) else (some (x4, true))
def spec_PolyBack.f (k : Nat) (l0 : List (S33)) : Option ((List (S33)) × Bool) := (spec_l31Points.f k l0).bind fun t150 => (if t150 = true then (if 0 < (l0.length : Int) then (spec_PolyBack.l0 k l0 (([(⟨(rd_T33 l0 0).f0, (rd_T33 l0 0).f1⟩ : S33)] : List (S33))) (wrap64 ((l0.length : Int) - 1))) else (none)) else (some ((([] : List (S33))), false)))
theorem spec_PolyBack.mono_l : ∀ k, (∀ y0 y1 y2, LeO (spec_PolyBack.l0 k y0 y1 y2) (spec_PolyBack.l0 (k + 1) y0 y1 y2))
 | 0 => fun _ _ _ r h => by simp [spec_PolyBack.l0] at h
 | k + 1 => by
  have ih0 := spec_PolyBack.mono_l k
  ·intro y0 y1 y2
   unfold spec_PolyBack.l0
   repeat' first
   | (with_reducible exact ih0 _ _ _)
   | (with_reducible exact spec_l31Points.mono _ _)
   | (with_reducible exact LeO.refl _)
   | (with_reducible exact LeO.none _)
   | (with_reducible refine LeO.ite ?_ ?_)
   | (with_reducible refine LeO.bind ?_ (fun _ => ?_))
   | exact ih0 _ _ _
   | exact spec_l31Points.mono _ _
   | exact LeO.none _
   | refine LeO.ite ?_ ?_
   | refine LeO.bind ?_ (fun _ => ?_)
theorem spec_PolyBack.mono : ∀ a0 k, LeO (spec_PolyBack.f k a0) (spec_PolyBack.f (k + 1) a0) := by
 intro a0 k
 have ih0 := spec_PolyBack.mono_l k
 unfold spec_PolyBack.f
 repeat' first
   | (with_reducible exact ih0 _ _ _)
   | (with_reducible exact spec_l31Points.mono _ _)
   | (with_reducible exact LeO.refl _)
   | (with_reducible exact LeO.none _)
   | (with_reducible refine LeO.ite ?_ ?_)
   | (with_reducible refine LeO.bind ?_ (fun _ => ?_))
   | exact ih0 _ _ _
   | exact spec_l31Points.mono _ _
   | exact LeO.none _
   | refine LeO.ite ?_ ?_
   | refine LeO.bind ?_ (fun _ => ?_)
set_option maxHeartbeats 8000000 in
set_option maxRecDepth 100000 in
theorem spec_PolyBack.calls (k : Nat) (A0 : Option Addr) (c0 : Nat) (l0 : List (S33)) (r1 : List (S33)) (r2 : Bool) (w : World) (hr0 : Kd.C k33 w A0 l0.length l0) (hc0 : l0.length ≤ c0) (h : spec_PolyBack.f k l0 = some (r1, r2)) :
  Calls Try.prog 82 #[.slice A0 l0.length c0] w fun e w' => ∃ v0_ : Value, e = .returned (.tuple #[v0_, .bool r2]) ∧ Kd.R k33 33 w' w.heap.size (fun _ => True) v0_ r1 ∧ Below w.heap.size w w' := by
 have hu33 := Try.underlying33
 have HR0 := Aside0.mk hr0
 have HC0 := Aside0.mk hc0
 clear hr0 hc0
 have HB := Aside0.mk (Below.refl w.heap.size w)
 have H : ((spec_l31Points.f k l0).bind fun t150 => (if t150 = true then (if 0 < (l0.length : Int) then (spec_PolyBack.l0 k l0 (([(⟨(rd_T33 l0 0).f0, (rd_T33 l0 0).f1⟩ : S33)] : List (S33))) (wrap64 ((l0.length : Int) - 1))) else (none)) else (some ((([] : List (S33))), false)))) = some (r1, r2) := h
 clear h
 replace H := Option.bind_eq_some_iff.mp H
 obtain ⟨t150, A20, H⟩ := H
 replace H : (if t150 = true then (if 0 < (l0.length : Int) then (spec_PolyBack.l0 k l0 (([(⟨(rd_T33 l0 0).f0, (rd_T33 l0 0).f1⟩ : S33)] : List (S33))) (wrap64 ((l0.length : Int) - 1))) else (none)) else (some ((([] : List (S33))), false))) = some (r1, r2) := H
 have A2 := Aside0.mk A20
 clear A20
 by_cases c3 : t150 = true
 ·subst c3
  have H1 : (if 0 < (l0.length : Int) then (spec_PolyBack.l0 k l0 (([(⟨(rd_T33 l0 0).f0, (rd_T33 l0 0).f1⟩ : S33)] : List (S33))) (wrap64 ((l0.length : Int) - 1))) else (none)) = some (r1, r2) := by rw [if_pos rfl] at H; exact H
  clear H
  have H := H1
  clear H1
  by_cases c4 : 0 < (l0.length : Int)
  ·rw [if_pos c4] at H
   have c4b0 : decide (0 < (l0.length : Int)) = true := decide_eq_true c4
   have c4b1 : decide (0 < l0.length) = true := decide_eq_true (by omega)
   clear c4
   obtain ⟨y155, hy155⟩ : ∃ y_ : List (S33), y_ = (([(⟨(rd_T33 l0 0).f0, (rd_T33 l0 0).f1⟩ : S33)] : List (S33))) := ⟨_, rfl⟩
   replace H : (spec_PolyBack.l0 k l0 y155 (wrap64 ((l0.length : Int) - 1))) = some (r1, r2) := by first | (rw [hy155]; with_reducible exact H) | (have H2_ := (Option.bind_some _ _).symm.trans H; rw [hy155]; with_reducible exact H2_) | (have H2_ := (Option.bind_some _ _).symm.trans H; with_reducible exact H2_) | with_reducible exact H | (rw [hy155]; exact H) | exact H
   have Ny155 := Aside0.mk hy155
   clear hy155
   have H' := Aside0.mk H
   clear H
   go_enter Try.func82, Try.ntmps82
   go_wp2_with (first | ((with_reducible refine gate_callee (f := 88) rfl ?_); refine goesL_ (some 7) rfl rfl Try.func88 (by kernel_rfl) rfl #[.slice A0 l0.length c0] rfl al ?_; (with_reducible refine (spec_l31Points.calls k _ _ l0 true _ ?side1 ?side2 A2.out).mono ?_); (case side1 => repeat (first | exact HR0.out | (with_reducible refine Kd.C_alloc ?_ _) | (with_reducible refine Kd.C_drewN ?_ _) | (with_reducible refine Kd.C_drew ?_))); (case side2 => exact HC0.out); rintro e w5 ⟨rfl, hb⟩; refine ⟨_, rfl, ?_⟩; have n0_ := Aside0.mk (below_step (lb HB.out) hb); clear HB; have HB := n0_; clear n0_; (try clear hb); (try clear hb2); (try clear hk); (try clear hi); have p154 : 0 ≤ (0 : Int) := (by omega); have q154 : 0 < (l0.length : Int) := oa; obtain ⟨ad154, e154, hx154_0, hx154_1⟩ := at_T33 HR0.out 0 p154 q154; cases e154; have qi154 : (0 < l0.length) = True := eq_true (by omega); (try rw [show ((0 : Int)).toNat = 0 from rfl] at hx154_0); (try rw [show 0 * 2 = 0 from rfl] at hx154_0); (try rw [Addr.add_zero'] at hx154_0); (try rw [show ((0 : Int)).toNat = 0 from rfl] at hx154_1); (try rw [show 0 * 2 = 0 from rfl] at hx154_1); (try rw [Addr.add_zero'] at hx154_1); replace hx154_0 := (HB.out.cell (World.block_lt_of_cell? w _ hx154_0)).trans hx154_0; replace hx154_1 := (HB.out.cell (World.block_lt_of_cell? w _ hx154_1)).trans hx154_1; replace p154 := eq_true p154; replace q154 := eq_true q154) | ((with_reducible refine gate_dst (N := 13) rfl ?_); refine Kd.R_lit k33 _ 33 ?hg (N := 13) ?hd (xs := ([(⟨(rd_T33 l0 0).f0, (rd_T33 l0 0).f1⟩ : S33)] : List (S33))) (inner := [.int .i64 ((rd_T33 l0 0).f0), .int .i64 ((rd_T33 l0 0).f1)]) (ok := fun _ => True) (okp := fun _ => True) ?hr ?hp (fun _ hk => hk) trivial (Below.refl _ _) (Nat.le_refl _) (by simp) ?_; (case hd => rfl); (case hg => rfl); (case hr => first | (go_simp; done) | (go_simp; rfl)); (case hp => exact (Reps.c2 (show Kd.M k33 _ _ _ (⟨(rd_T33 l0 0).f0, (rd_T33 l0 0).f1⟩ : S33) [.int .i64 ((rd_T33 l0 0).f0), .int .i64 ((rd_T33 l0 0).f1)] from (k33_mkM _ _ _ (⟨(rd_T33 l0 0).f0, (rd_T33 l0 0).f1⟩ : S33) )) (Reps.none _ _))); intro v156 w6 ho7 hb hg_ hnew_; clear hg_ hnew_; (first | rw [← Ny155.out] at ho7 | (simp only [Int.reduceToNat] at ho7; rw [← Ny155.out] at ho7)); have n0_ := Aside0.mk (Kd.R_lower ho7 (below_size (lb HB.out))); have n1_ := Aside0.mk (below_step (lb HB.out) hb); clear HB; have HO157 := n0_; have HB := n1_; clear n0_ n1_; clear hb ho7))
   go_loopg [4, 5] k (fun kq v4 v5 w' => ∃ (x4_1 : List (S33)) (x5_1 : Int), v5 = .int .i64 x5_1 ∧ Aside0 (spec_PolyBack.l0 kq l0 x4_1 x5_1 = some (r1, r2)) ∧ Aside0 (kq ≤ k) ∧ Aside0 (Kd.R k33 33 w' w.heap.size (fun _ => True) v4 x4_1) ∧ Aside0 (Below w.heap.size w w'))
   case atStart => exact ⟨(y155), (wrap64 ((l0.length : Int) - 1)), (by first | rfl | (simp; done) | (simp [*]; done)), H', ⟨Nat.le_refl _⟩, ⟨rm HO157.out⟩, ⟨lb HB.out⟩⟩
   case round =>
    clear H'
    try clear p1
    try clear q1
    try clear hx1
    try clear qi1
    try clear c2
    try clear p2
    try clear c3
    try clear c4
    try clear c4b0
    try clear c4b1
    try clear p6
    try clear hx154_0
    try clear hx154_1
    try clear p154
    try clear q154
    obtain ⟨x4_1, x5_1, rfl, HA, HK1, HO_4, HB⟩ := hrel
    cases gk with
    | zero => exact absurd HA.out (by simp [spec_PolyBack.l0])
    | succ k1 =>
     have H := HA.out
     clear HA
     simp only [spec_PolyBack.l0] at H
     by_cases c8 : x5_1 > 0
     ·rw [if_pos c8] at H
      have c8b0 : decide (0 < x5_1) = true := decide_eq_true c8
      clear c8
      by_cases c9 : 0 ≤ x5_1
      ·rw [if_pos c9] at H
       have c9b0 : decide (0 ≤ x5_1) = true := decide_eq_true c9
       clear c9
       by_cases c10 : x5_1 < (l0.length : Int)
       ·rw [if_pos c10] at H
        have c10b0 : decide (x5_1 < (l0.length : Int)) = true := decide_eq_true c10
        clear c10
        by_cases c11 : x4_1.length < 8796093022208
        ·rw [if_pos c11] at H
         have LMc11 := Aside0.mk c11
         clear c11
         obtain ⟨y159, hy159⟩ : ∃ y_ : List (S33), y_ = (x4_1 ++ [(⟨(rd_T33 l0 x5_1).f0, (rd_T33 l0 x5_1).f1⟩ : S33)]) := ⟨_, rfl⟩
         replace H : (spec_PolyBack.l0 k1 l0 y159 (wrap64 (x5_1 - 1))) = some (r1, r2) := by first | (rw [hy159]; with_reducible exact H) | (have H2_ := (Option.bind_some _ _).symm.trans H; rw [hy159]; with_reducible exact H2_) | (have H2_ := (Option.bind_some _ _).symm.trans H; with_reducible exact H2_) | with_reducible exact H | (rw [hy159]; exact H) | exact H
         have Ny159 := Aside0.mk hy159
         clear hy159
         have H' := Aside0.mk H
         clear H
         have p158 : 0 ≤ (x5_1 : Int) := oa
         have q158 : x5_1 < (l0.length : Int) := oa
         obtain ⟨ad158, e158, hx158_0, hx158_1⟩ := at_T33 HR0.out x5_1 p158 q158
         obtain rfl : ad154 = ad158 := (by injection e158)
         replace hx158_0 := (HB.out.cell (World.block_lt_of_cell? w _ hx158_0)).trans hx158_0
         replace hx158_1 := (HB.out.cell (World.block_lt_of_cell? w _ hx158_1)).trans hx158_1
         replace p158 := eq_true p158
         replace q158 := eq_true q158
         go_wp2_with (first | ((with_reducible refine gate_builtin (b := .append) (xs := #[.tmp 21, .tmp 26]) rfl ?_); at_builtin; refine Kd.R_append k33 (w0 := w) w.heap.size rfl (.tmp 21) (.tmp 26) 23 33 (.agg #[(.int .i64 0), (.int .i64 0)]) 16 rfl Try.underlying23 info33 rfl (by decide) (by omega) u4 x4_1 (⟨(rd_T33 l0 x5_1).f0, (rd_T33 l0 x5_1).f1⟩ : S33) [.int .i64 ((rd_T33 l0 x5_1).f0), .int .i64 ((rd_T33 l0 x5_1).f1)] (fun _ => True) (fun _ => False) rfl rfl ?aP (fun _ hk => hk.elim) ?aF ?aO ?aB ?aS ?aL ?_; (case aP => exact k33_mkM _ _ _ (⟨(rd_T33 l0 x5_1).f0, (rd_T33 l0 x5_1).f1⟩ : S33)); (case aB => exact (lb HB.out)); (case aF => exact (fun _ _ => trivial)); (case aO => exact (rm HO_4.out)); (case aS => exact (below_size (lb HB.out))); (case aL => have := LMc11.out; omega); intro v160 w12 ho hb hg hat; rw [← Ny159.out] at ho; have n0_ := Aside0.mk (hb); have n1_ := Aside0.mk (ho); clear HB; clear HO_4; have HB := n0_; have HO161 := n1_; clear n0_ n1_; clear ho hb hg hat))
         go_roundg k1
         case measure => have := HK1.out; omega
         case rel => exact ⟨(y159), (wrap64 (x5_1 - 1)), (by first | rfl | (simp; done) | (simp [*]; done)), H', ⟨by have := HK1.out; omega⟩, ⟨rm HO161.out⟩, ⟨lb HB.out⟩⟩
        ·rw [if_neg c11] at H
         exact absurd H (by simp)
       ·rw [if_neg c10] at H
        exact absurd H (by simp)
      ·rw [if_neg c9] at H
       exact absurd H (by simp)
     ·rw [if_neg c8] at H
      have c8b0 : decide (0 < x5_1) = false := decide_eq_false c8
      clear c8
      simp only [Option.some.injEq, Prod.mk.injEq] at H
      obtain ⟨rfl, rfl⟩ := H
      go_wp2
      go_ret2
      exact ⟨_, er, rm HO_4.out, lb HB.out⟩
  ·rw [if_neg c4] at H
   exact absurd H (by simp)
 ·replace c3 := Bool.eq_false_iff.mpr c3
  subst c3
  have H1 : (some ((([] : List (S33))), false)) = some (r1, r2) := by rw [if_neg (show ¬ (false = true) by decide)] at H; exact H
  clear H
  have H := H1
  clear H1
  obtain ⟨y151, hy151⟩ : ∃ y_ : List (S33), y_ = (([] : List (S33))) := ⟨_, rfl⟩
  replace H : (some (y151, false)) = some (r1, r2) := by first | (rw [hy151]; with_reducible exact H) | (have H2_ := (Option.bind_some _ _).symm.trans H; rw [hy151]; with_reducible exact H2_) | (have H2_ := (Option.bind_some _ _).symm.trans H; with_reducible exact H2_) | with_reducible exact H | (rw [hy151]; exact H) | exact H
  have Ny151 := Aside0.mk hy151
  clear hy151
  simp only [Option.some.injEq, Prod.mk.injEq] at H
  obtain ⟨rfl, rfl⟩ := H
  go_enter Try.func82, Try.ntmps82
  go_wp2_with (first | ((with_reducible refine gate_callee (f := 88) rfl ?_); refine goesL_ (some 7) rfl rfl Try.func88 (by kernel_rfl) rfl #[.slice A0 l0.length c0] rfl al ?_; (with_reducible refine (spec_l31Points.calls k _ _ l0 false _ ?side1 ?side2 A2.out).mono ?_); (case side1 => repeat (first | exact HR0.out | (with_reducible refine Kd.C_alloc ?_ _) | (with_reducible refine Kd.C_drewN ?_ _) | (with_reducible refine Kd.C_drew ?_))); (case side2 => exact HC0.out); rintro e w13 ⟨rfl, hb⟩; refine ⟨_, rfl, ?_⟩; have n0_ := Aside0.mk (below_step (lb HB.out) hb); clear HB; have HB := n0_; clear n0_; (try clear hb); (try clear hb2); (try clear hk); (try clear hi)) | ((with_reducible refine gate_dst (N := 9) rfl ?_); refine Kd.R_lit k33 _ 33 ?hg (N := 9) ?hd (xs := ([] : List (S33))) (inner := []) (ok := fun _ => True) (okp := fun _ => True) ?hr ?hp (fun _ hk => hk) trivial (Below.refl _ _) (Nat.le_refl _) (by simp) ?_; (case hd => rfl); (case hg => rfl); (case hr => first | (go_simp; done) | (go_simp; rfl)); (case hp => exact (Reps.none _ _)); intro v152 w14 ho15 hb hg_ hnew_; clear hg_ hnew_; (first | rw [← Ny151.out] at ho15 | (simp only [Int.reduceToNat] at ho15; rw [← Ny151.out] at ho15)); have n0_ := Aside0.mk (Kd.R_lower ho15 (below_size (lb HB.out))); have n1_ := Aside0.mk (below_step (lb HB.out) hb); clear HB; have HO153 := n0_; have HB := n1_; clear n0_ n1_; clear hb ho15))
  go_ret2
  exact ⟨_, er, rm HO153.out, lb HB.out⟩
def spec_l92Poly.l0 : Nat → List (S33) → Int → Int → List Int → Int → Option ((List (S33)) × Int)
 | 0, _, _, _, _, _ => none
 | k + 1, x3, x4, x5, x1000, x1001 => if x5 < x4 then ((spec_l91Point.f k x1000 x1001).bind fun bt169 => (if x3.length < 8796093022208 then (spec_l92Poly.l0 k (x3 ++ [(⟨bt169.1, bt169.2.1⟩ : S33)]) x4 (wrap64 (x5 + 1)) x1000 bt169.2.2) else (none))) else (some (x3, x1001))
def spec_l92Poly.f (k : Nat) (s0_0 : List Int) (s0_1 : Int) : Option ((List (S33)) × Int) := (spec_l6Rd_pick.f k s0_0 s0_1 8).bind fun bt162 => (if bt162.1 = 0 then ((spec_l6Rd_pick.f k s0_0 bt162.2 6).bind fun bt167 => (spec_l92Poly.l0 k (([] : List (S33))) bt167.1 0 s0_0 bt167.2)) else (if bt162.1 = 1 then ((spec_l92Box.f k s0_0 bt162.2).bind fun bt175 => (some (bt175.1, bt175.2))) else (if bt162.1 = 2 then ((spec_l92Box.f k s0_0 bt162.2).bind fun bt179 => (some (bt179.1, bt179.2))) else (if bt162.1 = 3 then ((spec_l92Box.f k s0_0 bt162.2).bind fun bt183 => (some (bt183.1, bt183.2))) else ((spec_l92Star.f k s0_0 bt162.2).bind fun bt187 => ((spec_l6Rd_pick.f k s0_0 bt187.2 5).bind fun bt191 => (if bt191.1 = 0 then ((spec_PolyBack.f k bt187.1).bind fun bt193 => (some (bt193.1, bt191.2))) else (some (bt187.1, bt191.2)))))))))
theorem spec_l92Poly.mono_l : ∀ k, (∀ y0 y1 y2 y3 y4, LeO (spec_l92Poly.l0 k y0 y1 y2 y3 y4) (spec_l92Poly.l0 (k + 1) y0 y1 y2 y3 y4))
 | 0 => fun _ _ _ _ _ r h => by simp [spec_l92Poly.l0] at h
 | k + 1 => by
  have ih0 := spec_l92Poly.mono_l k
  ·intro y0 y1 y2 y3 y4
   unfold spec_l92Poly.l0
   repeat' first
   | (with_reducible exact ih0 _ _ _ _ _)
   | (with_reducible exact spec_PolyBack.mono _ _)
   | (with_reducible exact spec_l6Rd_pick.mono _ _ _ _)
   | (with_reducible exact spec_l91Point.mono _ _ _)
   | (with_reducible exact spec_l92Box.mono _ _ _)
   | (with_reducible exact spec_l92Star.mono _ _ _)
   | (with_reducible exact LeO.refl _)
   | (with_reducible exact LeO.none _)
   | (with_reducible refine LeO.ite ?_ ?_)
   | (with_reducible refine LeO.bind ?_ (fun _ => ?_))
   | exact ih0 _ _ _ _ _
   | exact spec_PolyBack.mono _ _
   | exact spec_l6Rd_pick.mono _ _ _ _
   | exact spec_l91Point.mono _ _ _
   | exact spec_l92Box.mono _ _ _
   | exact spec_l92Star.mono _ _ _
   | exact LeO.none _
   | refine LeO.ite ?_ ?_
   | refine LeO.bind ?_ (fun _ => ?_)
theorem spec_l92Poly.mono : ∀ a0 a1 k, LeO (spec_l92Poly.f k a0 a1) (spec_l92Poly.f (k + 1) a0 a1) := by
 intro a0 a1 k
 have ih0 := spec_l92Poly.mono_l k
 unfold spec_l92Poly.f
 repeat' first
   | (with_reducible exact ih0 _ _ _ _ _)
   | (with_reducible exact spec_PolyBack.mono _ _)
   | (with_reducible exact spec_l6Rd_pick.mono _ _ _ _)
   | (with_reducible exact spec_l91Point.mono _ _ _)
   | (with_reducible exact spec_l92Box.mono _ _ _)
   | (with_reducible exact spec_l92Star.mono _ _ _)
   | (with_reducible exact LeO.refl _)
   | (with_reducible exact LeO.none _)
   | (with_reducible refine LeO.ite ?_ ?_)
   | (with_reducible refine LeO.bind ?_ (fun _ => ?_))
   | exact ih0 _ _ _ _ _
   | exact spec_PolyBack.mono _ _
   | exact spec_l6Rd_pick.mono _ _ _ _
   | exact spec_l91Point.mono _ _ _
   | exact spec_l92Box.mono _ _ _
   | exact spec_l92Star.mono _ _ _
   | exact LeO.none _
   | refine LeO.ite ?_ ?_
   | refine LeO.bind ?_ (fun _ => ?_)
set_option maxHeartbeats 8000000 in
set_option maxRecDepth 100000 in
theorem spec_l92Poly.calls (k : Nat) (g : Nat) (s0_0 : List Int) (s0_1 : Int) (r1 : List (S33)) (r2 : Int) (w0 w : World) (hI : IsS93 w0 w g s0_0 s0_1) (hB : Below w0.heap.size w0 w) (h : spec_l92Poly.f k s0_0 s0_1 = some (r1, r2)) :
  Calls Try.prog 53 #[.pointer (some ⟨g, 0, none⟩)] w fun e w' => ∃ v0_ : Value, e = .returned (v0_) ∧ Kd.Q k33 33 w' w.heap.size (fun _ => True) v0_ r1 ∧ IsS93 w0 w' g s0_0 r2 ∧ Below w0.heap.size w0 w' ∧ KeepBut w w' g none := by
 have HI0 := Aside0.mk hI
 have HK := Aside0.mk (KeepBut.refl w g none)
 have HL := Aside0.mk hB.size
 clear hI
 have HW0 := Aside0.mk hB.size
 have HB := Aside0.mk hB
 clear hB
 have H : ((spec_l6Rd_pick.f k s0_0 s0_1 8).bind fun bt162 => (if bt162.1 = 0 then ((spec_l6Rd_pick.f k s0_0 bt162.2 6).bind fun bt167 => (spec_l92Poly.l0 k (([] : List (S33))) bt167.1 0 s0_0 bt167.2)) else (if bt162.1 = 1 then ((spec_l92Box.f k s0_0 bt162.2).bind fun bt175 => (some (bt175.1, bt175.2))) else (if bt162.1 = 2 then ((spec_l92Box.f k s0_0 bt162.2).bind fun bt179 => (some (bt179.1, bt179.2))) else (if bt162.1 = 3 then ((spec_l92Box.f k s0_0 bt162.2).bind fun bt183 => (some (bt183.1, bt183.2))) else ((spec_l92Star.f k s0_0 bt162.2).bind fun bt187 => ((spec_l6Rd_pick.f k s0_0 bt187.2 5).bind fun bt191 => (if bt191.1 = 0 then ((spec_PolyBack.f k bt187.1).bind fun bt193 => (some (bt193.1, bt191.2))) else (some (bt187.1, bt191.2)))))))))) = some (r1, r2) := h
 clear h
 replace H := Option.bind_eq_some_iff.mp H
 obtain ⟨⟨t162, t163⟩, A20, H⟩ := H
 replace H : (if t162 = 0 then ((spec_l6Rd_pick.f k s0_0 t163 6).bind fun bt167 => (spec_l92Poly.l0 k (([] : List (S33))) bt167.1 0 s0_0 bt167.2)) else (if t162 = 1 then ((spec_l92Box.f k s0_0 t163).bind fun bt175 => (some (bt175.1, bt175.2))) else (if t162 = 2 then ((spec_l92Box.f k s0_0 t163).bind fun bt179 => (some (bt179.1, bt179.2))) else (if t162 = 3 then ((spec_l92Box.f k s0_0 t163).bind fun bt183 => (some (bt183.1, bt183.2))) else ((spec_l92Star.f k s0_0 t163).bind fun bt187 => ((spec_l6Rd_pick.f k s0_0 bt187.2 5).bind fun bt191 => (if bt191.1 = 0 then ((spec_PolyBack.f k bt187.1).bind fun bt193 => (some (bt193.1, bt191.2))) else (some (bt187.1, bt191.2))))))))) = some (r1, r2) := H
 have A2 := Aside0.mk A20
 clear A20
 by_cases c3 : t162 = 0
 ·rw [if_pos c3] at H
  have c3b0 : (t162 == 0) = true := beq_iff_eq.mpr c3
  have c3b1 : (t162 != 0) = false := bne_eq_false_iff_eq.mpr c3
  clear c3
  obtain ⟨y164, hy164⟩ : ∃ y_ : List (S33), y_ = (([] : List (S33))) := ⟨_, rfl⟩
  replace H : ((spec_l6Rd_pick.f k s0_0 t163 6).bind fun bt167 => (spec_l92Poly.l0 k y164 bt167.1 0 s0_0 bt167.2)) = some (r1, r2) := by first | (rw [hy164]; with_reducible exact H) | (have H2_ := (Option.bind_some _ _).symm.trans H; rw [hy164]; with_reducible exact H2_) | (have H2_ := (Option.bind_some _ _).symm.trans H; with_reducible exact H2_) | with_reducible exact H | (rw [hy164]; exact H) | exact H
  have Ny164 := Aside0.mk hy164
  clear hy164
  replace H := Option.bind_eq_some_iff.mp H
  obtain ⟨⟨t167, t168⟩, A40, H⟩ := H
  replace H : (spec_l92Poly.l0 k y164 t167 0 s0_0 t168) = some (r1, r2) := H
  have A4 := Aside0.mk A40
  clear A40
  have H' := Aside0.mk H
  clear H
  go_enter Try.func53, Try.ntmps53
  go_wp2_with (first | ((with_reducible refine gate_callee (f := 65) rfl ?_); refine goesL_ (some 10) rfl rfl Try.func65 (by kernel_rfl) rfl #[.pointer (some ⟨g, 0, none⟩), .int .i64 8] rfl al ?_; (with_reducible refine (spec_l6Rd_pick.calls k g s0_0 s0_1 8 t162 t163 w0 _ ?side1 ?side2 A2.out).mono ?_); (case side1 => exact iz); (case side2 => exact bz); rintro e w5 ⟨rfl, hi, hb, hk⟩; refine ⟨_, rfl, ?_⟩; have n0_ := Aside0.mk (KeepBut.trans kp hk (.inl rfl)); have n1_ := Aside0.mk (hb); have n2_ := Aside0.mk (hi); clear HK; clear HB; clear HI0; have HK := n0_; have HB := n1_; have HI0 := n2_; clear n0_ n1_ n2_; (try clear hb); (try clear hb2); (try clear hk); (try clear hi)) | ((with_reducible refine gate_dst (N := 13) rfl ?_); refine Kd.R_lit k33 _ 33 ?hg (N := 13) ?hd (xs := ([] : List (S33))) (inner := []) (ok := fun _ => True) (okp := fun _ => True) ?hr ?hp (fun _ hk => hk) trivial (Below.refl _ _) (Nat.le_refl _) (by simp) ?_; (case hd => rfl); (case hg => rfl); (case hr => first | (go_simp; done) | (go_simp; rfl)); (case hp => exact (Reps.none _ _)); intro v165 w6 ho7 hb hg_ hnew_; clear hg_ hnew_; (first | rw [← Ny164.out] at ho7 | (simp only [Int.reduceToNat] at ho7; rw [← Ny164.out] at ho7)); have n0_ := Aside0.mk (Kd.R_lower ho7 (keep_size (w := w) (g := g) (row := none) kp)); have n1_ := Aside0.mk (IsS93.below iz hb); have n2_ := Aside0.mk (KeepBut.trans kp (KeepBut.of_below hb g none) (.inl rfl)); have n3_ := Aside0.mk (below_step bz hb); clear HI0; clear HK; clear HB; have HO166 := n0_; have HI0 := n1_; have HK := n2_; have HB := n3_; clear n0_ n1_ n2_ n3_; clear hb ho7) | ((with_reducible refine gate_callee (f := 65) rfl ?_); refine goesL_ (some 15) rfl rfl Try.func65 (by kernel_rfl) rfl #[.pointer (some ⟨g, 0, none⟩), .int .i64 6] rfl al ?_; (with_reducible refine (spec_l6Rd_pick.calls k g s0_0 t163 6 t167 t168 w0 _ ?side1 ?side2 A4.out).mono ?_); (case side1 => exact iz); (case side2 => exact bz); rintro e w8 ⟨rfl, hi, hb, hk⟩; refine ⟨_, rfl, ?_⟩; have n0_ := Aside0.mk (Kd.R_mono (Kd.R_keep (IsS93.apart (show IsS93 w0 _ g s0_0 t163 from iz) (rm HO166.out) (by decide)) hk (fun _ h => h.2)) (fun _ h => h.1)); have n1_ := Aside0.mk (KeepBut.trans kp hk (.inl rfl)); have n2_ := Aside0.mk (hb); have n3_ := Aside0.mk (hi); clear HO166; clear HK; clear HB; clear HI0; have HO166 := n0_; have HK := n1_; have HB := n2_; have HI0 := n3_; clear n0_ n1_ n2_ n3_; (try clear hb); (try clear hb2); (try clear hk); (try clear hi)))
  go_loopg [3, 5] k (fun kq v3 v5 w' => ∃ (x3_1 : List (S33)) (x5_1 : Int) (x1001_1 : Int), v5 = .int .i64 x5_1 ∧ Aside0 (spec_l92Poly.l0 kq x3_1 t167 x5_1 s0_0 x1001_1 = some (r1, r2)) ∧ Aside0 (kq ≤ k) ∧ Aside0 (Kd.R k33 33 w' w.heap.size (fun _ => True) v3 x3_1) ∧ Aside0 (IsS93 w0 w' g s0_0 x1001_1) ∧ Aside0 (KeepBut w w' g none) ∧ Aside0 (Below w0.heap.size w0 w'))
  case atStart => exact ⟨(y164), (0), (t168), (by first | rfl | (simp; done) | (simp [*]; done)), H', ⟨Nat.le_refl _⟩, ⟨rm HO166.out⟩, ⟨iz⟩, ⟨kp⟩, ⟨bz⟩⟩
  case round =>
   clear H'
   try clear p2
   try clear c3
   try clear c3b0
   try clear c3b1
   try clear c5
   try clear c6
   obtain ⟨x3_1, x5_1, x1001_1, rfl, HA, HK1, HO_3, HI0, HK, HB⟩ := hrel
   cases gk with
   | zero => exact absurd HA.out (by simp [spec_l92Poly.l0])
   | succ k1 =>
    have H := HA.out
    clear HA
    simp only [spec_l92Poly.l0] at H
    by_cases c9 : x5_1 < t167
    ·rw [if_pos c9] at H
     have c9b0 : decide (x5_1 < t167) = true := decide_eq_true c9
     clear c9
     replace H := Option.bind_eq_some_iff.mp H
     obtain ⟨⟨t169, t170, t171⟩, A100, H⟩ := H
     replace H : (if x3_1.length < 8796093022208 then (spec_l92Poly.l0 k1 (x3_1 ++ [(⟨t169, t170⟩ : S33)]) t167 (wrap64 (x5_1 + 1)) s0_0 t171) else (none)) = some (r1, r2) := H
     have A10 := Aside0.mk A100
     clear A100
     by_cases c11 : x3_1.length < 8796093022208
     ·rw [if_pos c11] at H
      have LMc11 := Aside0.mk c11
      clear c11
      obtain ⟨y172, hy172⟩ : ∃ y_ : List (S33), y_ = (x3_1 ++ [(⟨t169, t170⟩ : S33)]) := ⟨_, rfl⟩
      replace H : (spec_l92Poly.l0 k1 y172 t167 (wrap64 (x5_1 + 1)) s0_0 t171) = some (r1, r2) := by first | (rw [hy172]; with_reducible exact H) | (have H2_ := (Option.bind_some _ _).symm.trans H; rw [hy172]; with_reducible exact H2_) | (have H2_ := (Option.bind_some _ _).symm.trans H; with_reducible exact H2_) | with_reducible exact H | (rw [hy172]; exact H) | exact H
      have Ny172 := Aside0.mk hy172
      clear hy172
      have H' := Aside0.mk H
      clear H
      go_wp2_with (first | ((with_reducible refine gate_callee (f := 79) rfl ?_); refine goesL_ (some 23) rfl rfl Try.func79 (by kernel_rfl) rfl #[.pointer (some ⟨g, 0, none⟩)] rfl al ?_; (with_reducible refine (spec_l91Point.calls k1 g s0_0 x1001_1 t169 t170 t171 w0 _ ?side1 ?side2 A10.out).mono ?_); (case side1 => exact iz); (case side2 => exact bz); rintro e w12 ⟨rfl, hi, hb, hk⟩; refine ⟨_, rfl, ?_⟩; have n0_ := Aside0.mk (Kd.R_mono (Kd.R_keep (IsS93.apart (show IsS93 w0 _ g s0_0 x1001_1 from iz) (rm HO_3.out) (by decide)) hk (fun _ h => h.2)) (fun _ h => h.1)); have n1_ := Aside0.mk (KeepBut.trans kp hk (.inl rfl)); have n2_ := Aside0.mk (hb); have n3_ := Aside0.mk (hi); clear HO_3; clear HK; clear HB; clear HI0; have HO_3 := n0_; have HK := n1_; have HB := n2_; have HI0 := n3_; clear n0_ n1_ n2_ n3_; (try clear hb); (try clear hb2); (try clear hk); (try clear hi)) | ((with_reducible refine gate_builtin (b := .append) (xs := #[.tmp 21, .tmp 24]) rfl ?_); at_builtin; refine Kd.R_append k33 w.heap.size rfl (.tmp 21) (.tmp 24) 23 33 (.agg #[(.int .i64 0), (.int .i64 0)]) 16 rfl Try.underlying23 info33 rfl (by decide) (by omega) u3 x3_1 (⟨t169, t170⟩ : S33) [.int .i64 t169, .int .i64 t170] (fun _ => True) (fun _ => False) rfl rfl ?aP (fun _ hk => hk.elim) ?aF ?aO (Below.refl _ _) ?aS ?aL ?_; (case aP => exact k33_mkM _ _ _ (⟨t169, t170⟩ : S33)); (case aF => exact (fun _ _ => trivial)); (case aO => exact (rm HO_3.out)); (case aS => exact (keep_size (w := w) (g := g) (row := none) kp)); (case aL => have := LMc11.out; omega); intro v173 w13 ho hb hg hat; rw [← Ny172.out] at ho; have n0_ := Aside0.mk (IsS93.grown iz hg (IsS93.own_ne HI0.out HO_3.out (by decide))); have n1_ := Aside0.mk (below_weaken bz HL.out hb); have n2_ := Aside0.mk (KeepBut.trans kp (KeepBut.of_grown hg g) (Kd.R_base2 HO_3.out)); have n3_ := Aside0.mk (ho); clear HI0; clear HB; clear HK; clear HO_3; have HI0 := n0_; have HB := n1_; have HK := n2_; have HO174 := n3_; clear n0_ n1_ n2_ n3_; clear ho hb hg hat))
      go_roundg k1
      case measure => have := HK1.out; omega
      case rel => exact ⟨(y172), (wrap64 (x5_1 + 1)), (t171), (by first | rfl | (simp; done) | (simp [*]; done)), H', ⟨by have := HK1.out; omega⟩, ⟨rm HO174.out⟩, ⟨iz⟩, ⟨kp⟩, ⟨bz⟩⟩
     ·rw [if_neg c11] at H
      exact absurd H (by simp)
    ·rw [if_neg c9] at H
     have c9b0 : decide (x5_1 < t167) = false := decide_eq_false c9
     clear c9
     simp only [Option.some.injEq, Prod.mk.injEq] at H
     obtain ⟨rfl, rfl⟩ := H
     go_wp2
     go_ret
     exact ⟨_, er, Kd.Q_of_R (rm HO_3.out), iz, bz, kp⟩
 ·rw [if_neg c3] at H
  have c3b0 : (t162 == 0) = false := beq_eq_false_iff_ne.mpr c3
  have c3b1 : (t162 != 0) = true := bne_iff_ne.mpr c3
  by_cases c14 : t162 = 1
  ·rw [if_pos c14] at H
   have c14b0 : (t162 == 1) = true := beq_iff_eq.mpr c14
   have c14b1 : (t162 != 1) = false := bne_eq_false_iff_eq.mpr c14
   clear c14
   replace H := Option.bind_eq_some_iff.mp H
   obtain ⟨⟨t175, t178⟩, A150, H⟩ := H
   replace H : (some (t175, t178)) = some (r1, r2) := H
   have A15 := Aside0.mk A150
   clear A150
   simp only [Option.some.injEq, Prod.mk.injEq] at H
   obtain ⟨rfl, rfl⟩ := H
   go_enter Try.func53, Try.ntmps53
   go_wp2_with (first | ((with_reducible refine gate_callee (f := 65) rfl ?_); refine goesL_ (some 10) rfl rfl Try.func65 (by kernel_rfl) rfl #[.pointer (some ⟨g, 0, none⟩), .int .i64 8] rfl al ?_; (with_reducible refine (spec_l6Rd_pick.calls k g s0_0 s0_1 8 t162 t163 w0 _ ?side1 ?side2 A2.out).mono ?_); (case side1 => exact iz); (case side2 => exact bz); rintro e w16 ⟨rfl, hi, hb, hk⟩; refine ⟨_, rfl, ?_⟩; have n0_ := Aside0.mk (KeepBut.trans kp hk (.inl rfl)); have n1_ := Aside0.mk (hb); have n2_ := Aside0.mk (hi); clear HK; clear HB; clear HI0; have HK := n0_; have HB := n1_; have HI0 := n2_; clear n0_ n1_ n2_; (try clear hb); (try clear hb2); (try clear hk); (try clear hi)) | ((with_reducible refine gate_callee (f := 80) rfl ?_); refine goesL_ (some 32) rfl rfl Try.func80 (by kernel_rfl) rfl #[.pointer (some ⟨g, 0, none⟩)] rfl al ?_; (with_reducible refine (spec_l92Box.calls k g s0_0 t163 t175 t178 w0 _ ?side1 ?side2 A15.out).mono ?_); (case side1 => exact iz); (case side2 => exact bz); rintro e w17 ⟨v176, rfl, ho0, hi, hb, hk⟩; refine ⟨_, rfl, ?_⟩; have n0_ := Aside0.mk (Kd.Q_lower ho0 (keep_size (w := w) (g := g) (row := none) kp)); have n1_ := Aside0.mk (KeepBut.trans kp hk (.inl rfl)); have n2_ := Aside0.mk (hb); have n3_ := Aside0.mk (hi); clear HK; clear HB; clear HI0; have HO177 := n0_; have HK := n1_; have HB := n2_; have HI0 := n3_; clear n0_ n1_ n2_ n3_; (try clear hb); (try clear hb2); (try clear hk); (try clear hi); (try clear ho0)))
   go_ret
   exact ⟨_, er, qm HO177.out, iz, bz, kp⟩
  ·rw [if_neg c14] at H
   have c14b0 : (t162 == 1) = false := beq_eq_false_iff_ne.mpr c14
   have c14b1 : (t162 != 1) = true := bne_iff_ne.mpr c14
   by_cases c18 : t162 = 2
   ·rw [if_pos c18] at H
    have c18b0 : (t162 == 2) = true := beq_iff_eq.mpr c18
    have c18b1 : (t162 != 2) = false := bne_eq_false_iff_eq.mpr c18
    clear c18
    replace H := Option.bind_eq_some_iff.mp H
    obtain ⟨⟨t179, t182⟩, A190, H⟩ := H
    replace H : (some (t179, t182)) = some (r1, r2) := H
    have A19 := Aside0.mk A190
    clear A190
    simp only [Option.some.injEq, Prod.mk.injEq] at H
    obtain ⟨rfl, rfl⟩ := H
    go_enter Try.func53, Try.ntmps53
    go_wp2_with (first | ((with_reducible refine gate_callee (f := 65) rfl ?_); refine goesL_ (some 10) rfl rfl Try.func65 (by kernel_rfl) rfl #[.pointer (some ⟨g, 0, none⟩), .int .i64 8] rfl al ?_; (with_reducible refine (spec_l6Rd_pick.calls k g s0_0 s0_1 8 t162 t163 w0 _ ?side1 ?side2 A2.out).mono ?_); (case side1 => exact iz); (case side2 => exact bz); rintro e w20 ⟨rfl, hi, hb, hk⟩; refine ⟨_, rfl, ?_⟩; have n0_ := Aside0.mk (KeepBut.trans kp hk (.inl rfl)); have n1_ := Aside0.mk (hb); have n2_ := Aside0.mk (hi); clear HK; clear HB; clear HI0; have HK := n0_; have HB := n1_; have HI0 := n2_; clear n0_ n1_ n2_; (try clear hb); (try clear hb2); (try clear hk); (try clear hi)) | ((with_reducible refine gate_callee (f := 80) rfl ?_); refine goesL_ (some 32) rfl rfl Try.func80 (by kernel_rfl) rfl #[.pointer (some ⟨g, 0, none⟩)] rfl al ?_; (with_reducible refine (spec_l92Box.calls k g s0_0 t163 t179 t182 w0 _ ?side1 ?side2 A19.out).mono ?_); (case side1 => exact iz); (case side2 => exact bz); rintro e w21 ⟨v180, rfl, ho0, hi, hb, hk⟩; refine ⟨_, rfl, ?_⟩; have n0_ := Aside0.mk (Kd.Q_lower ho0 (keep_size (w := w) (g := g) (row := none) kp)); have n1_ := Aside0.mk (KeepBut.trans kp hk (.inl rfl)); have n2_ := Aside0.mk (hb); have n3_ := Aside0.mk (hi); clear HK; clear HB; clear HI0; have HO181 := n0_; have HK := n1_; have HB := n2_; have HI0 := n3_; clear n0_ n1_ n2_ n3_; (try clear hb); (try clear hb2); (try clear hk); (try clear hi); (try clear ho0)))
    go_ret
    exact ⟨_, er, qm HO181.out, iz, bz, kp⟩
   ·rw [if_neg c18] at H
    have c18b0 : (t162 == 2) = false := beq_eq_false_iff_ne.mpr c18
    have c18b1 : (t162 != 2) = true := bne_iff_ne.mpr c18
    by_cases c22 : t162 = 3
    ·rw [if_pos c22] at H
     have c22b0 : (t162 == 3) = true := beq_iff_eq.mpr c22
     have c22b1 : (t162 != 3) = false := bne_eq_false_iff_eq.mpr c22
     clear c22
     replace H := Option.bind_eq_some_iff.mp H
     obtain ⟨⟨t183, t186⟩, A230, H⟩ := H
     replace H : (some (t183, t186)) = some (r1, r2) := H
     have A23 := Aside0.mk A230
     clear A230
     simp only [Option.some.injEq, Prod.mk.injEq] at H
     obtain ⟨rfl, rfl⟩ := H
     go_enter Try.func53, Try.ntmps53
     go_wp2_with (first | ((with_reducible refine gate_callee (f := 65) rfl ?_); refine goesL_ (some 10) rfl rfl Try.func65 (by kernel_rfl) rfl #[.pointer (some ⟨g, 0, none⟩), .int .i64 8] rfl al ?_; (with_reducible refine (spec_l6Rd_pick.calls k g s0_0 s0_1 8 t162 t163 w0 _ ?side1 ?side2 A2.out).mono ?_); (case side1 => exact iz); (case side2 => exact bz); rintro e w24 ⟨rfl, hi, hb, hk⟩; refine ⟨_, rfl, ?_⟩; have n0_ := Aside0.mk (KeepBut.trans kp hk (.inl rfl)); have n1_ := Aside0.mk (hb); have n2_ := Aside0.mk (hi); clear HK; clear HB; clear HI0; have HK := n0_; have HB := n1_; have HI0 := n2_; clear n0_ n1_ n2_; (try clear hb); (try clear hb2); (try clear hk); (try clear hi)) | ((with_reducible refine gate_callee (f := 80) rfl ?_); refine goesL_ (some 32) rfl rfl Try.func80 (by kernel_rfl) rfl #[.pointer (some ⟨g, 0, none⟩)] rfl al ?_; (with_reducible refine (spec_l92Box.calls k g s0_0 t163 t183 t186 w0 _ ?side1 ?side2 A23.out).mono ?_); (case side1 => exact iz); (case side2 => exact bz); rintro e w25 ⟨v184, rfl, ho0, hi, hb, hk⟩; refine ⟨_, rfl, ?_⟩; have n0_ := Aside0.mk (Kd.Q_lower ho0 (keep_size (w := w) (g := g) (row := none) kp)); have n1_ := Aside0.mk (KeepBut.trans kp hk (.inl rfl)); have n2_ := Aside0.mk (hb); have n3_ := Aside0.mk (hi); clear HK; clear HB; clear HI0; have HO185 := n0_; have HK := n1_; have HB := n2_; have HI0 := n3_; clear n0_ n1_ n2_ n3_; (try clear hb); (try clear hb2); (try clear hk); (try clear hi); (try clear ho0)))
     go_ret
     exact ⟨_, er, qm HO185.out, iz, bz, kp⟩
    ·rw [if_neg c22] at H
     have c22b0 : (t162 == 3) = false := beq_eq_false_iff_ne.mpr c22
     have c22b1 : (t162 != 3) = true := bne_iff_ne.mpr c22
     replace H := Option.bind_eq_some_iff.mp H
     obtain ⟨⟨t187, t190⟩, A260, H⟩ := H
     replace H : ((spec_l6Rd_pick.f k s0_0 t190 5).bind fun bt191 => (if bt191.1 = 0 then ((spec_PolyBack.f k t187).bind fun bt193 => (some (bt193.1, bt191.2))) else (some (t187, bt191.2)))) = some (r1, r2) := H
     have A26 := Aside0.mk A260
     clear A260
     replace H := Option.bind_eq_some_iff.mp H
     obtain ⟨⟨t191, t192⟩, A270, H⟩ := H
     replace H : (if t191 = 0 then ((spec_PolyBack.f k t187).bind fun bt193 => (some (bt193.1, t192))) else (some (t187, t192))) = some (r1, r2) := H
     have A27 := Aside0.mk A270
     clear A270
     by_cases c28 : t191 = 0
     ·rw [if_pos c28] at H
      have c28b0 : (t191 == 0) = true := beq_iff_eq.mpr c28
      have c28b1 : (t191 != 0) = false := bne_eq_false_iff_eq.mpr c28
      clear c28
      replace H := Option.bind_eq_some_iff.mp H
      obtain ⟨⟨t193, t194⟩, A290, H⟩ := H
      replace H : (some (t193, t192)) = some (r1, r2) := H
      have A29 := Aside0.mk A290
      clear A290
      simp only [Option.some.injEq, Prod.mk.injEq] at H
      obtain ⟨rfl, rfl⟩ := H
      go_enter Try.func53, Try.ntmps53
      go_wp2_with (first | ((with_reducible refine gate_callee (f := 65) rfl ?_); refine goesL_ (some 10) rfl rfl Try.func65 (by kernel_rfl) rfl #[.pointer (some ⟨g, 0, none⟩), .int .i64 8] rfl al ?_; (with_reducible refine (spec_l6Rd_pick.calls k g s0_0 s0_1 8 t162 t163 w0 _ ?side1 ?side2 A2.out).mono ?_); (case side1 => exact iz); (case side2 => exact bz); rintro e w30 ⟨rfl, hi, hb, hk⟩; refine ⟨_, rfl, ?_⟩; have n0_ := Aside0.mk (KeepBut.trans kp hk (.inl rfl)); have n1_ := Aside0.mk (hb); have n2_ := Aside0.mk (hi); clear HK; clear HB; clear HI0; have HK := n0_; have HB := n1_; have HI0 := n2_; clear n0_ n1_ n2_; (try clear hb); (try clear hb2); (try clear hk); (try clear hi)) | ((with_reducible refine gate_callee (f := 81) rfl ?_); refine goesL_ (some 34) rfl rfl Try.func81 (by kernel_rfl) rfl #[.pointer (some ⟨g, 0, none⟩)] rfl al ?_; (with_reducible refine (spec_l92Star.calls k g s0_0 t163 t187 t190 w0 _ ?side1 ?side2 A26.out).mono ?_); (case side1 => exact iz); (case side2 => exact bz); rintro e w31 ⟨v188, rfl, ho0, hi, hb, hk⟩; refine ⟨_, rfl, ?_⟩; have n0_ := Aside0.mk (Kd.R_lower ho0 (keep_size (w := w) (g := g) (row := none) kp)); have n1_ := Aside0.mk (KeepBut.trans kp hk (.inl rfl)); have n2_ := Aside0.mk (hb); have n3_ := Aside0.mk (hi); clear HK; clear HB; clear HI0; have HO189 := n0_; have HK := n1_; have HB := n2_; have HI0 := n3_; clear n0_ n1_ n2_ n3_; (try clear hb); (try clear hb2); (try clear hk); (try clear hi); (try clear ho0)) | ((with_reducible refine gate_callee (f := 65) rfl ?_); refine goesL_ (some 36) rfl rfl Try.func65 (by kernel_rfl) rfl #[.pointer (some ⟨g, 0, none⟩), .int .i64 5] rfl al ?_; (with_reducible refine (spec_l6Rd_pick.calls k g s0_0 t190 5 t191 t192 w0 _ ?side1 ?side2 A27.out).mono ?_); (case side1 => exact iz); (case side2 => exact bz); rintro e w32 ⟨rfl, hi, hb, hk⟩; refine ⟨_, rfl, ?_⟩; have n0_ := Aside0.mk (Kd.R_mono (Kd.R_keep (IsS93.apart (show IsS93 w0 _ g s0_0 t190 from iz) (rm HO189.out) (by decide)) hk (fun _ h => h.2)) (fun _ h => h.1)); have n1_ := Aside0.mk (KeepBut.trans kp hk (.inl rfl)); have n2_ := Aside0.mk (hb); have n3_ := Aside0.mk (hi); clear HO189; clear HK; clear HB; clear HI0; have HO189 := n0_; have HK := n1_; have HB := n2_; have HI0 := n3_; clear n0_ n1_ n2_ n3_; (try clear hb); (try clear hb2); (try clear hk); (try clear hi); obtain ⟨Ao33, co33, eo33⟩ := Kd.R_slice HO189.out; subst eo33) | ((with_reducible refine gate_callee (f := 82) rfl ?_); refine goesL_ (some 40) rfl rfl Try.func82 (by kernel_rfl) rfl #[.slice Ao33 t187.length co33] rfl al ?_; (with_reducible refine (spec_PolyBack.calls k _ _ t187 t193 t194 _ ?side1 ?side2 A29.out).mono ?_); (case side1 => exact cm (Kd.R_reads' HO189.out).2.2); (case side2 => exact (Kd.R_reads' HO189.out).2.1); rintro e w34 ⟨v195, rfl, ho0, hb⟩; refine ⟨_, rfl, ?_⟩; have n0_ := Aside0.mk (Kd.R_elder' (rm HO189.out) (Kd.R_base ho0) hb); have n1_ := Aside0.mk (Kd.R_lower (Kd.R_new' ho0 (Kd.R_lt (rm HO189.out))) (keep_size (w := w) (g := g) (row := none) kp)); have n2_ := Aside0.mk (IsS93.below iz hb); have n3_ := Aside0.mk (KeepBut.trans kp (KeepBut.of_below hb g none) (.inl rfl)); have n4_ := Aside0.mk (below_step bz hb); clear HO189; clear HI0; clear HK; clear HB; have HO189 := n0_; have HO196 := n1_; have HI0 := n2_; have HK := n3_; have HB := n4_; clear n0_ n1_ n2_ n3_ n4_; (try clear hb); (try clear hb2); (try clear hk); (try clear hi); (try clear ho0)))
      go_ret
      exact ⟨_, er, Kd.Q_of_R (by (with_reducible repeat (first | apply Kd.R_alloc | apply Kd.R_drewN | apply Kd.R_drew)); exact Kd.R_mono HO196.out (fun _ hk => trivial)), iz, bz, kp⟩
     ·rw [if_neg c28] at H
      have c28b0 : (t191 == 0) = false := beq_eq_false_iff_ne.mpr c28
      have c28b1 : (t191 != 0) = true := bne_iff_ne.mpr c28
      simp only [Option.some.injEq, Prod.mk.injEq] at H
      obtain ⟨rfl, rfl⟩ := H
      go_enter Try.func53, Try.ntmps53
      go_wp2_with (first | ((with_reducible refine gate_callee (f := 65) rfl ?_); refine goesL_ (some 10) rfl rfl Try.func65 (by kernel_rfl) rfl #[.pointer (some ⟨g, 0, none⟩), .int .i64 8] rfl al ?_; (with_reducible refine (spec_l6Rd_pick.calls k g s0_0 s0_1 8 t162 t163 w0 _ ?side1 ?side2 A2.out).mono ?_); (case side1 => exact iz); (case side2 => exact bz); rintro e w35 ⟨rfl, hi, hb, hk⟩; refine ⟨_, rfl, ?_⟩; have n0_ := Aside0.mk (KeepBut.trans kp hk (.inl rfl)); have n1_ := Aside0.mk (hb); have n2_ := Aside0.mk (hi); clear HK; clear HB; clear HI0; have HK := n0_; have HB := n1_; have HI0 := n2_; clear n0_ n1_ n2_; (try clear hb); (try clear hb2); (try clear hk); (try clear hi)) | ((with_reducible refine gate_callee (f := 81) rfl ?_); refine goesL_ (some 34) rfl rfl Try.func81 (by kernel_rfl) rfl #[.pointer (some ⟨g, 0, none⟩)] rfl al ?_; (with_reducible refine (spec_l92Star.calls k g s0_0 t163 t187 t190 w0 _ ?side1 ?side2 A26.out).mono ?_); (case side1 => exact iz); (case side2 => exact bz); rintro e w36 ⟨v188, rfl, ho0, hi, hb, hk⟩; refine ⟨_, rfl, ?_⟩; have n0_ := Aside0.mk (Kd.R_lower ho0 (keep_size (w := w) (g := g) (row := none) kp)); have n1_ := Aside0.mk (KeepBut.trans kp hk (.inl rfl)); have n2_ := Aside0.mk (hb); have n3_ := Aside0.mk (hi); clear HK; clear HB; clear HI0; have HO189 := n0_; have HK := n1_; have HB := n2_; have HI0 := n3_; clear n0_ n1_ n2_ n3_; (try clear hb); (try clear hb2); (try clear hk); (try clear hi); (try clear ho0)) | ((with_reducible refine gate_callee (f := 65) rfl ?_); refine goesL_ (some 36) rfl rfl Try.func65 (by kernel_rfl) rfl #[.pointer (some ⟨g, 0, none⟩), .int .i64 5] rfl al ?_; (with_reducible refine (spec_l6Rd_pick.calls k g s0_0 t190 5 t191 t192 w0 _ ?side1 ?side2 A27.out).mono ?_); (case side1 => exact iz); (case side2 => exact bz); rintro e w37 ⟨rfl, hi, hb, hk⟩; refine ⟨_, rfl, ?_⟩; have n0_ := Aside0.mk (Kd.R_mono (Kd.R_keep (IsS93.apart (show IsS93 w0 _ g s0_0 t190 from iz) (rm HO189.out) (by decide)) hk (fun _ h => h.2)) (fun _ h => h.1)); have n1_ := Aside0.mk (KeepBut.trans kp hk (.inl rfl)); have n2_ := Aside0.mk (hb); have n3_ := Aside0.mk (hi); clear HO189; clear HK; clear HB; clear HI0; have HO189 := n0_; have HK := n1_; have HB := n2_; have HI0 := n3_; clear n0_ n1_ n2_ n3_; (try clear hb); (try clear hb2); (try clear hk); (try clear hi)))
      go_ret
      exact ⟨_, er, Kd.Q_of_R (rm HO189.out), iz, bz, kp⟩
def spec_l92Split.j0 : Nat → List (S33) → Int → Bool → List Int → Int → Option ((List (S33)) × Int × Int × Int)
 | 0, _, _, _, _, _ => none
 | k + 1, x5, x6, x18, x1000, x1001 => if x18 = true then ((spec_l6Rd_pick.f k x1000 x1001 3).bind fun bt203 => ((spec_l6Rd_pick.f k x1000 bt203.2 6).bind fun bt205 => (some (x5, bt203.1, bt205.1, bt205.2)))) else ((spec_l6Rd_pick.f k x1000 x1001 (wrap64 (x6 - 2))).bind fun bt207 => ((spec_l6Rd_pick.f k x1000 bt207.2 (wrap64 ((wrap64 (x6 - 2)) - bt207.1))).bind fun bt209 => (some (x5, bt207.1, mn (wrap64 (x6 - 1)) (wrap64 ((wrap64 (bt207.1 + 2)) + bt209.1)), bt209.2))))
def spec_l92Split.f (k : Nat) (s0_0 : List Int) (s0_1 : Int) : Option ((List (S33)) × Int × Int × Int) := (spec_l92Poly.f k s0_0 s0_1).bind fun bt197 => (if (bt197.1.length : Int) < 4 then (spec_l92Split.j0 k bt197.1 (bt197.1.length : Int) true s0_0 bt197.2) else ((spec_l6Rd_pick.f k s0_0 bt197.2 16).bind fun bt201 => (spec_l92Split.j0 k bt197.1 (bt197.1.length : Int) (bt201.1 == 0) s0_0 bt201.2)))
theorem spec_l92Split.mono_l : ∀ k, (∀ y0 y1 y2 y3 y4, LeO (spec_l92Split.j0 k y0 y1 y2 y3 y4) (spec_l92Split.j0 (k + 1) y0 y1 y2 y3 y4))
 | 0 => fun _ _ _ _ _ r h => by simp [spec_l92Split.j0] at h
 | k + 1 => by
  have ih0 := spec_l92Split.mono_l k
  ·intro y0 y1 y2 y3 y4
   unfold spec_l92Split.j0
   repeat' first
   | (with_reducible exact ih0 _ _ _ _ _)
   | (with_reducible exact spec_l6Rd_pick.mono _ _ _ _)
   | (with_reducible exact spec_l92Poly.mono _ _ _)
   | (with_reducible exact LeO.refl _)
   | (with_reducible exact LeO.none _)
   | (with_reducible refine LeO.ite ?_ ?_)
   | (with_reducible refine LeO.bind ?_ (fun _ => ?_))
   | exact ih0 _ _ _ _ _
   | exact spec_l6Rd_pick.mono _ _ _ _
   | exact spec_l92Poly.mono _ _ _
   | exact LeO.none _
   | refine LeO.ite ?_ ?_
   | refine LeO.bind ?_ (fun _ => ?_)
theorem spec_l92Split.mono : ∀ a0 a1 k, LeO (spec_l92Split.f k a0 a1) (spec_l92Split.f (k + 1) a0 a1) := by
 intro a0 a1 k
 have ih0 := spec_l92Split.mono_l k
 unfold spec_l92Split.f
 repeat' first
   | (with_reducible exact ih0 _ _ _ _ _)
   | (with_reducible exact spec_l6Rd_pick.mono _ _ _ _)
   | (with_reducible exact spec_l92Poly.mono _ _ _)
   | (with_reducible exact LeO.refl _)
   | (with_reducible exact LeO.none _)
   | (with_reducible refine LeO.ite ?_ ?_)
   | (with_reducible refine LeO.bind ?_ (fun _ => ?_))
   | exact ih0 _ _ _ _ _
   | exact spec_l6Rd_pick.mono _ _ _ _
   | exact spec_l92Poly.mono _ _ _
   | exact LeO.none _
   | refine LeO.ite ?_ ?_
   | refine LeO.bind ?_ (fun _ => ?_)
set_option maxHeartbeats 8000000 in
set_option maxRecDepth 100000 in
theorem spec_l92Split.calls (k : Nat) (g : Nat) (s0_0 : List Int) (s0_1 : Int) (r1 : List (S33)) (r2 : Int) (r3 : Int) (r4 : Int) (w0 w : World) (hI : IsS93 w0 w g s0_0 s0_1) (hB : Below w0.heap.size w0 w) (h : spec_l92Split.f k s0_0 s0_1 = some (r1, r2, r3, r4)) :
  Calls Try.prog 33 #[.pointer (some ⟨g, 0, none⟩)] w fun e w' => ∃ v0_ : Value, e = .returned (.tuple #[v0_, .int .i64 r2, .int .i64 r3]) ∧ Kd.Q k33 33 w' w.heap.size (fun _ => True) v0_ r1 ∧ IsS93 w0 w' g s0_0 r4 ∧ Below w0.heap.size w0 w' ∧ KeepBut w w' g none := by
 have HI0 := Aside0.mk hI
 have HK := Aside0.mk (KeepBut.refl w g none)
 have HL := Aside0.mk hB.size
 clear hI
 have HW0 := Aside0.mk hB.size
 have HB := Aside0.mk hB
 clear hB
 have H : ((spec_l92Poly.f k s0_0 s0_1).bind fun bt197 => (if (bt197.1.length : Int) < 4 then (spec_l92Split.j0 k bt197.1 (bt197.1.length : Int) true s0_0 bt197.2) else ((spec_l6Rd_pick.f k s0_0 bt197.2 16).bind fun bt201 => (spec_l92Split.j0 k bt197.1 (bt197.1.length : Int) (bt201.1 == 0) s0_0 bt201.2)))) = some (r1, r2, r3, r4) := h
 clear h
 replace H := Option.bind_eq_some_iff.mp H
 obtain ⟨⟨t197, t200⟩, A20, H⟩ := H
 replace H : (if (t197.length : Int) < 4 then (spec_l92Split.j0 k t197 (t197.length : Int) true s0_0 t200) else ((spec_l6Rd_pick.f k s0_0 t200 16).bind fun bt201 => (spec_l92Split.j0 k t197 (t197.length : Int) (bt201.1 == 0) s0_0 bt201.2))) = some (r1, r2, r3, r4) := H
 have A2 := Aside0.mk A20
 clear A20
 have HC3 := Aside0.mk H
 clear H
 go_enter Try.func33, Try.ntmps33
 go_upto_region 3 with (first | ((with_reducible refine gate_callee (f := 53) rfl ?_); refine goesL_ (some 9) rfl rfl Try.func53 (by kernel_rfl) rfl #[.pointer (some ⟨g, 0, none⟩)] rfl al ?_; (with_reducible refine (spec_l92Poly.calls k g s0_0 s0_1 t197 t200 w0 _ ?side1 ?side2 A2.out).mono ?_); (case side1 => exact iz); (case side2 => exact bz); rintro e w4 ⟨v198, rfl, ho0, hi, hb, hk⟩; refine ⟨_, rfl, ?_⟩; have n0_ := Aside0.mk (Kd.Q_lower ho0 (keep_size (w := w) (g := g) (row := none) kp)); have n1_ := Aside0.mk (KeepBut.trans kp hk (.inl rfl)); have n2_ := Aside0.mk (hb); have n3_ := Aside0.mk (hi); clear HK; clear HB; clear HI0; have HO199 := n0_; have HK := n1_; have HB := n2_; have HI0 := n3_; clear n0_ n1_ n2_ n3_; (try clear hb); (try clear hb2); (try clear hk); (try clear hi); (try clear ho0); obtain ⟨Ao5, co5, eo5, _⟩ := Kd.Q_slice HO199.out; subst eo5))
 (try simp only [Act.put, List.setIfInBounds_toArray, List.set_cons_zero, List.set_cons_succ])
 go_cut [18] (fun v18 wc => ∃ (kq : Nat) (x18_2 : Bool) (x1001_2 : Int), v18 = .bool x18_2 ∧ Aside0 (spec_l92Split.j0 kq t197 (t197.length : Int) x18_2 s0_0 x1001_2 = some (r1, r2, r3, r4)) ∧ Aside0 (kq ≤ k) ∧ Aside0 (Kd.Q k33 33 wc w.heap.size (fun _ => True) (.slice Ao5 t197.length co5) t197) ∧ Aside0 (IsS93 w0 wc g s0_0 x1001_2) ∧ Aside0 (KeepBut w wc g none) ∧ Aside0 (Below w0.heap.size w0 wc))
 case first =>
  have H := HC3.out
  clear HC3
  by_cases c6 : (t197.length : Int) < 4
  ·rw [if_pos c6] at H
   have c6b0 : decide ((t197.length : Int) < 4) = true := decide_eq_true c6
   have c6b1 : decide (t197.length < 4) = true := decide_eq_true (by omega)
   clear c6
   (first | rw [c6b0] | (simp only [i64_w, i32_w]; rw [c6b0]) | skip)
   have H' := Aside0.mk H
   clear H
   go_wp2
   go_meet
   case rel => exact ⟨_, (true), (t200), (by first | rfl | (simp; done) | (simp [*]; done)), H', ⟨by first | omega | exact Nat.le_refl _⟩, ⟨qm HO199.out⟩, ⟨iz⟩, ⟨kp⟩, ⟨bz⟩⟩
  ·rw [if_neg c6] at H
   have c6b0 : decide ((t197.length : Int) < 4) = false := decide_eq_false c6
   have c6b1 : decide (t197.length < 4) = false := decide_eq_false (by omega)
   clear c6
   (first | rw [c6b0] | (simp only [i64_w, i32_w]; rw [c6b0]) | skip)
   replace H := Option.bind_eq_some_iff.mp H
   obtain ⟨⟨t201, t202⟩, A70, H⟩ := H
   replace H : (spec_l92Split.j0 k t197 (t197.length : Int) (t201 == 0) s0_0 t202) = some (r1, r2, r3, r4) := H
   have A7 := Aside0.mk A70
   clear A70
   have H' := Aside0.mk H
   clear H
   go_wp2_with (first | (go_at_call 65; (with_reducible refine (spec_l6Rd_pick.calls k g s0_0 t200 16 t201 t202 w0 _ ?side1 ?side2 A7.out).mono ?_); (case side1 => exact iz); (case side2 => exact bz); rintro e w8 ⟨rfl, hi, hb, hk⟩; have n0_ := Aside0.mk (Kd.Q_mono (Kd.Q_keep (IsS93.apartQ (show IsS93 w0 _ g s0_0 t200 from iz) (qm HO199.out) (by decide)) hk (fun _ h => h.2)) (fun _ h => h.1)); have n1_ := Aside0.mk (KeepBut.trans kp hk (.inl rfl)); have n2_ := Aside0.mk (hb); have n3_ := Aside0.mk (hi); clear HO199; clear HK; clear HB; clear HI0; have HO199 := n0_; have HK := n1_; have HB := n2_; have HI0 := n3_; clear n0_ n1_ n2_ n3_; (try clear hb); (try clear hb2); (try clear hk); (try clear hi)))
   go_meet
   case rel => exact ⟨_, ((t201 == 0)), (t202), (by first | rfl | (simp; done) | (simp [*]; done)), H', ⟨by first | omega | exact Nat.le_refl _⟩, ⟨qm HO199.out⟩, ⟨iz⟩, ⟨kp⟩, ⟨bz⟩⟩
 case rest =>
  clear HC3
  try clear p2
  try clear c3
  try clear c5
  try clear c6
  try clear c6b0
  try clear c6b1
  obtain ⟨kq, x18_2, x1001_2, rfl, HA, HJ2, HO_5, HI0, HK, HB⟩ := hcut
  cases kq with
  | zero => exact absurd HA.out (by simp [spec_l92Split.j0])
  | succ kj2 =>
   have H := HA.out
   clear HA
   simp only [spec_l92Split.j0] at H
   by_cases c9 : x18_2 = true
   ·subst c9
    have H1 : ((spec_l6Rd_pick.f kj2 s0_0 x1001_2 3).bind fun bt203 => ((spec_l6Rd_pick.f kj2 s0_0 bt203.2 6).bind fun bt205 => (some (t197, bt203.1, bt205.1, bt205.2)))) = some (r1, r2, r3, r4) := by rw [if_pos rfl] at H; exact H
    clear H
    have H := H1
    clear H1
    replace H := Option.bind_eq_some_iff.mp H
    obtain ⟨⟨t203, t204⟩, A100, H⟩ := H
    replace H : ((spec_l6Rd_pick.f kj2 s0_0 t204 6).bind fun bt205 => (some (t197, t203, bt205.1, bt205.2))) = some (r1, r2, r3, r4) := H
    have A10 := Aside0.mk A100
    clear A100
    replace H := Option.bind_eq_some_iff.mp H
    obtain ⟨⟨t205, t206⟩, A110, H⟩ := H
    replace H : (some (t197, t203, t205, t206)) = some (r1, r2, r3, r4) := H
    have A11 := Aside0.mk A110
    clear A110
    simp only [Option.some.injEq, Prod.mk.injEq] at H
    obtain ⟨rfl, rfl, rfl, rfl⟩ := H
    go_wp2_with (first | ((with_reducible refine gate_callee (f := 65) rfl ?_); refine goesL_ (some 21) rfl rfl Try.func65 (by kernel_rfl) rfl #[.pointer (some ⟨g, 0, none⟩), .int .i64 3] rfl al ?_; (with_reducible refine (spec_l6Rd_pick.calls kj2 g s0_0 x1001_2 3 t203 t204 w0 _ ?side1 ?side2 A10.out).mono ?_); (case side1 => exact iz); (case side2 => exact bz); rintro e w12 ⟨rfl, hi, hb, hk⟩; refine ⟨_, rfl, ?_⟩; have n0_ := Aside0.mk (Kd.Q_mono (Kd.Q_keep (IsS93.apartQ (show IsS93 w0 _ g s0_0 x1001_2 from iz) (qm HO_5.out) (by decide)) hk (fun _ h => h.2)) (fun _ h => h.1)); have n1_ := Aside0.mk (KeepBut.trans kp hk (.inl rfl)); have n2_ := Aside0.mk (hb); have n3_ := Aside0.mk (hi); clear HO_5; clear HK; clear HB; clear HI0; have HO_5 := n0_; have HK := n1_; have HB := n2_; have HI0 := n3_; clear n0_ n1_ n2_ n3_; (try clear hb); (try clear hb2); (try clear hk); (try clear hi)) | ((with_reducible refine gate_callee (f := 65) rfl ?_); refine goesL_ (some 23) rfl rfl Try.func65 (by kernel_rfl) rfl #[.pointer (some ⟨g, 0, none⟩), .int .i64 6] rfl al ?_; (with_reducible refine (spec_l6Rd_pick.calls kj2 g s0_0 t204 6 t205 t206 w0 _ ?side1 ?side2 A11.out).mono ?_); (case side1 => exact iz); (case side2 => exact bz); rintro e w13 ⟨rfl, hi, hb, hk⟩; refine ⟨_, rfl, ?_⟩; have n0_ := Aside0.mk (Kd.Q_mono (Kd.Q_keep (IsS93.apartQ (show IsS93 w0 _ g s0_0 t204 from iz) (qm HO_5.out) (by decide)) hk (fun _ h => h.2)) (fun _ h => h.1)); have n1_ := Aside0.mk (KeepBut.trans kp hk (.inl rfl)); have n2_ := Aside0.mk (hb); have n3_ := Aside0.mk (hi); clear HO_5; clear HK; clear HB; clear HI0; have HO_5 := n0_; have HK := n1_; have HB := n2_; have HI0 := n3_; clear n0_ n1_ n2_ n3_; (try clear hb); (try clear hb2); (try clear hk); (try clear hi)))
    go_ret3
    exact ⟨_, er, qm HO_5.out, iz, bz, kp⟩
   ·replace c9 := Bool.eq_false_iff.mpr c9
    subst c9
    have H1 : ((spec_l6Rd_pick.f kj2 s0_0 x1001_2 (wrap64 ((t197.length : Int) - 2))).bind fun bt207 => ((spec_l6Rd_pick.f kj2 s0_0 bt207.2 (wrap64 ((wrap64 ((t197.length : Int) - 2)) - bt207.1))).bind fun bt209 => (some (t197, bt207.1, mn (wrap64 ((t197.length : Int) - 1)) (wrap64 ((wrap64 (bt207.1 + 2)) + bt209.1)), bt209.2)))) = some (r1, r2, r3, r4) := by rw [if_neg (show ¬ (false = true) by decide)] at H; exact H
    clear H
    have H := H1
    clear H1
    replace H := Option.bind_eq_some_iff.mp H
    obtain ⟨⟨t207, t208⟩, A140, H⟩ := H
    replace H : ((spec_l6Rd_pick.f kj2 s0_0 t208 (wrap64 ((wrap64 ((t197.length : Int) - 2)) - t207))).bind fun bt209 => (some (t197, t207, mn (wrap64 ((t197.length : Int) - 1)) (wrap64 ((wrap64 (t207 + 2)) + bt209.1)), bt209.2))) = some (r1, r2, r3, r4) := H
    have A14 := Aside0.mk A140
    clear A140
    replace H := Option.bind_eq_some_iff.mp H
    obtain ⟨⟨t209, t210⟩, A150, H⟩ := H
    replace H : (some (t197, t207, mn (wrap64 ((t197.length : Int) - 1)) (wrap64 ((wrap64 (t207 + 2)) + t209)), t210)) = some (r1, r2, r3, r4) := H
    have A15 := Aside0.mk A150
    clear A150
    obtain ⟨ji16, hji16⟩ : ∃ j_ : Int, (mn (wrap64 ((t197.length : Int) - 1)) (wrap64 ((wrap64 (t207 + 2)) + t209))) = j_ := ⟨_, rfl⟩
    replace H : (some (t197, t207, ji16, t210)) = some (r1, r2, r3, r4) := by first | (rw [hji16] at H; exact H) | (simp only [hji16] at H ⊢; exact H)
    (try rw [hji16] at A14)
    (try rw [hji16] at A15)
    have hji16_ : (if (wrap64 ((wrap64 (t207 + 2)) + t209)) < (wrap64 ((t197.length : Int) - 1)) then (wrap64 ((wrap64 (t207 + 2)) + t209)) else (wrap64 ((t197.length : Int) - 1))) = ji16 := hji16
    simp only [Option.some.injEq, Prod.mk.injEq] at H
    obtain ⟨rfl, rfl, rfl, rfl⟩ := H
    go_wp2_with (first | ((with_reducible refine gate_callee (f := 65) rfl ?_); refine goesL_ (some 27) rfl rfl Try.func65 (by kernel_rfl) rfl #[.pointer (some ⟨g, 0, none⟩), .int .i64 (wrap64 ((t197.length : Int) - 2))] rfl al ?_; (with_reducible refine (spec_l6Rd_pick.calls kj2 g s0_0 x1001_2 (wrap64 ((t197.length : Int) - 2)) t207 t208 w0 _ ?side1 ?side2 A14.out).mono ?_); (case side1 => exact iz); (case side2 => exact bz); rintro e w17 ⟨rfl, hi, hb, hk⟩; refine ⟨_, rfl, ?_⟩; have n0_ := Aside0.mk (Kd.Q_mono (Kd.Q_keep (IsS93.apartQ (show IsS93 w0 _ g s0_0 x1001_2 from iz) (qm HO_5.out) (by decide)) hk (fun _ h => h.2)) (fun _ h => h.1)); have n1_ := Aside0.mk (KeepBut.trans kp hk (.inl rfl)); have n2_ := Aside0.mk (hb); have n3_ := Aside0.mk (hi); clear HO_5; clear HK; clear HB; clear HI0; have HO_5 := n0_; have HK := n1_; have HB := n2_; have HI0 := n3_; clear n0_ n1_ n2_ n3_; (try clear hb); (try clear hb2); (try clear hk); (try clear hi)) | ((with_reducible refine gate_callee (f := 65) rfl ?_); refine goesL_ (some 39) rfl rfl Try.func65 (by kernel_rfl) rfl #[.pointer (some ⟨g, 0, none⟩), .int .i64 (wrap64 ((wrap64 ((t197.length : Int) - 2)) - t207))] rfl al ?_; (with_reducible refine (spec_l6Rd_pick.calls kj2 g s0_0 t208 (wrap64 ((wrap64 ((t197.length : Int) - 2)) - t207)) t209 t210 w0 _ ?side1 ?side2 A15.out).mono ?_); (case side1 => exact iz); (case side2 => exact bz); rintro e w18 ⟨rfl, hi, hb, hk⟩; refine ⟨_, rfl, ?_⟩; have n0_ := Aside0.mk (Kd.Q_mono (Kd.Q_keep (IsS93.apartQ (show IsS93 w0 _ g s0_0 t208 from iz) (qm HO_5.out) (by decide)) hk (fun _ h => h.2)) (fun _ h => h.1)); have n1_ := Aside0.mk (KeepBut.trans kp hk (.inl rfl)); have n2_ := Aside0.mk (hb); have n3_ := Aside0.mk (hi); clear HO_5; clear HK; clear HB; clear HI0; have HO_5 := n0_; have HK := n1_; have HB := n2_; have HI0 := n3_; clear n0_ n1_ n2_ n3_; (try clear hb); (try clear hb2); (try clear hk); (try clear hi)))
    go_ret3
    exact ⟨_, by first | rfl | (simp [errW_none, errW_some] <;> rfl) | (simp only [← hji16]; first | rfl | (simp [errW_none, errW_some] <;> rfl)) | (simp [*, errW_none, errW_some] <;> rfl), qm HO_5.out, iz, bz, kp⟩
def spec_l6Open.f (l0 : List Int) : Option (List Int × Int) := if (l0.length : Int) > 2000 then (if 2000 ≤ (l0.length : Int) then (some (l0.take 2000, 0)) else (none)) else (some (l0, 0))
set_option maxHeartbeats 8000000 in
set_option maxRecDepth 100000 in
theorem spec_l6Open.calls (A0 : Option Addr) (c0 : Nat) (l0 : List Int) (r1 : List Int) (r2 : Int) (w0 w : World) (hB : Below w0.heap.size w0 w) (hr0 : Kd.C (Kd.int .u8) w0 A0 l0.length l0) (hc0 : l0.length ≤ c0) (h : spec_l6Open.f l0 = some (r1, r2)) :
  Calls Try.prog 34 #[.slice A0 l0.length c0] w fun e w' => ∃ g_ : Nat, e = .returned (.pointer (some ⟨g_, 0, none⟩)) ∧ IsS93 w0 w' g_ r1 r2 ∧ Below w0.heap.size w0 w' ∧ Below w.heap.size w w' := by
 have hu93 := Try.underlying93
 have HR0 := Aside0.mk hr0
 have HC0 := Aside0.mk hc0
 clear hr0 hc0
 have HBW := Aside0.mk (Below.refl w.heap.size w)
 have HW0 := Aside0.mk hB.size
 have HB := Aside0.mk hB
 clear hB
 have H : (if (l0.length : Int) > 2000 then (if 2000 ≤ (l0.length : Int) then (some (l0.take 2000, 0)) else (none)) else (some (l0, 0))) = some (r1, r2) := h
 clear h
 by_cases c2 : (l0.length : Int) > 2000
 ·rw [if_pos c2] at H
  have c2b0 : decide (2000 < (l0.length : Int)) = true := decide_eq_true c2
  have c2b1 : decide (2000 < l0.length) = true := decide_eq_true (by omega)
  clear c2
  by_cases c3 : 2000 ≤ (l0.length : Int)
  ·rw [if_pos c3] at H
   have c3b0 := eq_true c3
   have c3b1 : decide (2000 ≤ (l0.length : Int)) = true := decide_eq_true c3
   clear c3
   simp only [Option.some.injEq, Prod.mk.injEq] at H
   obtain ⟨rfl, rfl⟩ := H
   obtain ⟨i04, hi04, _, hsz4, _⟩ := info_parts info5
   obtain ⟨hcut4, hA4, hC4⟩ := print_take_of (P := Try.prog) (Value.int .u8) 0 22 5 .i64 Try.underlying22 hi04 hsz4 A0 c0 l0 2000 (by omega) oa HC0.out
   have HR211 := Aside0.mk (Kd.C_of_reads (h1 := fun _ => rfl) (hA4 _ (Kd.reads_of_C HR0.out)))
   have HC211 := Aside0.mk hC4
   clear hA4 hC4 hi04 hsz4
   go_enter Try.func34, Try.ntmps34
   go_wp2_with (first | ((with_reducible refine gate_dst (N := 10) rfl ?_); refine bx_ 10 (cs := #[.slice A0 (l0.take 2000).length c0, .int .i64 0]) (t := 93) ?_; intro gb212 hg w5 hbox hb; have n0_ := Aside0.mk (below_step HBW.out hb); have n1_ := Aside0.mk (below_step (lb HB.out) hb); have n2_ := Aside0.mk (hbox); have n3_ := Aside0.mk ((by rw [hg]; exact (below_size (by repeat (first | (with_reducible first | exact HBW.out | apply below_alloc | apply pw_below_drewN | apply below_drew1) | exact HBW.out))) : w.heap.size ≤ gb212)); have n4_ := Aside0.mk ((Nat.le_trans HW0.out (by rw [hg]; exact (below_size (by repeat (first | (with_reducible first | exact HBW.out | apply below_alloc | apply pw_below_drewN | apply below_drew1) | exact HBW.out))) : w.heap.size ≤ gb212) : w0.heap.size ≤ gb212)); clear HBW; clear HB; have HBW := n0_; have HB := n1_; have BK212 := n2_; have GW212 := n3_; have GE212 := n4_; clear n0_ n1_ n2_ n3_ n4_; clear hb hbox hg))
   go_ret
   exact ⟨_, rfl, (show IsS93 w0 _ gb212 (l0.take 2000) 0 from ⟨_, _, bu BK212.out, GE212.out, HR211.out⟩), lb HB.out, by repeat (first | (with_reducible first | exact HBW.out | apply below_alloc | apply pw_below_drewN | apply below_drew1 | refine below_set ?_ GW212.out) | exact HBW.out)⟩
  ·rw [if_neg c3] at H
   exact absurd H (by simp)
 ·rw [if_neg c2] at H
  have c2b0 : decide (2000 < (l0.length : Int)) = false := decide_eq_false c2
  have c2b1 : decide (2000 < l0.length) = false := decide_eq_false (by omega)
  clear c2
  simp only [Option.some.injEq, Prod.mk.injEq] at H
  obtain ⟨rfl, rfl⟩ := H
  go_enter Try.func34, Try.ntmps34
  go_wp2_with (first | ((with_reducible refine gate_dst (N := 10) rfl ?_); refine bx_ 10 (cs := #[.slice A0 l0.length c0, .int .i64 0]) (t := 93) ?_; intro gb213 hg w6 hbox hb; have n0_ := Aside0.mk (below_step HBW.out hb); have n1_ := Aside0.mk (below_step (lb HB.out) hb); have n2_ := Aside0.mk (hbox); have n3_ := Aside0.mk ((by rw [hg]; exact (below_size (by repeat (first | (with_reducible first | exact HBW.out | apply below_alloc | apply pw_below_drewN | apply below_drew1) | exact HBW.out))) : w.heap.size ≤ gb213)); have n4_ := Aside0.mk ((Nat.le_trans HW0.out (by rw [hg]; exact (below_size (by repeat (first | (with_reducible first | exact HBW.out | apply below_alloc | apply pw_below_drewN | apply below_drew1) | exact HBW.out))) : w.heap.size ≤ gb213) : w0.heap.size ≤ gb213)); clear HBW; clear HB; have HBW := n0_; have HB := n1_; have BK213 := n2_; have GW213 := n3_; have GE213 := n4_; clear n0_ n1_ n2_ n3_ n4_; clear hb hbox hg))
  go_ret
  exact ⟨_, rfl, (show IsS93 w0 _ gb213 l0 0 from ⟨_, _, bu BK213.out, GE213.out, HR0.out⟩), lb HB.out, by repeat (first | (with_reducible first | exact HBW.out | apply below_alloc | apply pw_below_drewN | apply below_drew1 | refine below_set ?_ GW213.out) | exact HBW.out)⟩
def spec_DrawParcelShare.f (k : Nat) (l0 : List Int) : Option ((List (S33)) × Int × Int) := (spec_l6Open.f l0).bind fun bt214 => ((spec_l92Split.f k bt214.1 bt214.2).bind fun bt217 => (some (bt217.1, bt217.2.1, bt217.2.2.1)))
theorem spec_DrawParcelShare.mono : ∀ a0 k, LeO (spec_DrawParcelShare.f k a0) (spec_DrawParcelShare.f (k + 1) a0) := by
 intro a0 k
 unfold spec_DrawParcelShare.f
 repeat' first
   | (with_reducible exact spec_l92Split.mono _ _ _)
   | (with_reducible exact LeO.refl _)
   | (with_reducible exact LeO.none _)
   | (with_reducible refine LeO.ite ?_ ?_)
   | (with_reducible refine LeO.bind ?_ (fun _ => ?_))
   | exact spec_l92Split.mono _ _ _
   | exact LeO.none _
   | refine LeO.ite ?_ ?_
   | refine LeO.bind ?_ (fun _ => ?_)
set_option maxHeartbeats 8000000 in
set_option maxRecDepth 100000 in
theorem spec_DrawParcelShare.calls (k : Nat) (A0 : Option Addr) (c0 : Nat) (l0 : List Int) (r1 : List (S33)) (r2 : Int) (r3 : Int) (w : World) (hr0 : Kd.C (Kd.int .u8) w A0 l0.length l0) (hc0 : l0.length ≤ c0) (h : spec_DrawParcelShare.f k l0 = some (r1, r2, r3)) :
  Calls Try.prog 16 #[.slice A0 l0.length c0] w fun e w' => ∃ v0_ : Value, e = .returned (.tuple #[v0_, .int .i64 r2, .int .i64 r3]) ∧ Kd.Q k33 33 w' w.heap.size (fun _ => True) v0_ r1 ∧ Below w.heap.size w w' := by
 have HR0 := Aside0.mk hr0
 have HC0 := Aside0.mk hc0
 clear hr0 hc0
 have HB := Aside0.mk (Below.refl w.heap.size w)
 have H : ((spec_l6Open.f l0).bind fun bt214 => ((spec_l92Split.f k bt214.1 bt214.2).bind fun bt217 => (some (bt217.1, bt217.2.1, bt217.2.2.1)))) = some (r1, r2, r3) := h
 clear h
 replace H := Option.bind_eq_some_iff.mp H
 obtain ⟨⟨t214, t215⟩, A20, H⟩ := H
 replace H : ((spec_l92Split.f k t214 t215).bind fun bt217 => (some (bt217.1, bt217.2.1, bt217.2.2.1))) = some (r1, r2, r3) := H
 have A2 := Aside0.mk A20
 clear A20
 replace H := Option.bind_eq_some_iff.mp H
 obtain ⟨⟨t217, t220, t221, t222⟩, A30, H⟩ := H
 replace H : (some (t217, t220, t221)) = some (r1, r2, r3) := H
 have A3 := Aside0.mk A30
 clear A30
 simp only [Option.some.injEq, Prod.mk.injEq] at H
 obtain ⟨rfl, rfl, rfl⟩ := H
 go_enter Try.func16, Try.ntmps16
 go_wp2_with (first | ((with_reducible refine gate_callee (f := 34) rfl ?_); refine goesL_ (some 6) rfl rfl Try.func34 (by kernel_rfl) rfl #[.slice A0 l0.length c0] rfl al ?_; (with_reducible refine (spec_l6Open.calls _ _ l0 t214 t215 w _ ?side1 ?side2 ?side3 A2.out).mono ?_); (case side1 => repeat (first | (with_reducible first | exact HB.out | apply below_alloc | apply pw_below_drewN | apply below_drew1) | exact HB.out)); (case side2 => exact HR0.out); (case side3 => exact HC0.out); rintro e w4 ⟨g216, rfl, hi, hb, hb2⟩; refine ⟨_, rfl, ?_⟩; have n0_ := Aside0.mk (hb); have n1_ := Aside0.mk (hi); clear HB; have HB := n0_; have HI216 := n1_; clear n0_ n1_; (try clear hb); (try clear hb2); (try clear hk); (try clear hi)) | ((with_reducible refine gate_callee (f := 33) rfl ?_); refine goesL_ (some 7) rfl rfl Try.func33 (by kernel_rfl) rfl #[.pointer (some ⟨g216, 0, none⟩)] rfl al ?_; (with_reducible refine (spec_l92Split.calls k g216 t214 t215 t217 t220 t221 t222 w _ ?side1 ?side2 A3.out).mono ?_); (case side1 => repeat (first | (with_reducible first | exact HI216.out | apply IsS93.alloc | apply IsS93.drewN | apply IsS93.drew | apply IsS93.set_1) | exact HI216.out)); (case side2 => repeat (first | (with_reducible first | exact HB.out | apply below_alloc | apply pw_below_drewN | apply below_drew1 | refine below_set ?_ (IsS93.ge HI216.out)) | exact HB.out)); rintro e w5 ⟨v218, rfl, ho0, hi, hb, hk⟩; refine ⟨_, rfl, ?_⟩; have n0_ := Aside0.mk (Kd.Q_lower ho0 (below_size (by repeat (first | (with_reducible first | exact HB.out | apply below_alloc | apply pw_below_drewN | apply below_drew1 | refine below_set ?_ (IsS93.ge HI216.out)) | exact HB.out)))); have n1_ := Aside0.mk (hb); have n2_ := Aside0.mk (hi); clear HB; clear HI216; have HO219 := n0_; have HB := n1_; have HI216 := n2_; clear n0_ n1_ n2_; (try clear hb); (try clear hb2); (try clear hk); (try clear hi); (try clear ho0)))
 go_ret3
 exact ⟨_, er, qm HO219.out, by repeat (first | (with_reducible first | exact HB.out | apply below_alloc | apply pw_below_drewN | apply below_drew1 | refine below_set ?_ (IsS93.ge HI216.out)) | exact HB.out)⟩
def arN (X Y : Nat → Int) (n : Nat) : Nat → Int
 | 0 => 0
 | i + 1 => wrap64 (arN X Y n i + crI (X i) (Y i) (X ((i + 1) % n)) (Y ((i + 1) % n)))
def plArea.T : Bool × List (List Nat × List Nat) := (true,[([],[]),([],[]),([1],[1]),([2],[2]),([3],[3]),([4],[4]),([],[]),([6],[6]),([7],[7]),([8],[8]),([9],[9]),([10],[10]),([11],[11]),([12,5],[12]),([5,13,13],[5,13]),([0,14],[0,14]),([15,14,0,1,2,3,4,5,6,7,8,9,10,11,12,13,14,15],[15])])
def plArea.B : List Nat := [0,0,2,6,14,30,0,64,192,448,960,1984,4032,8190,16382,32767,65535]
theorem plArea.tab : rtab .any (opsOf Try.f38 4) = plArea.T := by kernel_rfl
theorem plArea.bits : waitsOk plArea.T.2 plArea.B = true := by kernel_rfl
theorem plArea.both : rtab .any (opsOf Try.f38 4) = plArea.T ∧ waitsOk plArea.T.2 plArea.B = true := ⟨plArea.tab, plArea.bits⟩
set_option maxHeartbeats 4000000 in
set_option maxRecDepth 100000 in
theorem area_calls (n : Nat) (bs : Nat → Nat) (X Y : Nat → Int) (w : World) (hn : n ≤ 1000) (hR : Ring w w.heap.size n bs X Y) :
  Calls Try.prog 38 #[.agg #[.pointer (some ⟨bs 0, 0, none⟩), .int .i64 (n : Int)]] w fun e w' => e = .returned (.int .i64 (arN X Y n n)) ∧ Below w.heap.size w w' := by
 have HR := Aside0.mk hR
 have HM := Aside0.mk (Hd.nil w)
 have hpos := hR.pos
 clear hR
 refine pl_enter Try.func38 rfl ?_
 simp only [Try.ntmps38, List.size_toArray, List.length_cons, List.length_nil, Nat.reduceAdd, Nat.reduceSub, Array.replicate_succ, Array.replicate_zero, List.push_toArray, List.append_toArray, List.nil_append, List.cons_append]
 go_upto_region 2 with ((with_reducible refine gate_dst (N := 1) rfl ?_); refine bx_ 1 (cs := #[.pointer (some ⟨bs 0, 0, none⟩), .int .i64 (n : Int)]) (t := 58) ?_; intro g1 e_ w1 b_ hb; replace HM := Aside0.mk (HM.out.box hb b_ e_); clear e_ b_ hb)
 replace HM := Aside0.mk (HM.out.alloc #[.int .i64 0] 3)
 generalize w1.alloc (.cells #[.int .i64 0] 3) = w2 at *
 generalize w1.heap.size = gs at *
 have c0 : w2.cell? ⟨g1, 0, none⟩ = some (.pointer (some ⟨bs 0, 0, none⟩)) := blk_cell HM.out.a1 0
 have c1 : w2.cell? ⟨g1, 1, none⟩ = some (.int .i64 (n : Int)) := blk_cell HM.out.a1 1
 go_wp2_with fail
 clear c0 c1
 have hgs : w.heap.size ≤ gs := (HM.out.2.1 (gs, #[.int .i64 0], 3) (by simp)).1
 have hgs2 : gs < w2.heap.size := blk_lt HM.out.a0
 have hw2 := HM.out.1.size
 have hR2 := HR.out.below HM.out.1
 refine pl_range (gf := 46) rfl (fun args w => enters_ Try.func46 (by kernel_rfl) rfl args w) w.heap.size n hw2 _ (corners_walks w.heap.size n bs X Y w2 hn hw2 hR2) (fun i W => W.heap[gs]? = some (.cells #[.int .i64 (arN X Y n i)] 3 (0, 0)) ∧ Below w.heap.size w W) (fun _ _ => False) (OwnFrom.and (own_block (fun _ => rfl)) (ownFrom_below (Nat.le_refl _) hw2)) (fun _ _ _ _ h _ _ => h) ⟨HM.out.a0, HM.out.1⟩ (fun i => { tmps := #[.agg #[.pointer (some ⟨bs 0, 0, none⟩), .int .i64 (n : Int)], .pointer (some ⟨g1, 0, none⟩), .int .i64 0, .pointer (some ⟨gs, 0, none⟩), .pointer (some ⟨bs i, 0, none⟩), .agg #[.pointer (some ⟨bs 0, 0, none⟩), .int .i64 (n : Int)], .func (.func 46) #[.agg #[.pointer (some ⟨bs 0, 0, none⟩), .int .i64 (n : Int)]] #[], .pointer (some ⟨bs i, 0, none⟩), undef, undef, undef, undef, undef, undef, undef, undef, undef, undef, undef, undef, undef, undef, undef, undef, undef], defers := [] }) ?_ ?_ ?_ ?_
 ·intro l i W K hK
  exact pl_assign hK
 ·rintro l i W hi ⟨hS, hB⟩
  have hi1 : (i + 1) % n < n := Nat.mod_lt _ hpos
  have HRW := Aside0.mk (HR.out.below hB)
  have HK : Aside0 (Rd w W W w2.heap.size gs (.cells #[.int .i64 (arN X Y n i)] 3 (0, 0))) := ⟨⟨hS, hB, Below.refl _ _, KeepsFrom.refl _ _⟩⟩
  have HA : Aside0 (arN X Y n (i + 1) = wrap64 (arN X Y n i + crI (X i) (Y i) (X ((i + 1) % n)) (Y ((i + 1) % n)))) := ⟨rfl⟩
  have HPO := Aside0.mk (plPost_no w2.heap.size w.heap.size (fun i W => W.heap[gs]? = some (.cells #[.int .i64 (arN X Y n i)] 3 (0, 0)) ∧ Below w.heap.size w W) (fun _ _ => False) i W)
  generalize arN X Y n i = sm at HK HA
  have hWs := hB.size
  clear hS hB HM hR2
  refine wpIn_block ?_
  replace HK := Aside0.mk HK.out.drew
  replace HRW := Aside0.mk (HRW.out.below ((below_drew1 (Below.refl _ W)).mono hWs))
  refine pl_start (S := fun w' => w'.cell? ⟨bs i, 0, none⟩ = some (.int .i64 (X i)) ∧ w'.cell? ⟨bs i, 1, none⟩ = some (.int .i64 (Y i)) ∧ w'.cell? ⟨bs i, 2, none⟩ = some (.pointer (some ⟨bs ((i + 1) % n), 0, none⟩)) ∧ w'.cell? ⟨bs ((i + 1) % n), 0, none⟩ = some (.int .i64 (X ((i + 1) % n))) ∧ w'.cell? ⟨bs ((i + 1) % n), 1, none⟩ = some (.int .i64 (Y ((i + 1) % n))) ∧ w'.cell? ⟨gs, 0, none⟩ = some (.int .i64 sm)) (ds := [16]) #[false,false,false,false,false,false,false,false,false,false,false,false,false,false,false,false,false] (by kernel_rfl) (noDefer_all (by kernel_rfl)) (pl_no_block _ HPO.out) rfl rfl ⟨(blk_cell (HRW.out.cell i hi) 0).trans rfl, (blk_cell (HRW.out.cell i hi) 1).trans rfl, (blk_cell (HRW.out.cell i hi) 2).trans rfl, (blk_cell (HRW.out.cell _ hi1) 0).trans rfl, (blk_cell (HRW.out.cell _ hi1) 1).trans rfl, (blk_cell HK.out.1 0).trans rfl⟩ (fun hHeld => ?_)
  refine with_tabW plArea.both.1 plArea.both.2 (fun HT_ HW_ => ?_)
  generalize hwd : W.drew = wd at HK HRW hHeld ⊢
  clear hwd
  refine pq_ 1 (some 9) ?_
  refine pq_ 2 (some 10) ?_
  refine pq_ 3 (some 11) ?_
  refine tq_ 4 (some 12) ?_
  refine tq_ 0 (some 8) ?_
  refine pq_ 6 (some 14) ?_
  refine pq_ 7 (some 15) ?_
  refine pq_ 8 (some 16) ?_
  refine tq_ 9 (some 17) ?_
  refine pq_ 10 (some 18) ?_
  refine pq_ 11 (some 19) ?_
  refine tq_ 12 (some 20) ?_
  refine one_ (i := 5) (N := some 13) #[true,true,true,true,true,true,true,true,true,true,true,true,true,false,false,false,false] rfl rfl (one_of HT_.out (by kernel_rfl)) (by decide) (fun K hK => ?_)
  refine goes_ Try.func40 (by kernel_rfl) rfl #[.agg #[.int .i64 (X i), .int .i64 (Y i)]] (by rfl) rfl rfl al ?_
  with_reducible refine (pairOf_calls (X i) (Y i) _).mono ?_
  rintro e w_ ⟨rfl, hb⟩
  refine ⟨_, rfl, ?_⟩
  replace HRW := Aside0.mk (HRW.out.below (hb.mono HK.out.2.1.size))
  replace HK := Aside0.mk (HK.out.keep hb)
  clear hb
  refine hK.out _ _ ⟨(blk_cell (HRW.out.cell i hi) 0).trans rfl, (blk_cell (HRW.out.cell i hi) 1).trans rfl, (blk_cell (HRW.out.cell i hi) 2).trans rfl, (blk_cell (HRW.out.cell _ hi1) 0).trans rfl, (blk_cell (HRW.out.cell _ hi1) 1).trans rfl, (blk_cell HK.out.1 0).trans rfl⟩ (fun hHeld => ?_)
  clear hK K
  refine norm_ (a' := ?_) ?_ ?_
  rotate_left
  ·show Act.put _ (some 13) _ = _
   simp only [Act.put, List.setIfInBounds_toArray, List.set_cons_zero, List.set_cons_succ, i64_w, i32_w]
   rfl
  refine one_ (i := 13) (N := some 21) #[true,true,true,true,true,true,true,true,true,true,true,true,true,true,false,false,false] rfl rfl (one_of HT_.out (by kernel_rfl)) (by decide) (fun K hK => ?_)
  refine goes_ Try.func40 (by kernel_rfl) rfl #[.agg #[.int .i64 (X ((i + 1) % n)), .int .i64 (Y ((i + 1) % n))]] (by rfl) rfl rfl al ?_
  with_reducible refine (pairOf_calls (X ((i + 1) % n)) (Y ((i + 1) % n)) _).mono ?_
  rintro e w_ ⟨rfl, hb⟩
  refine ⟨_, rfl, ?_⟩
  replace HRW := Aside0.mk (HRW.out.below (hb.mono HK.out.2.1.size))
  replace HK := Aside0.mk (HK.out.keep hb)
  clear hb
  refine hK.out _ _ ⟨(blk_cell (HRW.out.cell i hi) 0).trans rfl, (blk_cell (HRW.out.cell i hi) 1).trans rfl, (blk_cell (HRW.out.cell i hi) 2).trans rfl, (blk_cell (HRW.out.cell _ hi1) 0).trans rfl, (blk_cell (HRW.out.cell _ hi1) 1).trans rfl, (blk_cell HK.out.1 0).trans rfl⟩ (fun hHeld => ?_)
  clear hK K
  refine norm_ (a' := ?_) ?_ ?_
  rotate_left
  ·show Act.put _ (some 21) _ = _
   simp only [Act.put, List.setIfInBounds_toArray, List.set_cons_zero, List.set_cons_succ, i64_w, i32_w]
   rfl
  refine one_ (i := 14) (N := some 22) #[true,true,true,true,true,true,true,true,true,true,true,true,true,true,true,false,false] rfl rfl (one_of HT_.out (by kernel_rfl)) (by decide) (fun K hK => ?_)
  refine goes_ Try.func67 (by kernel_rfl) rfl #[.agg #[.int .i64 (X i), .int .i64 (Y i)], .agg #[.int .i64 (X ((i + 1) % n)), .int .i64 (Y ((i + 1) % n))]] (by rfl) rfl rfl al ?_
  with_reducible refine (pairCross_calls (X i) (Y i) (X ((i + 1) % n)) (Y ((i + 1) % n)) _).mono ?_
  rintro e w_ ⟨rfl, hb⟩
  refine ⟨_, rfl, ?_⟩
  replace HRW := Aside0.mk (HRW.out.below (hb.mono HK.out.2.1.size))
  replace HK := Aside0.mk (HK.out.keep hb)
  clear hb
  refine hK.out _ _ ⟨(blk_cell (HRW.out.cell i hi) 0).trans rfl, (blk_cell (HRW.out.cell i hi) 1).trans rfl, (blk_cell (HRW.out.cell i hi) 2).trans rfl, (blk_cell (HRW.out.cell _ hi1) 0).trans rfl, (blk_cell (HRW.out.cell _ hi1) 1).trans rfl, (blk_cell HK.out.1 0).trans rfl⟩ (fun hHeld => ?_)
  clear hK K
  refine norm_ (a' := ?_) ?_ ?_
  rotate_left
  ·show Act.put _ (some 22) _ = _
   simp only [Act.put, List.setIfInBounds_toArray, List.set_cons_zero, List.set_cons_succ, i64_w, i32_w]
   rfl
  refine pq_ 15 (some 23) ?_
  refine last_ (i := 16) (N := none) #[true,true,true,true,true,true,true,true,true,true,true,true,true,true,true,true,true] rfl rfl (one_of HT_.out (by kernel_rfl)) (by decide) (fun K hK => ?_)
  refine skip_ (w1 := ?_) (by rfl) rfl ?_ ?_
  rotate_left
  ·have hc3 := blk_cell HK.out.1 0
   have hf3 := blk_frozen HK.out.1 0
   go_simp
   rfl
  refine hK.out _ _ ?_
  clear hK K
  refine done_ (done_of HT_.out (by kernel_rfl)) ?_
  have HK2 := HK.out.put hgs 0 (.int .i64 (arN X Y n (i + 1))) rfl
  have he := HA.out
  simp only [crI] at he
  rw [he] at HK2
  refine ⟨HK2.2.2.2, HK2.2.2.1, ?_, HK2.2.1⟩
  simp only [he]
  exact HK2.1
 ·rintro D W hD ⟨hS, hB⟩ hdef
  have s0 : W.cell? ⟨gs, 0, none⟩ = some (.int .i64 (arN X Y n n)) := (blk_cell hS 0).trans rfl
  go_wp2_with fail
  refine pl_leave hdef ?_
  refine ⟨_, ?_, rfl, hB.trans (belowK_b (w := w) (Nat.le_refl _) W D _ _ (Nat.le_trans hw2 hD) hdef rfl rfl)⟩
  simp [results, (rfl : Try.f38.results = #[.tmp 2])]
 ·intro D i W _ _ h; exact h.elim
def impl_within.f (a0 : Int) (a1 : Int) : Option (Bool) := if (wrap64 (-a1)) ≤ a0 then (some (decide (a0 ≤ a1))) else (some false)
set_option maxHeartbeats 8000000 in
set_option maxRecDepth 100000 in
theorem impl_within.calls (a0 : Int) (a1 : Int) (r : Bool) (w : World) (h : impl_within.f a0 a1 = some r) :
  Calls Try.prog 73 #[.int .i64 a0, .int .i64 a1] w fun e w' => e = .returned (.bool r) ∧ Drawn0 w w' := by
 have H : (if (wrap64 (-a1)) ≤ a0 then (some (decide (a0 ≤ a1))) else (some false)) = some r := h
 clear h
 by_cases c3 : (wrap64 (-a1)) ≤ a0
 ·rw [if_pos c3] at H
  have c3b0 : decide ((wrap64 (-a1)) ≤ a0) = true := decide_eq_true c3
  clear c3
  obtain rfl := Option.some.inj H
  go_enter Try.func73, Try.ntmps73
  go_wp2
  go_ret
  exact ⟨by first | rfl | (simp; done) | (simp [*]; done), by repeat (first | exact Drawn0.refl _ | apply Drawn0.step)⟩
 ·rw [if_neg c3] at H
  have c3b0 : decide ((wrap64 (-a1)) ≤ a0) = false := decide_eq_false c3
  clear c3
  obtain rfl := Option.some.inj H
  go_enter Try.func73, Try.ntmps73
  go_wp2
  go_ret
  exact ⟨by first | rfl | (simp; done) | (simp [*]; done), by repeat (first | exact Drawn0.refl _ | apply Drawn0.step)⟩
def impl_PointValid.f (a0_0 : Int) (a0_1 : Int) : Option (Bool) := some (inR a0_0 a0_1 10000)
theorem impl_PointValid.calls (a0_0 : Int) (a0_1 : Int) (r : Bool) (w : World) (h : impl_PointValid.f a0_0 a0_1 = some r) :
  Calls Try.prog 68 #[.agg #[.int .i64 a0_0, .int .i64 a0_1]] w fun e w' => e = .returned (.bool r) ∧ Below w.heap.size w w' := by
 have h := Option.some.inj h
 have h0 := PointValid_calls a0_0 a0_1 w
 rw [h] at h0
 exact h0
mutual
def impl_cornersValid.j0 : Nat → List (S33) → Bool → Option (Bool)
 | 0, _, _ => none
 | k + 1, x0, x12 => if x12 = true then (some false) else (impl_cornersValid.l0 k x0 (x0.length : Int) 0)
def impl_cornersValid.l0 : Nat → List (S33) → Int → Int → Option (Bool)
 | 0, _, _, _ => none
 | k + 1, x13, x14, x15 => if x15 < x14 then (if 0 ≤ x15 then (if x15 < (x13.length : Int) then ((impl_PointValid.f ((rd_T33 x13 x15).f0) ((rd_T33 x13 x15).f1)).bind fun t225 => (if t225 = true then (impl_cornersValid.l0 k x13 x14 (wrap64 (x15 + 1))) else (some false))) else (none)) else (none)) else (some true)
end
def impl_cornersValid.f (k : Nat) (l0 : List (S33)) : Option (Bool) := if (l0.length : Int) < 3 then (impl_cornersValid.j0 k l0 true) else (impl_cornersValid.j0 k l0 (decide ((l0.length : Int) > 12)))
theorem impl_cornersValid.mono_l : ∀ k, (∀ y0 y1, LeO (impl_cornersValid.j0 k y0 y1) (impl_cornersValid.j0 (k + 1) y0 y1)) ∧ (∀ y0 y1 y2, LeO (impl_cornersValid.l0 k y0 y1 y2) (impl_cornersValid.l0 (k + 1) y0 y1 y2))
 | 0 => ⟨fun _ _ r h => by simp [impl_cornersValid.j0] at h, fun _ _ _ r h => by simp [impl_cornersValid.l0] at h⟩
 | k + 1 => by
  obtain ⟨ih0, ih1⟩ := impl_cornersValid.mono_l k
  refine ⟨?_, ?_⟩
  ·intro y0 y1
   unfold impl_cornersValid.j0
   repeat' first
   | (with_reducible exact ih0 _ _)
   | (with_reducible exact ih1 _ _ _)
   | (with_reducible exact LeO.refl _)
   | (with_reducible exact LeO.none _)
   | (with_reducible refine LeO.ite ?_ ?_)
   | (with_reducible refine LeO.bind ?_ (fun _ => ?_))
   | exact ih0 _ _
   | exact ih1 _ _ _
   | exact LeO.none _
   | refine LeO.ite ?_ ?_
   | refine LeO.bind ?_ (fun _ => ?_)
  ·intro y0 y1 y2
   unfold impl_cornersValid.l0
   repeat' first
   | (with_reducible exact ih0 _ _)
   | (with_reducible exact ih1 _ _ _)
   | (with_reducible exact LeO.refl _)
   | (with_reducible exact LeO.none _)
   | (with_reducible refine LeO.ite ?_ ?_)
   | (with_reducible refine LeO.bind ?_ (fun _ => ?_))
   | exact ih0 _ _
   | exact ih1 _ _ _
   | exact LeO.none _
   | refine LeO.ite ?_ ?_
   | refine LeO.bind ?_ (fun _ => ?_)
theorem impl_cornersValid.mono : ∀ a0 k, LeO (impl_cornersValid.f k a0) (impl_cornersValid.f (k + 1) a0) := by
 intro a0 k
 obtain ⟨ih0, ih1⟩ := impl_cornersValid.mono_l k
 unfold impl_cornersValid.f
 repeat' first
   | (with_reducible exact ih0 _ _)
   | (with_reducible exact ih1 _ _ _)
   | (with_reducible exact LeO.refl _)
   | (with_reducible exact LeO.none _)
   | (with_reducible refine LeO.ite ?_ ?_)
   | (with_reducible refine LeO.bind ?_ (fun _ => ?_))
   | exact ih0 _ _
   | exact ih1 _ _ _
   | exact LeO.none _
   | refine LeO.ite ?_ ?_
   | refine LeO.bind ?_ (fun _ => ?_)
set_option maxHeartbeats 8000000 in
set_option maxRecDepth 100000 in
theorem impl_cornersValid.calls (k : Nat) (A0 : Option Addr) (c0 : Nat) (l0 : List (S33)) (r : Bool) (w : World) (hr0 : Kd.C k33 w A0 l0.length l0) (hc0 : l0.length ≤ c0) (h : impl_cornersValid.f k l0 = some r) :
  Calls Try.prog 63 #[.slice A0 l0.length c0] w fun e w' => e = .returned (.bool r) ∧ Below w.heap.size w w' := by
 have hu33 := Try.underlying33
 have HR0 := Aside0.mk hr0
 have HC0 := Aside0.mk hc0
 clear hr0 hc0
 have HB := Aside0.mk (Below.refl w.heap.size w)
 have H : (if (l0.length : Int) < 3 then (impl_cornersValid.j0 k l0 true) else (impl_cornersValid.j0 k l0 (decide ((l0.length : Int) > 12)))) = some r := h
 clear h
 have HC2 := Aside0.mk H
 clear H
 go_enter Try.func63, Try.ntmps63
 go_upto_region 1 with (fail)
 go_cut [12] (fun v12 wc => ∃ (kq : Nat) (x12_1 : Bool), v12 = .bool x12_1 ∧ Aside0 (impl_cornersValid.j0 kq l0 x12_1 = some r) ∧ Aside0 (kq ≤ k) ∧ Aside0 (Below w.heap.size w wc))
 case first =>
  have H := HC2.out
  clear HC2
  by_cases c3 : (l0.length : Int) < 3
  ·rw [if_pos c3] at H
   have c3b0 : decide ((l0.length : Int) < 3) = true := decide_eq_true c3
   have c3b1 : decide (l0.length < 3) = true := decide_eq_true (by omega)
   clear c3
   (first | rw [c3b0] | (simp only [i64_w, i32_w]; rw [c3b0]) | skip)
   have H' := Aside0.mk H
   clear H
   go_wp2
   go_meet
   case rel => exact ⟨_, (true), (by first | rfl | (simp; done) | (simp [*]; done)), H', ⟨by first | omega | exact Nat.le_refl _⟩, ⟨lb HB.out⟩⟩
  ·rw [if_neg c3] at H
   have c3b0 : decide ((l0.length : Int) < 3) = false := decide_eq_false c3
   have c3b1 : decide (l0.length < 3) = false := decide_eq_false (by omega)
   clear c3
   (first | rw [c3b0] | (simp only [i64_w, i32_w]; rw [c3b0]) | skip)
   have H' := Aside0.mk H
   clear H
   go_wp2
   go_meet
   case rel => exact ⟨_, (decide ((l0.length : Int) > 12)), (by first | rfl | (simp; done) | (simp [*]; done)), H', ⟨by first | omega | exact Nat.le_refl _⟩, ⟨lb HB.out⟩⟩
 case rest =>
  clear HC2
  try clear p2
  try clear c3
  try clear c3b0
  try clear c3b1
  obtain ⟨kq, x12_1, rfl, HA, HJ1, HB⟩ := hcut
  cases kq with
  | zero => exact absurd HA.out (by simp [impl_cornersValid.j0])
  | succ kj1 =>
   have H := HA.out
   clear HA
   simp only [impl_cornersValid.j0] at H
   by_cases c4 : x12_1 = true
   ·subst c4
    have H1 : (some false) = some r := by rw [if_pos rfl] at H; exact H
    clear H
    have H := H1
    clear H1
    obtain rfl := Option.some.inj H
    go_wp2
    go_ret
    exact ⟨er, lb HB.out⟩
   ·replace c4 := Bool.eq_false_iff.mpr c4
    subst c4
    have H1 : (impl_cornersValid.l0 kj1 l0 (l0.length : Int) 0) = some r := by rw [if_neg (show ¬ (false = true) by decide)] at H; exact H
    clear H
    have H := H1
    clear H1
    have H' := Aside0.mk H
    clear H
    go_wp2
    go_loopg [15] kj1 (fun kq v15 w' => ∃ (x15_2 : Int), v15 = .int .i64 x15_2 ∧ Aside0 (impl_cornersValid.l0 kq l0 (l0.length : Int) x15_2 = some r) ∧ Aside0 (kq ≤ kj1) ∧ Aside0 (Below w.heap.size w w'))
    case atStart => exact ⟨(0), (by first | rfl | (simp; done) | (simp [*]; done)), H', ⟨Nat.le_refl _⟩, ⟨lb HB.out⟩⟩
    case round =>
     clear H'
     try clear p2
     try clear c3
     try clear c3b0
     try clear c3b1
     try clear c4
     try clear p2
     obtain ⟨x15_2, rfl, HA, HK2, HB⟩ := hrel
     cases gk with
     | zero => exact absurd HA.out (by simp [impl_cornersValid.l0])
     | succ k2 =>
      have H := HA.out
      clear HA
      simp only [impl_cornersValid.l0] at H
      by_cases c5 : x15_2 < (l0.length : Int)
      ·rw [if_pos c5] at H
       have c5b0 : decide (x15_2 < (l0.length : Int)) = true := decide_eq_true c5
       clear c5
       by_cases c6 : 0 ≤ x15_2
       ·rw [if_pos c6] at H
        have c6b0 : decide (0 ≤ x15_2) = true := decide_eq_true c6
        clear c6
        by_cases c7 : x15_2 < (l0.length : Int)
        ·rw [if_pos c7] at H
         have c7b0 : decide (x15_2 < (l0.length : Int)) = true := decide_eq_true c7
         clear c7
         replace H := Option.bind_eq_some_iff.mp H
         obtain ⟨t225, A80, H⟩ := H
         replace H : (if t225 = true then (impl_cornersValid.l0 k2 l0 (l0.length : Int) (wrap64 (x15_2 + 1))) else (some false)) = some r := H
         have A8 := Aside0.mk A80
         clear A80
         by_cases c9 : t225 = true
         ·subst c9
          have H1 : (impl_cornersValid.l0 k2 l0 (l0.length : Int) (wrap64 (x15_2 + 1))) = some r := by rw [if_pos rfl] at H; exact H
          clear H
          have H := H1
          clear H1
          have H' := Aside0.mk H
          clear H
          have p223 : 0 ≤ (x15_2 : Int) := oa
          have q223 : x15_2 < (l0.length : Int) := oa
          obtain ⟨ad223, e223, hx223_0, hx223_1⟩ := at_T33 HR0.out x15_2 p223 q223
          cases e223
          replace hx223_0 := (HB.out.cell (World.block_lt_of_cell? w _ hx223_0)).trans hx223_0
          replace hx223_1 := (HB.out.cell (World.block_lt_of_cell? w _ hx223_1)).trans hx223_1
          replace p223 := eq_true p223
          replace q223 := eq_true q223
          go_wp2_with (first | ((with_reducible refine gate_dst (N := 4) rfl ?_); (try (refine gate_guard (by rfl) ?_; dsimp only)); refine bx_ 4 (cs := #[.int .i64 0, .int .i64 0]) (t := 33) ?_; intro gb224 hg w10 hbox hb; have n0_ := Aside0.mk (below_step (lb HB.out) hb); have n1_ := Aside0.mk (hbox); have n2_ := Aside0.mk ((by rw [hg]; exact (below_size (lb HB.out)) : w.heap.size ≤ gb224)); have n3_ := Aside0.mk ((by rw [hg]; exact (below_size (lb HB.out)) : w.heap.size ≤ gb224)); clear HB; have HB := n0_; have BK224 := n1_; have GW224 := n2_; have GE224 := n3_; clear n0_ n1_ n2_ n3_; clear hb hbox hg; have hcz11_0 : w10.cell? ⟨gb224, 0, none⟩ = some (.int .i64 0) := (blk_cell BK224.out 0).trans rfl; have hcz11_1 : w10.cell? ⟨gb224, 1, none⟩ = some (.int .i64 0) := (blk_cell BK224.out 1).trans rfl; have hfz11_0 := blk_frozen BK224.out 0; have hfz11_1 := blk_frozen BK224.out 1) | ((with_reducible refine gate_callee (f := 68) rfl ?_); refine goesL_ (some 20) rfl rfl Try.func68 (by kernel_rfl) rfl #[.agg #[.int .i64 ((rd_T33 l0 x15_2).f0), .int .i64 ((rd_T33 l0 x15_2).f1)]] rfl al ?_; (with_reducible refine (impl_PointValid.calls ((rd_T33 l0 x15_2).f0) ((rd_T33 l0 x15_2).f1) true _ A8.out).mono ?_); rintro e w12 ⟨rfl, hb⟩; refine ⟨_, rfl, ?_⟩; have n0_ := Aside0.mk (blk_below (bp BK224.out) hb); have n1_ := Aside0.mk (below_step (lb HB.out) hb); clear BK224; clear HB; have BK224 := n0_; have HB := n1_; clear n0_ n1_; (try clear hb); (try clear hb2); (try clear hk); (try clear hi)))
          go_roundg k2
          case measure => have := HJ1.out; have := HK2.out; omega
          case rel => exact ⟨(wrap64 (x15_2 + 1)), (by first | rfl | (simp; done) | (simp [*]; done)), H', ⟨by have := HJ1.out; have := HK2.out; omega⟩, ⟨lb HB.out⟩⟩
         ·replace c9 := Bool.eq_false_iff.mpr c9
          subst c9
          have H1 : (some false) = some r := by rw [if_neg (show ¬ (false = true) by decide)] at H; exact H
          clear H
          have H := H1
          clear H1
          obtain rfl := Option.some.inj H
          have p223 : 0 ≤ (x15_2 : Int) := oa
          have q223 : x15_2 < (l0.length : Int) := oa
          obtain ⟨ad223, e223, hx223_0, hx223_1⟩ := at_T33 HR0.out x15_2 p223 q223
          cases e223
          replace hx223_0 := (HB.out.cell (World.block_lt_of_cell? w _ hx223_0)).trans hx223_0
          replace hx223_1 := (HB.out.cell (World.block_lt_of_cell? w _ hx223_1)).trans hx223_1
          replace p223 := eq_true p223
          replace q223 := eq_true q223
          go_wp2_with (first | ((with_reducible refine gate_dst (N := 4) rfl ?_); (try (refine gate_guard (by rfl) ?_; dsimp only)); refine bx_ 4 (cs := #[.int .i64 0, .int .i64 0]) (t := 33) ?_; intro gb224 hg w13 hbox hb; have n0_ := Aside0.mk (below_step (lb HB.out) hb); have n1_ := Aside0.mk (hbox); have n2_ := Aside0.mk ((by rw [hg]; exact (below_size (lb HB.out)) : w.heap.size ≤ gb224)); have n3_ := Aside0.mk ((by rw [hg]; exact (below_size (lb HB.out)) : w.heap.size ≤ gb224)); clear HB; have HB := n0_; have BK224 := n1_; have GW224 := n2_; have GE224 := n3_; clear n0_ n1_ n2_ n3_; clear hb hbox hg; have hcz14_0 : w13.cell? ⟨gb224, 0, none⟩ = some (.int .i64 0) := (blk_cell BK224.out 0).trans rfl; have hcz14_1 : w13.cell? ⟨gb224, 1, none⟩ = some (.int .i64 0) := (blk_cell BK224.out 1).trans rfl; have hfz14_0 := blk_frozen BK224.out 0; have hfz14_1 := blk_frozen BK224.out 1) | ((with_reducible refine gate_callee (f := 68) rfl ?_); refine goesL_ (some 20) rfl rfl Try.func68 (by kernel_rfl) rfl #[.agg #[.int .i64 ((rd_T33 l0 x15_2).f0), .int .i64 ((rd_T33 l0 x15_2).f1)]] rfl al ?_; (with_reducible refine (impl_PointValid.calls ((rd_T33 l0 x15_2).f0) ((rd_T33 l0 x15_2).f1) false _ A8.out).mono ?_); rintro e w15 ⟨rfl, hb⟩; refine ⟨_, rfl, ?_⟩; have n0_ := Aside0.mk (blk_below (bp BK224.out) hb); have n1_ := Aside0.mk (below_step (lb HB.out) hb); clear BK224; clear HB; have BK224 := n0_; have HB := n1_; clear n0_ n1_; (try clear hb); (try clear hb2); (try clear hk); (try clear hi)))
          go_ret
          exact ⟨er, lb HB.out⟩
        ·rw [if_neg c7] at H
         exact absurd H (by simp)
       ·rw [if_neg c6] at H
        exact absurd H (by simp)
      ·rw [if_neg c5] at H
       have c5b0 : decide (x15_2 < (l0.length : Int)) = false := decide_eq_false c5
       clear c5
       obtain rfl := Option.some.inj H
       go_wp2
       go_ret
       exact ⟨er, lb HB.out⟩
end Go.Proofs.Ytfonigbkoligmaa.P
-- squeezed

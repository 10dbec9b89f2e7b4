import Derived.Test.YtfonigbkoligmaaPx0
import Derived.Test.YtfonigbkoligmaaPx1
namespace Go.Proofs.Ytfonigbkoligmaa.P
open Go.RowKit Go.Proofs.YtfonigbkoligmaaW.PrintWords Go.Proofs.YtfonigbkoligmaaW.PrintLast Go.Proofs.YtfonigbkoligmaaW.PrintMore
attribute [local go_sem] max2_int min2_int max_two min_two max_three min_three max_four min_four
set_option linter.unusedVariables false
set_option linter.unusedSimpArgs false
attribute [local go_sem high] eqA33
def laws_samePoints.l0 : Nat → List (S33) → List (S33) → Int → Option (Bool)
 | 0, _, _, _ => none
 | k + 1, x0, x1, x5 => if x5 < (x0.length : Int) then (if 0 ≤ x5 then (if x5 < (x1.length : Int) then (if (!(((rd_T33 x0 x5).f0) == ((rd_T33 x1 x5).f0)) || (!(((rd_T33 x0 x5).f1) == ((rd_T33 x1 x5).f1)))) = true then (some false) else (laws_samePoints.l0 k x0 x1 (wrap64 (x5 + 1)))) else (none)) else (none)) else (some true)
def laws_samePoints.f (k : Nat) (l0 : List (S33)) (l1 : List (S33)) : Option (Bool) := if (l0.length : Int) = (l1.length : Int) then (laws_samePoints.l0 k l0 l1 0) else (some false)
theorem laws_samePoints.mono_l : ∀ k, (∀ y0 y1 y2, LeO (laws_samePoints.l0 k y0 y1 y2) (laws_samePoints.l0 (k + 1) y0 y1 y2))
 | 0 => fun _ _ _ r h => by simp [laws_samePoints.l0] at h
 | k + 1 => by
  have ih0 := laws_samePoints.mono_l k
  ·intro y0 y1 y2
   unfold laws_samePoints.l0
   repeat' first
   | (with_reducible exact ih0 _ _ _)
   | (with_reducible exact LeO.refl _)
   | (with_reducible exact LeO.none _)
   | (with_reducible refine LeO.ite ?_ ?_)
   | (with_reducible refine LeO.bind ?_ (fun _ => ?_))
   | exact ih0 _ _ _
   | exact LeO.none _
   | refine LeO.ite ?_ ?_
   | refine LeO.bind ?_ (fun _ => ?_)
theorem laws_samePoints.mono : ∀ a0 a1 k, LeO (laws_samePoints.f k a0 a1) (laws_samePoints.f (k + 1) a0 a1) := by
 intro a0 a1 k
 have ih0 := laws_samePoints.mono_l k
 unfold laws_samePoints.f
 repeat' first
   | (with_reducible exact ih0 _ _ _)
   | (with_reducible exact LeO.refl _)
   | (with_reducible exact LeO.none _)
   | (with_reducible refine LeO.ite ?_ ?_)
   | (with_reducible refine LeO.bind ?_ (fun _ => ?_))
   | exact ih0 _ _ _
   | exact LeO.none _
   | refine LeO.ite ?_ ?_
   | refine LeO.bind ?_ (fun _ => ?_)
set_option maxHeartbeats 8000000 in
set_option maxRecDepth 100000 in
theorem laws_samePoints.calls (k : Nat) (A0 : Option Addr) (c0 : Nat) (l0 : List (S33)) (A1 : Option Addr) (c1 : Nat) (l1 : List (S33)) (r : Bool) (w : World) (hr0 : Kd.C k33 w A0 l0.length l0) (hc0 : l0.length ≤ c0) (hr1 : Kd.C k33 w A1 l1.length l1) (hc1 : l1.length ≤ c1) (h : laws_samePoints.f k l0 l1 = some r) :
  Calls Try.prog 10 #[.slice A0 l0.length c0, .slice A1 l1.length c1] w fun e w' => e = .returned (.bool r) ∧ Drawn0 w w' := by
 have hu33 := Try.underlying33
 have HR0 := Aside0.mk hr0
 have HC0 := Aside0.mk hc0
 clear hr0 hc0
 have HR1 := Aside0.mk hr1
 have HC1 := Aside0.mk hc1
 clear hr1 hc1
 have H : (if (l0.length : Int) = (l1.length : Int) then (laws_samePoints.l0 k l0 l1 0) else (some false)) = some r := h
 clear h
 by_cases c3 : (l0.length : Int) = (l1.length : Int)
 ·rw [if_pos c3] at H
  have c3b0 : ((l0.length : Int) == (l1.length : Int)) = true := beq_iff_eq.mpr c3
  have c3b1 : ((l0.length : Int) != (l1.length : Int)) = false := bne_eq_false_iff_eq.mpr c3
  have c3b2 : (l0.length == l1.length) = true := by first | simpa using c3 | (simp at c3 ⊢; omega)
  clear c3
  have H' := Aside0.mk H
  clear H
  go_enter Try.func10, Try.ntmps10
  go_wp2
  repeat (go_quiet (fail); try go_wp2)
  go_loopg [5] k (fun kq v5 w' => ∃ (x5_1 : Int), v5 = .int .i64 x5_1 ∧ Aside0 (laws_samePoints.l0 kq l0 l1 x5_1 = some r) ∧ Aside0 (kq ≤ k) ∧ Drawn0 w w')
  case atStart => exact ⟨(0), (by first | rfl | (simp; done) | (simp [*]; done)), H', ⟨Nat.le_refl _⟩, by repeat (first | exact Drawn0.refl _ | apply Drawn0.step)⟩
  case round =>
   clear H'
   try clear c1
   try clear p2
   try clear c3
   try clear c3b0
   try clear c3b1
   try clear c3b2
   obtain ⟨x5_1, rfl, HA, HK1, ⟨m1, rfl⟩⟩ := hrel
   cases gk with
   | zero => exact absurd HA.out (by simp [laws_samePoints.l0])
   | succ k1 =>
    have H := HA.out
    clear HA
    simp only [laws_samePoints.l0] at H
    by_cases c4 : x5_1 < (l0.length : Int)
    ·rw [if_pos c4] at H
     have c4b0 : decide (x5_1 < (l0.length : Int)) = true := decide_eq_true c4
     clear c4
     by_cases c5 : 0 ≤ x5_1
     ·rw [if_pos c5] at H
      have c5b0 : decide (0 ≤ x5_1) = true := decide_eq_true c5
      clear c5
      by_cases c6 : x5_1 < (l1.length : Int)
      ·rw [if_pos c6] at H
       have c6b0 : decide (x5_1 < (l1.length : Int)) = true := decide_eq_true c6
       clear c6
       by_cases c7 : (!(((rd_T33 l0 x5_1).f0) == ((rd_T33 l1 x5_1).f0)) || (!(((rd_T33 l0 x5_1).f1) == ((rd_T33 l1 x5_1).f1)))) = true
       ·rw [if_pos c7] at H
        have c7b0 : (!(((rd_T33 l0 x5_1).f0) == ((rd_T33 l1 x5_1).f0)) || (!(((rd_T33 l0 x5_1).f1) == ((rd_T33 l1 x5_1).f1)))) = true := c7
        clear c7
        obtain rfl := Option.some.inj H
        have p101 : 0 ≤ (x5_1 : Int) := oa
        have q101 : x5_1 < (l0.length : Int) := oa
        obtain ⟨ad101, e101, hx101_0, hx101_1⟩ := at_T33 HR0.out x5_1 p101 q101
        cases e101
        replace p101 := eq_true p101
        replace q101 := eq_true q101
        have p102 : 0 ≤ (x5_1 : Int) := oa
        have q102 : x5_1 < (l1.length : Int) := oa
        obtain ⟨ad102, e102, hx102_0, hx102_1⟩ := at_T33 HR1.out x5_1 p102 q102
        cases e102
        replace p102 := eq_true p102
        replace q102 := eq_true q102
        go_wp2
        repeat (go_quiet (fail); try go_wp2)
        go_ret
        exact ⟨by first | rfl | (simp; done) | (simp [*]; done), by repeat (first | exact Drawn0.refl _ | apply Drawn0.step)⟩
       ·rw [if_neg c7] at H
        have c7b0 : (!(((rd_T33 l0 x5_1).f0) == ((rd_T33 l1 x5_1).f0)) || (!(((rd_T33 l0 x5_1).f1) == ((rd_T33 l1 x5_1).f1)))) = false := by simpa using c7
        clear c7
        have H' := Aside0.mk H
        clear H
        have p101 : 0 ≤ (x5_1 : Int) := oa
        have q101 : x5_1 < (l0.length : Int) := oa
        obtain ⟨ad101, e101, hx101_0, hx101_1⟩ := at_T33 HR0.out x5_1 p101 q101
        cases e101
        replace p101 := eq_true p101
        replace q101 := eq_true q101
        have p102 : 0 ≤ (x5_1 : Int) := oa
        have q102 : x5_1 < (l1.length : Int) := oa
        obtain ⟨ad102, e102, hx102_0, hx102_1⟩ := at_T33 HR1.out x5_1 p102 q102
        cases e102
        replace p102 := eq_true p102
        replace q102 := eq_true q102
        go_wp2
        repeat (go_quiet (fail); try go_wp2)
        go_roundg k1
        case measure => have := HK1.out; omega
        case rel => exact ⟨(wrap64 (x5_1 + 1)), (by first | rfl | (simp; done) | (simp [*]; done)), H', ⟨by have := HK1.out; omega⟩, by repeat (first | exact Drawn0.refl _ | apply Drawn0.step)⟩
      ·rw [if_neg c6] at H
       exact absurd H (by simp)
     ·rw [if_neg c5] at H
      exact absurd H (by simp)
    ·rw [if_neg c4] at H
     have c4b0 : decide (x5_1 < (l0.length : Int)) = false := decide_eq_false c4
     clear c4
     obtain rfl := Option.some.inj H
     go_wp2
     repeat (go_quiet (fail); try go_wp2)
     go_ret
     exact ⟨by first | rfl | (simp; done) | (simp [*]; done), by repeat (first | exact Drawn0.refl _ | apply Drawn0.step)⟩
 ·rw [if_neg c3] at H
  have c3b0 : ((l0.length : Int) == (l1.length : Int)) = false := beq_eq_false_iff_ne.mpr c3
  have c3b1 : ((l0.length : Int) != (l1.length : Int)) = true := bne_iff_ne.mpr c3
  have c3b2 : (l0.length == l1.length) = false := by first | simpa using c3 | (simp at c3 ⊢; omega)
  obtain rfl := Option.some.inj H
  go_enter Try.func10, Try.ntmps10
  go_wp2
  repeat (go_quiet (fail); try go_wp2)
  go_ret
  exact ⟨by first | rfl | (simp; done) | (simp [*]; done), by repeat (first | exact Drawn0.refl _ | apply Drawn0.step)⟩
def impl_within.f (a0 : Int) (a1 : Int) : Option (Bool) := if (wrap64 (-a1)) ≤ a0 then (some (decide (a0 ≤ a1))) else (some false)
set_option maxHeartbeats 8000000 in
set_option maxRecDepth 100000 in
theorem impl_within.calls (a0 : Int) (a1 : Int) (r : Bool) (w : World) (h : impl_within.f a0 a1 = some r) :
  Calls Try.prog 73 #[.int .i64 a0, .int .i64 a1] w fun e w' => e = .returned (.bool r) ∧ Drawn0 w w' := by
 have H : (if (wrap64 (-a1)) ≤ a0 then (some (decide (a0 ≤ a1))) else (some false)) = some r := h
 clear h
 by_cases c3 : (wrap64 (-a1)) ≤ a0
 ·rw [if_pos c3] at H
  have c3b0 : decide ((wrap64 (-a1)) ≤ a0) = true := decide_eq_true c3
  clear c3
  obtain rfl := Option.some.inj H
  go_enter Try.func73, Try.ntmps73
  go_wp2
  go_ret
  exact ⟨by first | rfl | (simp; done) | (simp [*]; done), by repeat (first | exact Drawn0.refl _ | apply Drawn0.step)⟩
 ·rw [if_neg c3] at H
  have c3b0 : decide ((wrap64 (-a1)) ≤ a0) = false := decide_eq_false c3
  clear c3
  obtain rfl := Option.some.inj H
  go_enter Try.func73, Try.ntmps73
  go_wp2
  go_ret
  exact ⟨by first | rfl | (simp; done) | (simp [*]; done), by repeat (first | exact Drawn0.refl _ | apply Drawn0.step)⟩
def impl_PointValid.f (a0_0 : Int) (a0_1 : Int) : Option (Bool) := some (inR a0_0 a0_1 10000)
theorem impl_PointValid.calls (a0_0 : Int) (a0_1 : Int) (r : Bool) (w : World) (h : impl_PointValid.f a0_0 a0_1 = some r) :
  Calls Try.prog 68 #[.agg #[.int .i64 a0_0, .int .i64 a0_1]] w fun e w' => e = .returned (.bool r) ∧ Below w.heap.size w w' := by
 have h := Option.some.inj h
 have h0 := PointValid_calls a0_0 a0_1 w
 rw [h] at h0
 exact h0
mutual
def impl_cornersValid.j0 : Nat → List (S33) → Bool → Option (Bool)
 | 0, _, _ => none
 | k + 1, x0, x12 => if x12 = true then (some false) else (impl_cornersValid.l0 k x0 (x0.length : Int) 0)
def impl_cornersValid.l0 : Nat → List (S33) → Int → Int → Option (Bool)
 | 0, _, _, _ => none
 | k + 1, x13, x14, x15 => if x15 < x14 then (if 0 ≤ x15 then (if x15 < (x13.length : Int) then ((impl_PointValid.f ((rd_T33 x13 x15).f0) ((rd_T33 x13 x15).f1)).bind fun t105 => (if t105 = true then (impl_cornersValid.l0 k x13 x14 (wrap64 (x15 + 1))) else (some false))) else (none)) else (none)) else (some true)
end
def impl_cornersValid.f (k : Nat) (l0 : List (S33)) : Option (Bool) := if (l0.length : Int) < 3 then (impl_cornersValid.j0 k l0 true) else (impl_cornersValid.j0 k l0 (decide ((l0.length : Int) > 12)))
theorem impl_cornersValid.mono_l : ∀ k, (∀ y0 y1, LeO (impl_cornersValid.j0 k y0 y1) (impl_cornersValid.j0 (k + 1) y0 y1)) ∧ (∀ y0 y1 y2, LeO (impl_cornersValid.l0 k y0 y1 y2) (impl_cornersValid.l0 (k + 1) y0 y1 y2))
 | 0 => ⟨fun _ _ r h => by simp [impl_cornersValid.j0] at h, fun _ _ _ r h => by simp [impl_cornersValid.l0] at h⟩
 | k + 1 => by
  obtain ⟨ih0, ih1⟩ := impl_cornersValid.mono_l k
  refine ⟨?_, ?_⟩
  ·intro y0 y1
   unfold impl_cornersValid.j0
   repeat' first
   | (with_reducible exact ih0 _ _)
   | (with_reducible exact ih1 _ _ _)
   | (with_reducible exact LeO.refl _)
   | (with_reducible exact LeO.none _)
   | (with_reducible refine LeO.ite ?_ ?_)
   | (with_reducible refine LeO.bind ?_ (fun _ => ?_))
   | exact ih0 _ _
   | exact ih1 _ _ _
   | exact LeO.none _
   | refine LeO.ite ?_ ?_
   | refine LeO.bind ?_ (fun _ => ?_)
  ·intro y0 y1 y2
   unfold impl_cornersValid.l0
   repeat' first
   | (with_reducible exact ih0 _ _)
   | (with_reducible exact ih1 _ _ _)
   | (with_reducible exact LeO.refl _)
   | (with_reducible exact LeO.none _)
   | (with_reducible refine LeO.ite ?_ ?_)
   | (with_reducible refine LeO.bind ?_ (fun _ => ?_))
   | exact ih0 _ _
   | exact ih1 _ _ _
   | exact LeO.none _
   | refine LeO.ite ?_ ?_
   | refine LeO.bind ?_ (fun _ => ?_)
theorem impl_cornersValid.mono : ∀ a0 k, LeO (impl_cornersValid.f k a0) (impl_cornersValid.f (k + 1) a0) := by
 intro a0 k
 obtain ⟨ih0, ih1⟩ := impl_cornersValid.mono_l k
 unfold impl_cornersValid.f
 repeat' first
   | (with_reducible exact ih0 _ _)
   | (with_reducible exact ih1 _ _ _)
   | (with_reducible exact LeO.refl _)
   | (with_reducible exact LeO.none _)
   | (with_reducible refine LeO.ite ?_ ?_)
   | (with_reducible refine LeO.bind ?_ (fun _ => ?_))
   | exact ih0 _ _
   | exact ih1 _ _ _
   | exact LeO.none _
   | refine LeO.ite ?_ ?_
   | refine LeO.bind ?_ (fun _ => ?_)
set_option maxHeartbeats 8000000 in
set_option maxRecDepth 100000 in
theorem impl_cornersValid.calls (k : Nat) (A0 : Option Addr) (c0 : Nat) (l0 : List (S33)) (r : Bool) (w : World) (hr0 : Kd.C k33 w A0 l0.length l0) (hc0 : l0.length ≤ c0) (h : impl_cornersValid.f k l0 = some r) :
  Calls Try.prog 63 #[.slice A0 l0.length c0] w fun e w' => e = .returned (.bool r) ∧ Below w.heap.size w w' := by
 have hu33 := Try.underlying33
 have HR0 := Aside0.mk hr0
 have HC0 := Aside0.mk hc0
 clear hr0 hc0
 have HB := Aside0.mk (Below.refl w.heap.size w)
 have H : (if (l0.length : Int) < 3 then (impl_cornersValid.j0 k l0 true) else (impl_cornersValid.j0 k l0 (decide ((l0.length : Int) > 12)))) = some r := h
 clear h
 have HC2 := Aside0.mk H
 clear H
 go_enter Try.func63, Try.ntmps63
 go_upto_region 1 with (fail)
 go_cut [12] (fun v12 wc => ∃ (kq : Nat) (x12_1 : Bool), v12 = .bool x12_1 ∧ Aside0 (impl_cornersValid.j0 kq l0 x12_1 = some r) ∧ Aside0 (kq ≤ k) ∧ Aside0 (Below w.heap.size w wc))
 case first =>
  have H := HC2.out
  clear HC2
  by_cases c3 : (l0.length : Int) < 3
  ·rw [if_pos c3] at H
   have c3b0 : decide ((l0.length : Int) < 3) = true := decide_eq_true c3
   have c3b1 : decide (l0.length < 3) = true := decide_eq_true (by omega)
   clear c3
   (first | rw [c3b0] | (simp only [i64_w, i32_w]; rw [c3b0]) | skip)
   have H' := Aside0.mk H
   clear H
   go_wp2
   go_meet
   case rel => exact ⟨_, (true), (by first | rfl | (simp; done) | (simp [*]; done)), H', ⟨by first | omega | exact Nat.le_refl _⟩, ⟨lb HB.out⟩⟩
  ·rw [if_neg c3] at H
   have c3b0 : decide ((l0.length : Int) < 3) = false := decide_eq_false c3
   have c3b1 : decide (l0.length < 3) = false := decide_eq_false (by omega)
   clear c3
   (first | rw [c3b0] | (simp only [i64_w, i32_w]; rw [c3b0]) | skip)
   have H' := Aside0.mk H
   clear H
   go_wp2
   go_meet
   case rel => exact ⟨_, (decide ((l0.length : Int) > 12)), (by first | rfl | (simp; done) | (simp [*]; done)), H', ⟨by first | omega | exact Nat.le_refl _⟩, ⟨lb HB.out⟩⟩
 case rest =>
  clear HC2
  try clear p2
  try clear c3
  try clear c3b0
  try clear c3b1
  obtain ⟨kq, x12_1, rfl, HA, HJ1, HB⟩ := hcut
  cases kq with
  | zero => exact absurd HA.out (by simp [impl_cornersValid.j0])
  | succ kj1 =>
   have H := HA.out
   clear HA
   simp only [impl_cornersValid.j0] at H
   by_cases c4 : x12_1 = true
   ·subst c4
    have H1 : (some false) = some r := by rw [if_pos rfl] at H; exact H
    clear H
    have H := H1
    clear H1
    obtain rfl := Option.some.inj H
    go_wp2
    go_ret
    exact ⟨er, lb HB.out⟩
   ·replace c4 := Bool.eq_false_iff.mpr c4
    subst c4
    have H1 : (impl_cornersValid.l0 kj1 l0 (l0.length : Int) 0) = some r := by rw [if_neg (show ¬ (false = true) by decide)] at H; exact H
    clear H
    have H := H1
    clear H1
    have H' := Aside0.mk H
    clear H
    go_wp2
    go_loopg [15] kj1 (fun kq v15 w' => ∃ (x15_2 : Int), v15 = .int .i64 x15_2 ∧ Aside0 (impl_cornersValid.l0 kq l0 (l0.length : Int) x15_2 = some r) ∧ Aside0 (kq ≤ kj1) ∧ Aside0 (Below w.heap.size w w'))
    case atStart => exact ⟨(0), (by first | rfl | (simp; done) | (simp [*]; done)), H', ⟨Nat.le_refl _⟩, ⟨lb HB.out⟩⟩
    case round =>
     clear H'
     try clear p2
     try clear c3
     try clear c3b0
     try clear c3b1
     try clear c4
     try clear p2
     obtain ⟨x15_2, rfl, HA, HK2, HB⟩ := hrel
     cases gk with
     | zero => exact absurd HA.out (by simp [impl_cornersValid.l0])
     | succ k2 =>
      have H := HA.out
      clear HA
      simp only [impl_cornersValid.l0] at H
      by_cases c5 : x15_2 < (l0.length : Int)
      ·rw [if_pos c5] at H
       have c5b0 : decide (x15_2 < (l0.length : Int)) = true := decide_eq_true c5
       clear c5
       by_cases c6 : 0 ≤ x15_2
       ·rw [if_pos c6] at H
        have c6b0 : decide (0 ≤ x15_2) = true := decide_eq_true c6
        clear c6
        by_cases c7 : x15_2 < (l0.length : Int)
        ·rw [if_pos c7] at H
         have c7b0 : decide (x15_2 < (l0.length : Int)) = true := decide_eq_true c7
         clear c7
         replace H := Option.bind_eq_some_iff.mp H
         obtain ⟨t105, A80, H⟩ := H
         replace H : (if t105 = true then (impl_cornersValid.l0 k2 l0 (l0.length : Int) (wrap64 (x15_2 + 1))) else (some false)) = some r := H
         have A8 := Aside0.mk A80
         clear A80
         by_cases c9 : t105 = true
         ·subst c9
          have H1 : (impl_cornersValid.l0 k2 l0 (l0.length : Int) (wrap64 (x15_2 + 1))) = some r := by rw [if_pos rfl] at H; exact H
          clear H
          have H := H1
          clear H1
          have H' := Aside0.mk H
          clear H
          have p103 : 0 ≤ (x15_2 : Int) := oa
          have q103 : x15_2 < (l0.length : Int) := oa
          obtain ⟨ad103, e103, hx103_0, hx103_1⟩ := at_T33 HR0.out x15_2 p103 q103
          cases e103
          replace hx103_0 := (HB.out.cell (World.block_lt_of_cell? w _ hx103_0)).trans hx103_0
          replace hx103_1 := (HB.out.cell (World.block_lt_of_cell? w _ hx103_1)).trans hx103_1
          replace p103 := eq_true p103
          replace q103 := eq_true q103
          go_wp2_with (first | ((with_reducible refine gate_dst (N := 4) rfl ?_); (try (refine gate_guard (by rfl) ?_; dsimp only)); refine bx_ 4 (cs := #[.int .i64 0, .int .i64 0]) (t := 33) ?_; intro gb104 hg w10 hbox hb; have n0_ := Aside0.mk (below_step (lb HB.out) hb); have n1_ := Aside0.mk (hbox); have n2_ := Aside0.mk ((by rw [hg]; exact (below_size (lb HB.out)) : w.heap.size ≤ gb104)); have n3_ := Aside0.mk ((by rw [hg]; exact (below_size (lb HB.out)) : w.heap.size ≤ gb104)); clear HB; have HB := n0_; have BK104 := n1_; have GW104 := n2_; have GE104 := n3_; clear n0_ n1_ n2_ n3_; clear hb hbox hg; have hcz11_0 : w10.cell? ⟨gb104, 0, none⟩ = some (.int .i64 0) := (blk_cell BK104.out 0).trans rfl; have hcz11_1 : w10.cell? ⟨gb104, 1, none⟩ = some (.int .i64 0) := (blk_cell BK104.out 1).trans rfl; have hfz11_0 := blk_frozen BK104.out 0; have hfz11_1 := blk_frozen BK104.out 1) | ((with_reducible refine gate_callee (f := 68) rfl ?_); refine goesL_ (some 20) rfl rfl Try.func68 (by kernel_rfl) rfl #[.agg #[.int .i64 ((rd_T33 l0 x15_2).f0), .int .i64 ((rd_T33 l0 x15_2).f1)]] rfl al ?_; (with_reducible refine (impl_PointValid.calls ((rd_T33 l0 x15_2).f0) ((rd_T33 l0 x15_2).f1) true _ A8.out).mono ?_); rintro e w12 ⟨rfl, hb⟩; refine ⟨_, rfl, ?_⟩; have n0_ := Aside0.mk (blk_below (bp BK104.out) hb); have n1_ := Aside0.mk (below_step (lb HB.out) hb); clear BK104; clear HB; have BK104 := n0_; have HB := n1_; clear n0_ n1_; (try clear hb); (try clear hb2); (try clear hk); (try clear hi)))
          go_roundg k2
          case measure => have := HJ1.out; have := HK2.out; omega
          case rel => exact ⟨(wrap64 (x15_2 + 1)), (by first | rfl | (simp; done) | (simp [*]; done)), H', ⟨by have := HJ1.out; have := HK2.out; omega⟩, ⟨lb HB.out⟩⟩
         ·replace c9 := Bool.eq_false_iff.mpr c9
          subst c9
          have H1 : (some false) = some r := by rw [if_neg (show ¬ (false = true) by decide)] at H; exact H
          clear H
          have H := H1
          clear H1
          obtain rfl := Option.some.inj H
          have p103 : 0 ≤ (x15_2 : Int) := oa
          have q103 : x15_2 < (l0.length : Int) := oa
          obtain ⟨ad103, e103, hx103_0, hx103_1⟩ := at_T33 HR0.out x15_2 p103 q103
          cases e103
          replace hx103_0 := (HB.out.cell (World.block_lt_of_cell? w _ hx103_0)).trans hx103_0
          replace hx103_1 := (HB.out.cell (World.block_lt_of_cell? w _ hx103_1)).trans hx103_1
          replace p103 := eq_true p103
          replace q103 := eq_true q103
          go_wp2_with (first | ((with_reducible refine gate_dst (N := 4) rfl ?_); (try (refine gate_guard (by rfl) ?_; dsimp only)); refine bx_ 4 (cs := #[.int .i64 0, .int .i64 0]) (t := 33) ?_; intro gb104 hg w13 hbox hb; have n0_ := Aside0.mk (below_step (lb HB.out) hb); have n1_ := Aside0.mk (hbox); have n2_ := Aside0.mk ((by rw [hg]; exact (below_size (lb HB.out)) : w.heap.size ≤ gb104)); have n3_ := Aside0.mk ((by rw [hg]; exact (below_size (lb HB.out)) : w.heap.size ≤ gb104)); clear HB; have HB := n0_; have BK104 := n1_; have GW104 := n2_; have GE104 := n3_; clear n0_ n1_ n2_ n3_; clear hb hbox hg; have hcz14_0 : w13.cell? ⟨gb104, 0, none⟩ = some (.int .i64 0) := (blk_cell BK104.out 0).trans rfl; have hcz14_1 : w13.cell? ⟨gb104, 1, none⟩ = some (.int .i64 0) := (blk_cell BK104.out 1).trans rfl; have hfz14_0 := blk_frozen BK104.out 0; have hfz14_1 := blk_frozen BK104.out 1) | ((with_reducible refine gate_callee (f := 68) rfl ?_); refine goesL_ (some 20) rfl rfl Try.func68 (by kernel_rfl) rfl #[.agg #[.int .i64 ((rd_T33 l0 x15_2).f0), .int .i64 ((rd_T33 l0 x15_2).f1)]] rfl al ?_; (with_reducible refine (impl_PointValid.calls ((rd_T33 l0 x15_2).f0) ((rd_T33 l0 x15_2).f1) false _ A8.out).mono ?_); rintro e w15 ⟨rfl, hb⟩; refine ⟨_, rfl, ?_⟩; have n0_ := Aside0.mk (blk_below (bp BK104.out) hb); have n1_ := Aside0.mk (below_step (lb HB.out) hb); clear BK104; clear HB; have BK104 := n0_; have HB := n1_; clear n0_ n1_; (try clear hb); (try clear hb2); (try clear hk); (try clear hi)))
          go_ret
          exact ⟨er, lb HB.out⟩
        ·rw [if_neg c7] at H
         exact absurd H (by simp)
       ·rw [if_neg c6] at H
        exact absurd H (by simp)
      ·rw [if_neg c5] at H
       have c5b0 : decide (x15_2 < (l0.length : Int)) = false := decide_eq_false c5
       clear c5
       obtain rfl := Option.some.inj H
       go_wp2
       go_ret
       exact ⟨er, lb HB.out⟩
def plX (l : List S33) (i : Nat) : Int := (rd_T33 l (i : Int)).f0
def plY (l : List S33) (i : Nat) : Int := (rd_T33 l (i : Int)).f1
structure Chain (W : World) (base j : Nat) (bs : Nat → Nat) (X Y : Nat → Int) : Prop where
 link : ∀ i, i < j → W.heap[bs i]? = some (.cells #[.int .i64 (X i), .int .i64 (Y i), .pointer (some ⟨bs (i + 1), 0, none⟩)] 75 (0, 0))
 last : W.heap[bs j]? = some (.cells #[.int .i64 (X j), .int .i64 (Y j), .pointer none] 75 (0, 0))
 up : ∀ i, i < j → bs i < bs (i + 1)
 base_ : base ≤ bs 0
theorem Chain.le {W : World} {base j : Nat} {bs : Nat → Nat} {X Y : Nat → Int} (h : Chain W base j bs X Y) : ∀ i, i ≤ j → bs 0 ≤ bs i ∧ bs i ≤ bs j ∧ bs 0 + i ≤ bs i := by
 have up : ∀ d i, i + d ≤ j → bs i + d ≤ bs (i + d) := by
  intro d
  induction d with
  | zero => intro i _; exact Nat.le_refl _
  | succ d ih => intro i hi; have := ih i (by omega); have := h.up (i + d) (by omega); show bs i + (d + 1) ≤ bs (i + d + 1); omega
 intro i hi
 have h1 := up i 0 (by omega)
 have h2 := up (j - i) i (by omega)
 rw [Nat.zero_add] at h1
 rw [show i + (j - i) = j by omega] at h2
 omega
theorem Chain.below {A B : World} {base j : Nat} {bs : Nat → Nat} {X Y : Nat → Int} (h : Chain A base j bs X Y) (hb : Below A.heap.size A B) : Chain B base j bs X Y :=
 ⟨fun i hi => (hb.block _ (blk_lt (h.link i hi))).trans (h.link i hi), (hb.block _ (blk_lt h.last)).trans h.last, h.up, h.base_⟩
theorem Chain.step {A : World} {base j nb : Nat} {bs : Nat → Nat} {X Y : Nat → Int} (h : Chain A base j bs X Y) (hn : A.heap[nb]? = some (.cells #[.int .i64 (X (j + 1)), .int .i64 (Y (j + 1)), .pointer none] 75 (0, 0))) (hlt : bs j < nb) :
  Chain (A.setCell ⟨bs j, 2, none⟩ (.pointer (some ⟨nb, 0, none⟩))) base (j + 1) (fun i => if i = j + 1 then nb else bs i) X Y := by
 have hle := h.le
 refine ⟨fun i hi => ?_, ?_, fun i hi => ?_, ?_⟩
 ·by_cases e : i = j
  ·subst e
   simp only [if_neg (show ¬ i = i + 1 by omega), if_true]
   exact blk_put h.last 2 _ rfl
  ·have h1 := hle i (by omega)
   have h2 := hle (i + 1) (by omega)
   have h3 := h.up i (by omega)
   simp only [if_neg (show ¬ i = j + 1 by omega), if_neg (show ¬ i + 1 = j + 1 by omega)]
   exact blk_far (p := ⟨bs j, 2, none⟩) (h.link i (by omega)) (by show bs i ≠ bs j; omega) _
 ·simp only [if_true]
  exact blk_far (p := ⟨bs j, 2, none⟩) hn (by show nb ≠ bs j; omega) _
 ·by_cases e : i = j
  ·subst e
   simp only [if_neg (show ¬ i = i + 1 by omega), if_true]; exact hlt
  ·simp only [if_neg (show ¬ i = j + 1 by omega), if_neg (show ¬ i + 1 = j + 1 by omega)]
   exact h.up i (by omega)
 ·simp only [if_neg (show ¬ 0 = j + 1 by omega)]; exact h.base_
theorem Chain.ring {A : World} {base n : Nat} {bs : Nat → Nat} {X Y : Nat → Int} (h : Chain A base n bs X Y) : Ring (A.setCell ⟨bs n, 2, none⟩ (.pointer (some ⟨bs 0, 0, none⟩))) A.heap.size (n + 1) bs X Y := by
 have hle := h.le
 refine ⟨by omega, fun i hi => ?_, fun i hi => ?_, fun i j hi hj e => ?_⟩
 ·have := hle i (by omega); have := blk_lt h.last; omega
 ·by_cases e : i = n
  ·subst e
   rw [Nat.mod_self]
   exact blk_put h.last 2 _ rfl
  ·rw [Nat.mod_eq_of_lt (by omega)]
   have h3 := h.up i (by omega)
   have h4 := hle (i + 1) (by omega)
   exact blk_far (p := ⟨bs n, 2, none⟩) (h.link i (by omega)) (by show bs i ≠ bs n; omega) _
 ·have up : ∀ d i, i + d ≤ n → bs i + d ≤ bs (i + d) := by
   intro d
   induction d with
   | zero => intro i _; exact Nat.le_refl _
   | succ d ih => intro i hi; have := ih i (by omega); have := h.up (i + d) (by omega); show bs i + (d + 1) ≤ bs (i + d + 1); omega
  by_cases hij : i ≤ j
  ·have := up (j - i) i (by omega)
   rw [show i + (j - i) = j by omega] at this; omega
  ·have := up (i - j) j (by omega)
   rw [show j + (i - j) = i by omega] at this; omega
set_option maxHeartbeats 4000000 in
theorem outlineOf_no (k : Nat) (A : Option Addr) (c : Nat) (l : List S33) (w : World) (hr0 : Kd.C k33 w A l.length l) (hc0 : l.length ≤ c) (hv : impl_cornersValid.f k l = some false) :
  Calls Try.prog 37 #[.slice A l.length c] w fun e w' => e = .returned (.tuple #[.agg #[.pointer none, .int .i64 0], .bool false]) ∧ Below w.heap.size w w' := by
 have HR := Aside0.mk hr0
 have HC := Aside0.mk hc0
 have HV := Aside0.mk hv
 have HM := Aside0.mk (Hd.nil w)
 clear hr0 hc0 hv
 go_enter Try.func37, Try.ntmps37
 go_wp2_with (first | ((with_reducible refine gate_dst (N := 2) rfl ?_); refine bx_ 2 (cs := #[.pointer none, .int .i64 0]) (t := 58) ?_; intro g2 e_ w1 b_ hb; replace HM := Aside0.mk (HM.out.box hb b_ e_); clear e_ b_ hb) | (go_at_call 63; have hbel := HM.out.1; (with_reducible refine (impl_cornersValid.calls k _ _ l false _ (Kd.C_below HR.out hbel) HC.out HV.out).mono ?_); rintro e w3 ⟨rfl, hb⟩; clear hbel; replace HM := Aside0.mk (HM.out.keep hb); clear hb; have c0 : w3.cell? ⟨g2, 0, none⟩ = some (.pointer none) := blk_cell HM.out.a0 0; have c1 : w3.cell? ⟨g2, 1, none⟩ = some (.int .i64 0) := blk_cell HM.out.a0 1; have f0 := blk_frozen HM.out.a0 0; have f1 := blk_frozen HM.out.a0 1))
 have HZ := HM.out.put2 (.pointer none) (.int .i64 0)
 exact bodyPost_ret (results_ct rfl _ _ g2 58 #[.pointer none, .int .i64 0] (0, 0) _ rfl HZ.a0 Try.underlying58 rfl (by kernel_rfl)) rfl ⟨rfl, HZ.1⟩
set_option maxHeartbeats 8000000 in
set_option maxRecDepth 100000 in
theorem outlineOf_yes (k : Nat) (A : Option Addr) (c : Nat) (l : List S33) (w : World) (hr0 : Kd.C k33 w A l.length l) (hc0 : l.length ≤ c) (hv : impl_cornersValid.f k l = some true) (hl3 : 3 ≤ l.length) (hl12 : l.length ≤ 12) :
  Calls Try.prog 37 #[.slice A l.length c] w fun e w' => ∃ bs, e = .returned (.tuple #[.agg #[.pointer (some ⟨bs 0, 0, none⟩), .int .i64 (l.length : Int)], .bool true]) ∧ Ring w' w'.heap.size l.length bs (plX l) (plY l) ∧ Below w.heap.size w w' := by
 have HR := Aside0.mk hr0
 have HC := Aside0.mk hc0
 have HV := Aside0.mk hv
 have HM := Aside0.mk (Hd.nil w)
 obtain ⟨ad, eA, x0, y0⟩ := at_T33 hr0 0 (by omega) (by omega)
 subst eA
 have HX : Aside0 (w.cell? ad = some (.int .i64 (plX l 0))) := ⟨by simpa [plX, Addr.add] using x0⟩
 have HY : Aside0 (w.cell? ⟨ad.block, ad.off + 1, none⟩ = some (.int .i64 (plY l 0))) := ⟨by simpa [plY, Addr.add] using y0⟩
 clear hr0 hv x0 y0
 go_enter Try.func37, Try.ntmps37
 go_wp2_with (first | ((with_reducible refine gate_dst (N := 2) rfl ?_); refine bx_ 2 (cs := #[.pointer none, .int .i64 0]) (t := 58) ?_; intro g2 e_ w1 b_ hb; replace HM := Aside0.mk (HM.out.box hb b_ e_); clear e_ b_ hb) | (go_at_call 63; have hbel := HM.out.1; (with_reducible refine (impl_cornersValid.calls k _ _ l true _ (Kd.C_below HR.out hbel) HC.out HV.out).mono ?_); rintro e w3 ⟨rfl, hb⟩; clear hbel; replace HM := Aside0.mk (HM.out.keep hb); clear hb; have x0 := (HM.out.1.cell (World.block_lt_of_cell? w _ HX.out)).trans HX.out; have y0 := (HM.out.1.cell (World.block_lt_of_cell? w _ HY.out)).trans HY.out) | ((with_reducible refine gate_dst (N := 16) rfl ?_); refine bx_ 16 (cs := #[.int .i64 (plX l 0), .int .i64 (plY l 0), .pointer none]) (t := 75) ?_; intro b0 e_ w4 b_ hb; replace HM := Aside0.mk (HM.out.box hb b_ e_); clear e_ b_ hb x0 y0))
 have hg0 := HM.out.below (e := (g2, #[.pointer none, .int .i64 0], 58)) (by simp)
 have hgw := (HM.out.2.1 (g2, #[.pointer none, .int .i64 0], 58) (by simp)).1
 have HC0 : Chain w4 (g2 + 1) 0 (fun _ => b0) (plX l) (plY l) := ⟨fun i hi => by omega, HM.out.a0, fun i hi => by omega, by simp only [] at hg0; omega⟩
 have HG0 := HM.out.a1
 have HB0 := HM.out.1
 simp only [] at hgw
 clear HM hg0
 have hcl := HC.out
 go_loopg [5, 21] (l.length - 1) (fun kq v5 v21 wr => ∃ (j : Nat) (bs : Nat → Nat), v5 = .pointer (some ⟨bs j, 0, none⟩) ∧ v21 = .int .i64 (j : Int) ∧ Aside0 (bs 0 = b0) ∧ Aside0 (j + kq = l.length - 1) ∧ Aside0 (Chain wr (g2 + 1) j bs (plX l) (plY l)) ∧ Aside0 (wr.heap[g2]? = some (.cells #[.pointer none, .int .i64 0] 58 (0, 0))) ∧ Aside0 (Below w.heap.size w wr))
 case atStart => exact ⟨0, fun _ => b0, rfl, rfl, ⟨rfl⟩, ⟨by omega⟩, ⟨HC0⟩, ⟨HG0⟩, ⟨HB0⟩⟩
 case round =>
  clear HC0 HG0 HB0
  obtain ⟨j, bs, rfl, rfl, HB00, HJ, HCH, HG, HB⟩ := hrel
  have hj := HJ.out
  by_cases hlt : j < l.length - 1
  ·cases gk with
   | zero => exfalso; omega
   | succ gk =>
    obtain ⟨ad', e', x1, y1⟩ := at_T33 HR.out ((j + 1 : Nat) : Int) (by omega) (by omega)
    cases e'
    rw [Int.toNat_natCast, show (j + 1) * 2 = (j * 2 + 1) + 1 by omega] at x1 y1
    have x2 : w.cell? ⟨ad.block, ad.off + 2 + j * 2, none⟩ = some (.int .i64 (plX l (j + 1))) := by
     rw [show ad.off + 2 + j * 2 = ad.off + (j * 2 + 1 + 1) by omega]; exact x1
    have y2 : w.cell? ⟨ad.block, ad.off + 2 + j * 2 + 1, none⟩ = some (.int .i64 (plY l (j + 1))) := by
     rw [show ad.off + 2 + j * 2 = ad.off + (j * 2 + 1 + 1) by omega]; exact y1
    replace x2 := (HB.out.cell (World.block_lt_of_cell? w _ x2)).trans x2
    replace y2 := (HB.out.cell (World.block_lt_of_cell? w _ y2)).trans y2
    clear x1 y1
    have hd1 : decide ((j : Int) < ((l.length - 1 : Nat) : Int)) = true := decide_eq_true (by omega)
    have hd2 : ((j : Int) < ((l.length - 1 : Nat) : Int)) = True := eq_true (by omega)
    have hd3 : ((0 : Int) ≤ (j : Int)) = True := eq_true (by omega)
    have hwr : IntKind.i64.wrap ((j : Int) + 1) = ((j + 1 : Nat) : Int) := by rw [IntKind.wrap_i64]; push_cast; omega
    have HM := Aside0.mk (Hd.nil wr)
    go_wp2_with (first | ((with_reducible refine gate_dst (N := 7) rfl ?_); refine bx_ 7 (cs := #[.int .i64 0, .int .i64 0]) (t := 33) ?_; intro gp e_ w5 b_ hb; replace HM := Aside0.mk (HM.out.box hb b_ e_); clear e_ b_; replace x2 := (hb.cell (World.block_lt_of_cell? wr _ x2)).trans x2; replace y2 := (hb.cell (World.block_lt_of_cell? wr _ y2)).trans y2; clear hb; have p0 : w5.cell? ⟨gp, 0, none⟩ = some (.int .i64 0) := blk_cell HM.out.a0 0; have p1 : w5.cell? ⟨gp, 1, none⟩ = some (.int .i64 0) := blk_cell HM.out.a0 1; have f0 := blk_frozen HM.out.a0 0; have f1 := blk_frozen HM.out.a0 1) | ((with_reducible refine gate_dst (N := 28) rfl ?_); refine bx_ 28 (cs := #[.int .i64 (plX l (j + 1)), .int .i64 (plY l (j + 1)), .pointer none]) (t := 75) ?_; intro nb e_ w6 b_ hb; have HM2 := Aside0.mk ((HM.out.put2 (.int .i64 (plX l (j + 1))) (.int .i64 (plY l (j + 1)))).box hb b_ e_); clear e_ b_ hb; have HC6 := Aside0.mk (HCH.out.below HM2.out.1); have k2 : w6.cell? ⟨bs j, 2, none⟩ = some (.pointer none) := blk_cell HC6.out.last 2; have kf := blk_frozen HC6.out.last 2; have k3 : (w6.setCell ⟨bs j, 2, none⟩ (.pointer (some ⟨nb, 0, none⟩))).cell? ⟨bs j, 2, none⟩ = some (.pointer (some ⟨nb, 0, none⟩)) := blk_cell (blk_put HC6.out.last 2 _ rfl) 2))
    have hle := HCH.out.le j (Nat.le_refl _)
    have hbase := HCH.out.base_
    have hlt6 := blk_lt HCH.out.last
    have hnb := (HM2.out.2.1 (nb, #[.int .i64 (plX l (j + 1)), .int .i64 (plY l (j + 1)), .pointer none], 75) (by simp)).1
    simp only [] at hnb
    go_roundg gk
    case measure => omega
    case rel =>
     refine ⟨j + 1, fun i => if i = j + 1 then nb else bs i, by simp, by first | rfl | rw [hwr], ⟨by simp only [if_neg (show ¬ 0 = j + 1 by omega)]; exact HB00.out⟩, ⟨by omega⟩, ⟨HC6.out.step HM2.out.a0 (by omega)⟩, ⟨?_⟩, ⟨?_⟩⟩
     ·exact blk_far (p := ⟨bs j, 2, none⟩) ((HM2.out.1.block g2 (blk_lt HG.out)).trans HG.out) (by show g2 ≠ bs j; omega) _
     ·exact (HB.out.trans (HM2.out.1.mono HB.out.size)).setCell (p := ⟨bs j, 2, none⟩) (by show w.heap.size ≤ bs j; omega) _
  ·have hjn : j + 1 = l.length := by omega
   have hd1 : decide ((j : Int) < ((l.length - 1 : Nat) : Int)) = false := decide_eq_false (by omega)
   have hle := HCH.out.le j (Nat.le_refl _)
   have hle0 := HCH.out.le
   have hbase := HCH.out.base_
   have HRG := Aside0.mk HCH.out.ring
   rw [HB00.out, hjn] at HRG
   have k2 : wr.cell? ⟨bs j, 2, none⟩ = some (.pointer none) := blk_cell HCH.out.last 2
   have kf := blk_frozen HCH.out.last 2
   have hgx := blk_far (p := ⟨bs j, 2, none⟩) HG.out (by show g2 ≠ bs j; omega) (.pointer (some ⟨b0, 0, none⟩))
   have c0 : (wr.setCell ⟨bs j, 2, none⟩ (.pointer (some ⟨b0, 0, none⟩))).cell? ⟨g2, 0, none⟩ = some (.pointer none) := blk_cell hgx 0
   have c1 : (wr.setCell ⟨bs j, 2, none⟩ (.pointer (some ⟨b0, 0, none⟩))).cell? ⟨g2, 1, none⟩ = some (.int .i64 0) := blk_cell hgx 1
   have f0 := blk_frozen hgx 0
   have f1 := blk_frozen hgx 1
   have HGX := Aside0.mk hgx
   clear hgx
   go_wp2_with fail
   have hg3 := blk_put (blk_put HGX.out 0 (.pointer (some ⟨b0, 0, none⟩)) rfl) 1 (.int .i64 (l.length : Int)) rfl
   refine bodyPost_ret (results_ct rfl _ _ g2 58 #[.pointer (some ⟨b0, 0, none⟩), .int .i64 (l.length : Int)] (0, 0) _ rfl hg3 Try.underlying58 rfl (by kernel_rfl)) rfl ⟨bs, ?_, ?_, ?_⟩
   ·rw [HB00.out]; rfl
   ·have h1 := (HRG.out.far (g := g2) (fun i hi => by have := hle0 i (by omega); omega) 0 (.pointer (some ⟨b0, 0, none⟩))).far (g := g2) (fun i hi => by have := hle0 i (by omega); omega) 1 (.int .i64 (l.length : Int))
    simpa [World.setCell] using h1
   ·exact ((HB.out.setCell (p := ⟨bs j, 2, none⟩) (by show w.heap.size ≤ bs j; omega) _).setCell (p := ⟨g2, 0, none⟩) hgw _).setCell (p := ⟨g2, 1, none⟩) hgw _
def vdB (l : List S33) : Bool := decide (3 ≤ l.length) && (decide (l.length ≤ 12) && (List.range l.length).all fun i => inR (plX l i) (plY l i) 10000)
theorem vdB_iff {l : List S33} : vdB l = true ↔ 3 ≤ l.length ∧ l.length ≤ 12 ∧ ∀ i, i < l.length → inR (plX l i) (plY l i) 10000 = true := by
 unfold vdB
 rw [Bool.and_eq_true, Bool.and_eq_true, decide_eq_true_iff, decide_eq_true_iff, List.all_eq_true]
 simp only [List.mem_range]
theorem vd_loop (l : List S33) (h12 : l.length ≤ 12) : ∀ m i : Nat, i + m = l.length → impl_cornersValid.l0 (m + 1) l (l.length : Int) (i : Int) = some ((List.range' i m).all fun i => inR (plX l i) (plY l i) 10000) := by
 intro m
 induction m with
 | zero => intro i hi; simp only [impl_cornersValid.l0]; rw [if_neg (by omega)]; rfl
 | succ m ih =>
  intro i hi
  rw [impl_cornersValid.l0, if_pos (by omega), if_pos (by omega), if_pos (by omega), List.range'_succ, List.all_cons]
  unfold impl_PointValid.f
  rw [Option.bind_some]
  have e : wrap64 ((i : Int) + 1) = ((i + 1 : Nat) : Int) := by unfold wrap64; omega
  rw [e]
  cases hv : inR (plX l i) (plY l i) 10000 with
  | false =>
   have hv' : inR (rd_T33 l (i : Int)).f0 (rd_T33 l (i : Int)).f1 10000 = false := hv
   rw [hv', if_neg (by simp), Bool.false_and]
  | true =>
   have hv' : inR (rd_T33 l (i : Int)).f0 (rd_T33 l (i : Int)).f1 10000 = true := hv
   rw [hv', if_pos rfl, Bool.true_and]
   exact ih (i + 1) (by omega)
theorem vd_f (l : List S33) : ∃ k, impl_cornersValid.f k l = some (vdB l) := by
 unfold impl_cornersValid.f vdB
 by_cases h3 : l.length < 3
 ·exact ⟨1, by rw [if_pos (by omega), impl_cornersValid.j0, if_pos rfl, decide_eq_false (by omega)]; rfl⟩
 ·by_cases h12 : l.length > 12
  ·exact ⟨1, by rw [if_neg (by omega), impl_cornersValid.j0, decide_eq_true (by omega), if_pos rfl, decide_eq_true (by omega), decide_eq_false (by omega)]; rfl⟩
  ·exact ⟨l.length + 1 + 1, by
    rw [if_neg (by omega), impl_cornersValid.j0, decide_eq_false (by omega), if_neg (by simp), decide_eq_true (by omega), decide_eq_true (by omega), Bool.true_and, Bool.true_and, List.range_eq_range']
    exact vd_loop l (by omega) l.length 0 (by omega)⟩
def arN (X Y : Nat → Int) (n : Nat) : Nat → Int
 | 0 => 0
 | i + 1 => wrap64 (arN X Y n i + crI (X i) (Y i) (X ((i + 1) % n)) (Y ((i + 1) % n)))
def plArea.T : Bool × List (List Nat × List Nat) := (true,[([],[]),([],[]),([1],[1]),([2],[2]),([3],[3]),([4],[4]),([],[]),([6],[6]),([7],[7]),([8],[8]),([9],[9]),([10],[10]),([11],[11]),([12,5],[12]),([5,13,13],[5,13]),([0,14],[0,14]),([15,14,0,1,2,3,4,5,6,7,8,9,10,11,12,13,14,15],[15])])
def plArea.B : List Nat := [0,0,2,6,14,30,0,64,192,448,960,1984,4032,8190,16382,32767,65535]
theorem plArea.tab : rtab .any (opsOf Try.f38 4) = plArea.T := by kernel_rfl
theorem plArea.bits : waitsOk plArea.T.2 plArea.B = true := by kernel_rfl
theorem plArea.both : rtab .any (opsOf Try.f38 4) = plArea.T ∧ waitsOk plArea.T.2 plArea.B = true := ⟨plArea.tab, plArea.bits⟩
set_option maxHeartbeats 4000000 in
set_option maxRecDepth 100000 in
theorem area_calls (n : Nat) (bs : Nat → Nat) (X Y : Nat → Int) (w : World) (hn : n ≤ 1000) (hR : Ring w w.heap.size n bs X Y) :
  Calls Try.prog 38 #[.agg #[.pointer (some ⟨bs 0, 0, none⟩), .int .i64 (n : Int)]] w fun e w' => e = .returned (.int .i64 (arN X Y n n)) ∧ Below w.heap.size w w' := by
 have HR := Aside0.mk hR
 have HM := Aside0.mk (Hd.nil w)
 have hpos := hR.pos
 clear hR
 refine pl_enter Try.func38 rfl ?_
 simp only [Try.ntmps38, List.size_toArray, List.length_cons, List.length_nil, Nat.reduceAdd, Nat.reduceSub, Array.replicate_succ, Array.replicate_zero, List.push_toArray, List.append_toArray, List.nil_append, List.cons_append]
 go_upto_region 2 with ((with_reducible refine gate_dst (N := 1) rfl ?_); refine bx_ 1 (cs := #[.pointer (some ⟨bs 0, 0, none⟩), .int .i64 (n : Int)]) (t := 58) ?_; intro g1 e_ w1 b_ hb; replace HM := Aside0.mk (HM.out.box hb b_ e_); clear e_ b_ hb)
 replace HM := Aside0.mk (HM.out.alloc #[.int .i64 0] 3)
 generalize w1.alloc (.cells #[.int .i64 0] 3) = w2 at *
 generalize w1.heap.size = gs at *
 have c0 : w2.cell? ⟨g1, 0, none⟩ = some (.pointer (some ⟨bs 0, 0, none⟩)) := blk_cell HM.out.a1 0
 have c1 : w2.cell? ⟨g1, 1, none⟩ = some (.int .i64 (n : Int)) := blk_cell HM.out.a1 1
 go_wp2_with fail
 clear c0 c1
 have hgs : w.heap.size ≤ gs := (HM.out.2.1 (gs, #[.int .i64 0], 3) (by simp)).1
 have hgs2 : gs < w2.heap.size := blk_lt HM.out.a0
 have hw2 := HM.out.1.size
 have hR2 := HR.out.below HM.out.1
 refine pl_range (gf := 46) rfl (fun args w => enters_ Try.func46 (by kernel_rfl) rfl args w) w.heap.size n hw2 _ (corners_walks w.heap.size n bs X Y w2 hn hw2 hR2) (fun i W => W.heap[gs]? = some (.cells #[.int .i64 (arN X Y n i)] 3 (0, 0)) ∧ Below w.heap.size w W) (fun _ _ => False) (OwnFrom.and (own_block (fun _ => rfl)) (ownFrom_below (Nat.le_refl _) hw2)) (fun _ _ _ _ h _ _ => h) ⟨HM.out.a0, HM.out.1⟩ (fun i => { tmps := #[.agg #[.pointer (some ⟨bs 0, 0, none⟩), .int .i64 (n : Int)], .pointer (some ⟨g1, 0, none⟩), .int .i64 0, .pointer (some ⟨gs, 0, none⟩), .pointer (some ⟨bs i, 0, none⟩), .agg #[.pointer (some ⟨bs 0, 0, none⟩), .int .i64 (n : Int)], .func (.func 46) #[.agg #[.pointer (some ⟨bs 0, 0, none⟩), .int .i64 (n : Int)]] #[], .pointer (some ⟨bs i, 0, none⟩), undef, undef, undef, undef, undef, undef, undef, undef, undef, undef, undef, undef, undef, undef, undef, undef, undef], defers := [] }) ?_ ?_ ?_ ?_
 ·intro l i W K hK
  exact pl_assign hK
 ·rintro l i W hi ⟨hS, hB⟩
  have hi1 : (i + 1) % n < n := Nat.mod_lt _ hpos
  have HRW := Aside0.mk (HR.out.below hB)
  have HK : Aside0 (Rd w W W w2.heap.size gs (.cells #[.int .i64 (arN X Y n i)] 3 (0, 0))) := ⟨⟨hS, hB, Below.refl _ _, KeepsFrom.refl _ _⟩⟩
  have HA : Aside0 (arN X Y n (i + 1) = wrap64 (arN X Y n i + crI (X i) (Y i) (X ((i + 1) % n)) (Y ((i + 1) % n)))) := ⟨rfl⟩
  have HPO := Aside0.mk (plPost_no w2.heap.size w.heap.size (fun i W => W.heap[gs]? = some (.cells #[.int .i64 (arN X Y n i)] 3 (0, 0)) ∧ Below w.heap.size w W) (fun _ _ => False) i W)
  generalize arN X Y n i = sm at HK HA
  have hWs := hB.size
  clear hS hB HM hR2
  refine wpIn_block ?_
  replace HK := Aside0.mk HK.out.drew
  replace HRW := Aside0.mk (HRW.out.below ((below_drew1 (Below.refl _ W)).mono hWs))
  refine pl_start (S := fun w' => w'.cell? ⟨bs i, 0, none⟩ = some (.int .i64 (X i)) ∧ w'.cell? ⟨bs i, 1, none⟩ = some (.int .i64 (Y i)) ∧ w'.cell? ⟨bs i, 2, none⟩ = some (.pointer (some ⟨bs ((i + 1) % n), 0, none⟩)) ∧ w'.cell? ⟨bs ((i + 1) % n), 0, none⟩ = some (.int .i64 (X ((i + 1) % n))) ∧ w'.cell? ⟨bs ((i + 1) % n), 1, none⟩ = some (.int .i64 (Y ((i + 1) % n))) ∧ w'.cell? ⟨gs, 0, none⟩ = some (.int .i64 sm)) (ds := [16]) #[false,false,false,false,false,false,false,false,false,false,false,false,false,false,false,false,false] (by kernel_rfl) (noDefer_all (by kernel_rfl)) (pl_no_block _ HPO.out) rfl rfl ⟨(blk_cell (HRW.out.cell i hi) 0).trans rfl, (blk_cell (HRW.out.cell i hi) 1).trans rfl, (blk_cell (HRW.out.cell i hi) 2).trans rfl, (blk_cell (HRW.out.cell _ hi1) 0).trans rfl, (blk_cell (HRW.out.cell _ hi1) 1).trans rfl, (blk_cell HK.out.1 0).trans rfl⟩ (fun hHeld => ?_)
  refine with_tabW plArea.both.1 plArea.both.2 (fun HT_ HW_ => ?_)
  generalize hwd : W.drew = wd at HK HRW hHeld ⊢
  clear hwd
  refine pq_ 1 (some 9) ?_
  refine pq_ 2 (some 10) ?_
  refine pq_ 3 (some 11) ?_
  refine tq_ 4 (some 12) ?_
  refine tq_ 0 (some 8) ?_
  refine pq_ 6 (some 14) ?_
  refine pq_ 7 (some 15) ?_
  refine pq_ 8 (some 16) ?_
  refine tq_ 9 (some 17) ?_
  refine pq_ 10 (some 18) ?_
  refine pq_ 11 (some 19) ?_
  refine tq_ 12 (some 20) ?_
  refine one_ (i := 5) (N := some 13) #[true,true,true,true,true,true,true,true,true,true,true,true,true,false,false,false,false] rfl rfl (one_of HT_.out (by kernel_rfl)) (by decide) (fun K hK => ?_)
  refine goes_ Try.func40 (by kernel_rfl) rfl #[.agg #[.int .i64 (X i), .int .i64 (Y i)]] (by rfl) rfl rfl al ?_
  with_reducible refine (pairOf_calls (X i) (Y i) _).mono ?_
  rintro e w_ ⟨rfl, hb⟩
  refine ⟨_, rfl, ?_⟩
  replace HRW := Aside0.mk (HRW.out.below (hb.mono HK.out.2.1.size))
  replace HK := Aside0.mk (HK.out.keep hb)
  clear hb
  refine hK.out _ _ ⟨(blk_cell (HRW.out.cell i hi) 0).trans rfl, (blk_cell (HRW.out.cell i hi) 1).trans rfl, (blk_cell (HRW.out.cell i hi) 2).trans rfl, (blk_cell (HRW.out.cell _ hi1) 0).trans rfl, (blk_cell (HRW.out.cell _ hi1) 1).trans rfl, (blk_cell HK.out.1 0).trans rfl⟩ (fun hHeld => ?_)
  clear hK K
  refine norm_ (a' := ?_) ?_ ?_
  rotate_left
  ·show Act.put _ (some 13) _ = _
   simp only [Act.put, List.setIfInBounds_toArray, List.set_cons_zero, List.set_cons_succ, i64_w, i32_w]
   rfl
  refine one_ (i := 13) (N := some 21) #[true,true,true,true,true,true,true,true,true,true,true,true,true,true,false,false,false] rfl rfl (one_of HT_.out (by kernel_rfl)) (by decide) (fun K hK => ?_)
  refine goes_ Try.func40 (by kernel_rfl) rfl #[.agg #[.int .i64 (X ((i + 1) % n)), .int .i64 (Y ((i + 1) % n))]] (by rfl) rfl rfl al ?_
  with_reducible refine (pairOf_calls (X ((i + 1) % n)) (Y ((i + 1) % n)) _).mono ?_
  rintro e w_ ⟨rfl, hb⟩
  refine ⟨_, rfl, ?_⟩
  replace HRW := Aside0.mk (HRW.out.below (hb.mono HK.out.2.1.size))
  replace HK := Aside0.mk (HK.out.keep hb)
  clear hb
  refine hK.out _ _ ⟨(blk_cell (HRW.out.cell i hi) 0).trans rfl, (blk_cell (HRW.out.cell i hi) 1).trans rfl, (blk_cell (HRW.out.cell i hi) 2).trans rfl, (blk_cell (HRW.out.cell _ hi1) 0).trans rfl, (blk_cell (HRW.out.cell _ hi1) 1).trans rfl, (blk_cell HK.out.1 0).trans rfl⟩ (fun hHeld => ?_)
  clear hK K
  refine norm_ (a' := ?_) ?_ ?_
  rotate_left
  ·show Act.put _ (some 21) _ = _
   simp only [Act.put, List.setIfInBounds_toArray, List.set_cons_zero, List.set_cons_succ, i64_w, i32_w]
   rfl
  refine one_ (i := 14) (N := some 22) #[true,true,true,true,true,true,true,true,true,true,true,true,true,true,true,false,false] rfl rfl (one_of HT_.out (by kernel_rfl)) (by decide) (fun K hK => ?_)
  refine goes_ Try.func67 (by kernel_rfl) rfl #[.agg #[.int .i64 (X i), .int .i64 (Y i)], .agg #[.int .i64 (X ((i + 1) % n)), .int .i64 (Y ((i + 1) % n))]] (by rfl) rfl rfl al ?_
  with_reducible refine (pairCross_calls (X i) (Y i) (X ((i + 1) % n)) (Y ((i + 1) % n)) _).mono ?_
  rintro e w_ ⟨rfl, hb⟩
  refine ⟨_, rfl, ?_⟩
  replace HRW := Aside0.mk (HRW.out.below (hb.mono HK.out.2.1.size))
  replace HK := Aside0.mk (HK.out.keep hb)
  clear hb
  refine hK.out _ _ ⟨(blk_cell (HRW.out.cell i hi) 0).trans rfl, (blk_cell (HRW.out.cell i hi) 1).trans rfl, (blk_cell (HRW.out.cell i hi) 2).trans rfl, (blk_cell (HRW.out.cell _ hi1) 0).trans rfl, (blk_cell (HRW.out.cell _ hi1) 1).trans rfl, (blk_cell HK.out.1 0).trans rfl⟩ (fun hHeld => ?_)
  clear hK K
  refine norm_ (a' := ?_) ?_ ?_
  rotate_left
  ·show Act.put _ (some 22) _ = _
   simp only [Act.put, List.setIfInBounds_toArray, List.set_cons_zero, List.set_cons_succ, i64_w, i32_w]
   rfl
  refine pq_ 15 (some 23) ?_
  refine last_ (i := 16) (N := none) #[true,true,true,true,true,true,true,true,true,true,true,true,true,true,true,true,true] rfl rfl (one_of HT_.out (by kernel_rfl)) (by decide) (fun K hK => ?_)
  refine skip_ (w1 := ?_) (by rfl) rfl ?_ ?_
  rotate_left
  ·have hc3 := blk_cell HK.out.1 0
   have hf3 := blk_frozen HK.out.1 0
   go_simp
   rfl
  refine hK.out _ _ ?_
  clear hK K
  refine done_ (done_of HT_.out (by kernel_rfl)) ?_
  have HK2 := HK.out.put hgs 0 (.int .i64 (arN X Y n (i + 1))) rfl
  have he := HA.out
  simp only [crI] at he
  rw [he] at HK2
  refine ⟨HK2.2.2.2, HK2.2.2.1, ?_, HK2.2.1⟩
  simp only [he]
  exact HK2.1
 ·rintro D W hD ⟨hS, hB⟩ hdef
  have s0 : W.cell? ⟨gs, 0, none⟩ = some (.int .i64 (arN X Y n n)) := (blk_cell hS 0).trans rfl
  go_wp2_with fail
  refine pl_leave hdef ?_
  refine ⟨_, ?_, rfl, hB.trans (belowK_b (w := w) (Nat.le_refl _) W D _ _ (Nat.le_trans hw2 hD) hdef rfl rfl)⟩
  simp [results, (rfl : Try.f38.results = #[.tmp 2])]
 ·intro D i W _ _ h; exact h.elim
def impl_PolyArea.v (l0 : List (S33)) : Int × Bool := if vdB l0 = true then (arN (plX l0) (plY l0) l0.length l0.length, true) else (0, false)
def impl_PolyArea.f (l0 : List (S33)) : Option (Int × Bool) := some (impl_PolyArea.v l0)
set_option maxHeartbeats 4000000 in
theorem impl_PolyArea.calls (A0 : Option Addr) (c0 : Nat) (l0 : List (S33)) (r1 : Int) (r2 : Bool) (w : World) (hr0 : Kd.C k33 w A0 l0.length l0) (hc0 : l0.length ≤ c0) (h : impl_PolyArea.f l0 = some (r1, r2)) :
  Calls Try.prog 11 #[.slice A0 l0.length c0] w fun e w' => e = .returned (.tuple #[.int .i64 r1, .bool r2]) ∧ Below w.heap.size w w' := by
 have HR := Aside0.mk hr0
 have HC := Aside0.mk hc0
 have HM := Aside0.mk (Hd.nil w)
 have h := Option.some.inj h
 clear hr0
 obtain ⟨k, hk⟩ := vd_f l0
 cases hv : vdB l0 with
 | false =>
  have HV := Aside0.mk (hk.trans (congrArg some hv))
  unfold impl_PolyArea.v at h
  rw [hv, if_neg (by simp)] at h
  obtain ⟨rfl, rfl⟩ := Prod.mk.inj h
  clear h hv hk
  go_enter Try.func11, Try.ntmps11
  go_upto_region 2 with (go_at_call 37; have hbel := HM.out.1; (with_reducible refine (outlineOf_no k A0 c0 l0 _ (Kd.C_below HR.out hbel) HC.out HV.out).mono ?_); rintro e w3 ⟨rfl, hb⟩; clear hbel; replace HM := Aside0.mk (HM.out.keep hb); clear hb)
  replace HM := Aside0.mk (HM.out.alloc #[.pointer none, .int .i64 0] 58)
  generalize w3.alloc (.cells #[.pointer none, .int .i64 0] 58) = w5 at *
  generalize w3.heap.size = g4 at *
  have c0 : w5.cell? ⟨g4, 0, none⟩ = some (.pointer none) := blk_cell HM.out.a0 0
  have c1 : w5.cell? ⟨g4, 1, none⟩ = some (.int .i64 0) := blk_cell HM.out.a0 1
  go_wp2_with fail
  go_ret2
  exact ⟨rfl, HM.out.1⟩
 | true =>
  have HV := Aside0.mk (hk.trans (congrArg some hv))
  unfold impl_PolyArea.v at h
  rw [hv, if_pos rfl] at h
  obtain ⟨rfl, rfl⟩ := Prod.mk.inj h
  have hvi := vdB_iff.1 hv
  clear h hv hk
  go_enter Try.func11, Try.ntmps11
  go_upto_region 2 with (go_at_call 37; have hbel := HM.out.1; (with_reducible refine (outlineOf_yes k A0 c0 l0 _ (Kd.C_below HR.out hbel) HC.out HV.out hvi.1 hvi.2.1).mono ?_); rintro e w3 ⟨bs, rfl, hrg, hb⟩; clear hbel; replace HM := Aside0.mk (HM.out.keep hb); have HRG := Aside0.mk hrg; clear hb hrg)
  replace HM := Aside0.mk (HM.out.alloc #[.pointer (some ⟨bs 0, 0, none⟩), .int .i64 (l0.length : Int)] 58)
  replace HRG := Aside0.mk (HRG.out.nextAlloc (.cells #[.pointer (some ⟨bs 0, 0, none⟩), .int .i64 (l0.length : Int)] 58))
  generalize w3.alloc (.cells #[.pointer (some ⟨bs 0, 0, none⟩), .int .i64 (l0.length : Int)] 58) = w5 at *
  generalize w3.heap.size = g4 at *
  have c0 : w5.cell? ⟨g4, 0, none⟩ = some (.pointer (some ⟨bs 0, 0, none⟩)) := blk_cell HM.out.a0 0
  have c1 : w5.cell? ⟨g4, 1, none⟩ = some (.int .i64 (l0.length : Int)) := blk_cell HM.out.a0 1
  go_wp2_with (go_at_call 38; (with_reducible refine (area_calls l0.length bs (plX l0) (plY l0) _ (by omega) HRG.out).mono ?_); rintro e w6 ⟨rfl, hb⟩; replace HRG := Aside0.mk (HRG.out.next hb); replace HM := Aside0.mk (HM.out.keep hb); clear hb c0 c1; have c0 : w6.cell? ⟨g4, 0, none⟩ = some (.pointer (some ⟨bs 0, 0, none⟩)) := blk_cell HM.out.a0 0; have c1 : w6.cell? ⟨g4, 1, none⟩ = some (.int .i64 (l0.length : Int)) := blk_cell HM.out.a0 1)
  go_ret2
  exact ⟨rfl, HM.out.1⟩
def impl_signInt.f (a0 : Int) : Option (Int) := if a0 < 0 then (some (-1)) else (if a0 > 0 then (some 1) else (some 0))
set_option maxHeartbeats 8000000 in
set_option maxRecDepth 100000 in
theorem impl_signInt.calls (a0 : Int) (r : Int) (w : World) (h : impl_signInt.f a0 = some r) :
  Calls Try.prog 64 #[.int .i64 a0] w fun e w' => e = .returned (.int .i64 r) ∧ Drawn0 w w' := by
 have H : (if a0 < 0 then (some (-1)) else (if a0 > 0 then (some 1) else (some 0))) = some r := h
 clear h
 by_cases c2 : a0 < 0
 ·rw [if_pos c2] at H
  have c2b0 : decide (a0 < 0) = true := decide_eq_true c2
  clear c2
  obtain rfl := Option.some.inj H
  go_enter Try.func64, Try.ntmps64
  go_wp2
  go_ret
  exact ⟨by first | rfl | (simp; done) | (simp [*]; done), by repeat (first | exact Drawn0.refl _ | apply Drawn0.step)⟩
 ·rw [if_neg c2] at H
  have c2b0 : decide (a0 < 0) = false := decide_eq_false c2
  clear c2
  by_cases c3 : a0 > 0
  ·rw [if_pos c3] at H
   have c3b0 : decide (0 < a0) = true := decide_eq_true c3
   clear c3
   obtain rfl := Option.some.inj H
   go_enter Try.func64, Try.ntmps64
   go_wp2
   go_ret
   exact ⟨by first | rfl | (simp; done) | (simp [*]; done), by repeat (first | exact Drawn0.refl _ | apply Drawn0.step)⟩
  ·rw [if_neg c3] at H
   have c3b0 : decide (0 < a0) = false := decide_eq_false c3
   clear c3
   obtain rfl := Option.some.inj H
   go_enter Try.func64, Try.ntmps64
   go_wp2
   go_ret
   exact ⟨by first | rfl | (simp; done) | (simp [*]; done), by repeat (first | exact Drawn0.refl _ | apply Drawn0.step)⟩
def sgI (x : Int) : Int := if x < 0 then -1 else if x > 0 then 1 else 0
theorem sgI_f (x : Int) : impl_signInt.f x = some (sgI x) := by unfold impl_signInt.f sgI; split <;> (try split) <;> rfl
def sdI (ax ay bx by_ cx cy : Int) : Int := sgI (crI (wrap64 (bx - ax)) (wrap64 (by_ - ay)) (wrap64 (cx - ax)) (wrap64 (cy - ay)))
def sdP (ax ay bx by_ cx cy : Int) : Int × Bool := if inR ax ay 10000 = true ∧ inR bx by_ 10000 = true ∧ inR cx cy 10000 = true then (sdI ax ay bx by_ cx cy, true) else (0, false)
set_option maxHeartbeats 4000000 in
theorem side_yes (ax ay bx by_ cx cy : Int) (h1 : inR ax ay 10000 = true) (h2 : inR bx by_ 10000 = true) (h3 : inR cx cy 10000 = true) (w : World) :
  Calls Try.prog 54 #[.agg #[.int .i64 ax, .int .i64 ay], .agg #[.int .i64 bx, .int .i64 by_], .agg #[.int .i64 cx, .int .i64 cy]] w fun e w' => e = .returned (.tuple #[.int .i64 (sdI ax ay bx by_ cx cy), .bool true]) ∧ Below w.heap.size w w' := by
 have H1 := Aside0.mk h1
 have H2 := Aside0.mk h2
 have H3 := Aside0.mk h3
 have HM := Aside0.mk (Hd.nil w)
 clear h1 h2 h3
 unfold sdI
 go_enter Try.func54, Try.ntmps54
 go_upto_region 3 with (first
  | ((with_reducible refine gate_dst (N := 3) rfl ?_); refine bx_ 3 (cs := #[.int .i64 ax, .int .i64 ay]) (t := 33) ?_; intro g3 e_ w_ b_ hb; replace HM := Aside0.mk (HM.out.box hb b_ e_); clear e_ b_ hb)
  | ((with_reducible refine gate_dst (N := 4) rfl ?_); refine bx_ 4 (cs := #[.int .i64 bx, .int .i64 by_]) (t := 33) ?_; intro g4 e_ w_ b_ hb; replace HM := Aside0.mk (HM.out.box hb b_ e_); clear e_ b_ hb)
  | ((with_reducible refine gate_dst (N := 5) rfl ?_); refine bx_ 5 (cs := #[.int .i64 cx, .int .i64 cy]) (t := 33) ?_; intro g5 e_ w_ b_ hb; replace HM := Aside0.mk (HM.out.box hb b_ e_); clear e_ b_ hb; have ka0 := blk_cell HM.out.a2 0; have ka1 := blk_cell HM.out.a2 1; have kb0 := blk_cell HM.out.a1 0; have kb1 := blk_cell HM.out.a1 1; have kc0 := blk_cell HM.out.a0 0; have kc1 := blk_cell HM.out.a0 1)
  | (go_at_call 68; (with_reducible refine (PointValid_calls ax ay _).mono ?_); rintro e w_ ⟨rfl, hb⟩; rw [H1.out]; replace HM := Aside0.mk (HM.out.keep hb); clear hb; (try clear ka0 ka1 kb0 kb1 kc0 kc1); have ka0 := blk_cell HM.out.a2 0; have ka1 := blk_cell HM.out.a2 1; have kb0 := blk_cell HM.out.a1 0; have kb1 := blk_cell HM.out.a1 1; have kc0 := blk_cell HM.out.a0 0; have kc1 := blk_cell HM.out.a0 1)
  | (go_at_call 68; (with_reducible refine (PointValid_calls bx by_ _).mono ?_); rintro e w_ ⟨rfl, hb⟩; rw [H2.out]; replace HM := Aside0.mk (HM.out.keep hb); clear hb; (try clear ka0 ka1 kb0 kb1 kc0 kc1); have ka0 := blk_cell HM.out.a2 0; have ka1 := blk_cell HM.out.a2 1; have kb0 := blk_cell HM.out.a1 0; have kb1 := blk_cell HM.out.a1 1; have kc0 := blk_cell HM.out.a0 0; have kc1 := blk_cell HM.out.a0 1)
  | (go_at_call 68; (with_reducible refine (PointValid_calls cx cy _).mono ?_); rintro e w_ ⟨rfl, hb⟩; rw [H3.out]; replace HM := Aside0.mk (HM.out.keep hb); clear hb; (try clear ka0 ka1 kb0 kb1 kc0 kc1); have ka0 := blk_cell HM.out.a2 0; have ka1 := blk_cell HM.out.a2 1; have kb0 := blk_cell HM.out.a1 0; have kb1 := blk_cell HM.out.a1 1; have kc0 := blk_cell HM.out.a0 0; have kc1 := blk_cell HM.out.a0 1))
 go_upto_region 4 with (go_at_call 40; (with_reducible refine (pairOf_calls ax ay _).mono ?_); rintro e w_ ⟨rfl, hb⟩; replace HM := Aside0.mk (HM.out.keep hb); clear hb; (try clear ka0 ka1 kb0 kb1 kc0 kc1); have ka0 := blk_cell HM.out.a2 0; have ka1 := blk_cell HM.out.a2 1; have kb0 := blk_cell HM.out.a1 0; have kb1 := blk_cell HM.out.a1 1; have kc0 := blk_cell HM.out.a0 0; have kc1 := blk_cell HM.out.a0 1)
 replace HM := Aside0.mk (HM.out.alloc #[.int .i64 ax, .int .i64 ay] 65)
 clear ka0 ka1 kb0 kb1 kc0 kc1
 generalize w_.alloc (.cells #[.int .i64 ax, .int .i64 ay] 65) = w8 at *
 generalize w_.heap.size = g8 at *
 generalize hp : wrap64 (bx - ax) = p at *
 generalize hq : wrap64 (by_ - ay) = q at *
 generalize hr : wrap64 (cx - ax) = r at *
 generalize hs : wrap64 (cy - ay) = s at *
 have HP := Aside0.mk hp
 have HQ := Aside0.mk hq
 have HR := Aside0.mk hr
 have HS := Aside0.mk hs
 clear hp hq hr hs
 have ka0 := blk_cell HM.out.a3 0
 have ka1 := blk_cell HM.out.a3 1
 have kb0 := blk_cell HM.out.a2 0
 have kb1 := blk_cell HM.out.a2 1
 have kc0 := blk_cell HM.out.a1 0
 have kc1 := blk_cell HM.out.a1 1
 have ks0 := blk_cell HM.out.a0 0
 have ks1 := blk_cell HM.out.a0 1
 go_cut [9] (fun v9 wc => ∃ B : Nat, v9 = .pointer (some ⟨B, 0, none⟩) ∧ Aside0 (Hd w wc [(B, #[.int .i64 p, .int .i64 q], 65), (g8, #[.int .i64 ax, .int .i64 ay], 65), (g5, #[.int .i64 cx, .int .i64 cy], 33), (g4, #[.int .i64 bx, .int .i64 by_], 33), (g3, #[.int .i64 ax, .int .i64 ay], 33)]))
 case first =>
  go_region_held3 (fun w' => w'.cell? ⟨g4, 0, none⟩ = some (.int .i64 bx) ∧ w'.cell? ⟨g4, 1, none⟩ = some (.int .i64 by_) ∧ w'.cell? ⟨g8, 0, none⟩ = some (.int .i64 ax) ∧ w'.cell? ⟨g8, 1, none⟩ = some (.int .i64 ay))
   (first
    | exact ⟨kb0, kb1, ks0, ks1⟩
    | exact ⟨blk_cell HM.out.drew.a2 0, blk_cell HM.out.drew.a2 1, blk_cell HM.out.drew.a0 0, blk_cell HM.out.drew.a0 1⟩
    | exact ⟨blk_cell (HM.out.alloc _ _).a3 0, blk_cell (HM.out.alloc _ _).a3 1, blk_cell (HM.out.alloc _ _).a1 0, blk_cell (HM.out.alloc _ _).a1 1⟩
    | exact ⟨blk_cell (HM.out.drew.alloc _ _).a3 0, blk_cell (HM.out.drew.alloc _ _).a3 1, blk_cell (HM.out.drew.alloc _ _).a1 0, blk_cell (HM.out.drew.alloc _ _).a1 1⟩
    | exact ⟨blk_cell (HM.out.put2 _ _).a3 0, blk_cell (HM.out.put2 _ _).a3 1, blk_cell (HM.out.put2 _ _).a1 0, blk_cell (HM.out.put2 _ _).a1 1⟩
    | exact ⟨blk_cell ((HM.out.alloc _ _).put2 _ _).a3 0, blk_cell ((HM.out.alloc _ _).put2 _ _).a3 1, blk_cell ((HM.out.alloc _ _).put2 _ _).a1 0, blk_cell ((HM.out.alloc _ _).put2 _ _).a1 1⟩
    | go_keep)
   (first
    | (go_at_call 40; (with_reducible refine (pairOf_calls bx by_ _).mono ?_); rintro e w_ ⟨rfl, hb⟩; (first | replace HM := Aside0.mk (HM.out.keep hb) | replace HM := Aside0.mk (HM.out.drew.keep hb) | replace HM := Aside0.mk ((HM.out.alloc #[.int .i64 0, .int .i64 0] 65).keep hb) | replace HM := Aside0.mk ((HM.out.allocDrew #[.int .i64 0, .int .i64 0] 65).keep hb)); clear hb; (try clear ka0); (try clear ka1); (try clear kc0); (try clear kc1); (try clear kn0); (try clear kn1); (try clear knf0); (try clear knf1); (try clear kb0); (try clear kb1); (try clear ks0); (try clear ks1); have kb0 : w_.cell? ⟨g4, 0, none⟩ = some (.int .i64 bx) := (by first | exact blk_cell HM.out.a2 0 | exact blk_cell HM.out.a3 0); have kb1 : w_.cell? ⟨g4, 1, none⟩ = some (.int .i64 by_) := (by first | exact blk_cell HM.out.a2 1 | exact blk_cell HM.out.a3 1); have ks0 : w_.cell? ⟨g8, 0, none⟩ = some (.int .i64 ax) := (by first | exact blk_cell HM.out.a0 0 | exact blk_cell HM.out.a1 0); have ks1 : w_.cell? ⟨g8, 1, none⟩ = some (.int .i64 ay) := (by first | exact blk_cell HM.out.a0 1 | exact blk_cell HM.out.a1 1); have kn0 := blk_cell HM.out.a0 0; have kn1 := blk_cell HM.out.a0 1; have knf0 := blk_frozen HM.out.a0 0; have knf1 := blk_frozen HM.out.a0 1)
    | (go_at_call 69; (with_reducible refine (pairMinus_calls bx by_ ax ay _).mono ?_); rw [HP.out, HQ.out]; rintro e w_ ⟨rfl, hb⟩; (first | replace HM := Aside0.mk (HM.out.keep hb) | replace HM := Aside0.mk (HM.out.drew.keep hb) | replace HM := Aside0.mk ((HM.out.alloc #[.int .i64 0, .int .i64 0] 65).keep hb) | replace HM := Aside0.mk ((HM.out.allocDrew #[.int .i64 0, .int .i64 0] 65).keep hb)); clear hb; (try clear ka0); (try clear ka1); (try clear kc0); (try clear kc1); (try clear kn0); (try clear kn1); (try clear knf0); (try clear knf1); (try clear kb0); (try clear kb1); (try clear ks0); (try clear ks1); have kb0 : w_.cell? ⟨g4, 0, none⟩ = some (.int .i64 bx) := (by first | exact blk_cell HM.out.a2 0 | exact blk_cell HM.out.a3 0); have kb1 : w_.cell? ⟨g4, 1, none⟩ = some (.int .i64 by_) := (by first | exact blk_cell HM.out.a2 1 | exact blk_cell HM.out.a3 1); have ks0 : w_.cell? ⟨g8, 0, none⟩ = some (.int .i64 ax) := (by first | exact blk_cell HM.out.a0 0 | exact blk_cell HM.out.a1 0); have ks1 : w_.cell? ⟨g8, 1, none⟩ = some (.int .i64 ay) := (by first | exact blk_cell HM.out.a0 1 | exact blk_cell HM.out.a1 1); have kn0 := blk_cell HM.out.a0 0; have kn1 := blk_cell HM.out.a0 1; have knf0 := blk_frozen HM.out.a0 0; have knf1 := blk_frozen HM.out.a0 1))
  all_goals
   go_wp2_with fail
   go_meet
   case rel => first | exact ⟨_, rfl, ⟨HM.out.put2 _ _⟩⟩ | exact ⟨_, rfl, ⟨HM.out.alloc _ _⟩⟩ | exact ⟨_, rfl, ⟨(HM.out.alloc _ _).put2 _ _⟩⟩
 case rest =>
  obtain ⟨B, rfl, HMc⟩ := hcut
  clear HM ka0 ka1 kb0 kb1 kc0 kc1 ks0 ks1
  have HM := HMc
  clear HMc
  have kl0 := blk_cell HM.out.a0 0
  have kl1 := blk_cell HM.out.a0 1
  have ks0 := blk_cell HM.out.a1 0
  have ks1 := blk_cell HM.out.a1 1
  have kc0 := blk_cell HM.out.a2 0
  have kc1 := blk_cell HM.out.a2 1
  go_wp2_with fail
  go_region_held3 (fun w' => w'.cell? ⟨B, 0, none⟩ = some (.int .i64 p) ∧ w'.cell? ⟨B, 1, none⟩ = some (.int .i64 q) ∧ w'.cell? ⟨g8, 0, none⟩ = some (.int .i64 ax) ∧ w'.cell? ⟨g8, 1, none⟩ = some (.int .i64 ay) ∧ w'.cell? ⟨g5, 0, none⟩ = some (.int .i64 cx) ∧ w'.cell? ⟨g5, 1, none⟩ = some (.int .i64 cy))
   (first
    | exact ⟨kl0, kl1, ks0, ks1, kc0, kc1⟩
    | exact ⟨blk_cell HM.out.drew.a0 0, blk_cell HM.out.drew.a0 1, blk_cell HM.out.drew.a1 0, blk_cell HM.out.drew.a1 1, blk_cell HM.out.drew.a2 0, blk_cell HM.out.drew.a2 1⟩
    | go_keep)
   (first
    | (go_at_call 40; (with_reducible refine (pairOf_calls cx cy _).mono ?_); rintro e w_ ⟨rfl, hb⟩; (first | replace HM := Aside0.mk (HM.out.keep hb) | replace HM := Aside0.mk (HM.out.drew.keep hb)); clear hb; (try clear kl0); (try clear kl1); (try clear ks0); (try clear ks1); (try clear kc0); (try clear kc1); have kl0 := blk_cell HM.out.a0 0; have kl1 := blk_cell HM.out.a0 1; have ks0 := blk_cell HM.out.a1 0; have ks1 := blk_cell HM.out.a1 1; have kc0 := blk_cell HM.out.a2 0; have kc1 := blk_cell HM.out.a2 1)
    | (go_at_call 69; (with_reducible refine (pairMinus_calls cx cy ax ay _).mono ?_); rw [HR.out, HS.out]; rintro e w_ ⟨rfl, hb⟩; (first | replace HM := Aside0.mk (HM.out.keep hb) | replace HM := Aside0.mk (HM.out.drew.keep hb)); clear hb; (try clear kl0); (try clear kl1); (try clear ks0); (try clear ks1); (try clear kc0); (try clear kc1); have kl0 := blk_cell HM.out.a0 0; have kl1 := blk_cell HM.out.a0 1; have ks0 := blk_cell HM.out.a1 0; have ks1 := blk_cell HM.out.a1 1; have kc0 := blk_cell HM.out.a2 0; have kc1 := blk_cell HM.out.a2 1)
    | (go_at_call 67; (with_reducible refine (pairCross_calls p q r s _).mono ?_); rintro e w_ ⟨rfl, hb⟩; (first | replace HM := Aside0.mk (HM.out.keep hb) | replace HM := Aside0.mk (HM.out.drew.keep hb)); clear hb; (try clear kl0); (try clear kl1); (try clear ks0); (try clear ks1); (try clear kc0); (try clear kc1); have kl0 := blk_cell HM.out.a0 0; have kl1 := blk_cell HM.out.a0 1; have ks0 := blk_cell HM.out.a1 0; have ks1 := blk_cell HM.out.a1 1; have kc0 := blk_cell HM.out.a2 0; have kc1 := blk_cell HM.out.a2 1)
    | (go_at_call 64; (with_reducible refine (impl_signInt.calls (wrap64 (wrap64 (p * s) - wrap64 (r * q))) _ _ (sgI_f _)).mono ?_); rintro e w_ ⟨rfl, hd⟩; have hb := hd.below; clear hd; (first | replace HM := Aside0.mk (HM.out.keep hb) | replace HM := Aside0.mk (HM.out.drew.keep hb)); clear hb; (try clear kl0); (try clear kl1); (try clear ks0); (try clear ks1); (try clear kc0); (try clear kc1); have kl0 := blk_cell HM.out.a0 0; have kl1 := blk_cell HM.out.a0 1; have ks0 := blk_cell HM.out.a1 0; have ks1 := blk_cell HM.out.a1 1; have kc0 := blk_cell HM.out.a2 0; have kc1 := blk_cell HM.out.a2 1))
  go_wp2_with fail
  go_ret2
  exact ⟨by rw [HP.out, HQ.out, HR.out, HS.out]; rfl, HM.out.1⟩
theorem side_no1 (ax ay bx by_ cx cy : Int) (h1 : inR ax ay 10000 = false) (w : World) :
  Calls Try.prog 54 #[.agg #[.int .i64 ax, .int .i64 ay], .agg #[.int .i64 bx, .int .i64 by_], .agg #[.int .i64 cx, .int .i64 cy]] w fun e w' => e = .returned (.tuple #[.int .i64 0, .bool false]) ∧ Below w.heap.size w w' := by
 have H1 := Aside0.mk h1
 have HM := Aside0.mk (Hd.nil w)
 clear h1
 go_enter Try.func54, Try.ntmps54
 go_wp2_with (first
  | ((with_reducible refine gate_dst (N := 3) rfl ?_); refine bx_ 3 (cs := #[.int .i64 ax, .int .i64 ay]) (t := 33) ?_; intro g3 e_ w_ b_ hb; replace HM := Aside0.mk (HM.out.box hb b_ e_); clear e_ b_ hb)
  | ((with_reducible refine gate_dst (N := 4) rfl ?_); refine bx_ 4 (cs := #[.int .i64 bx, .int .i64 by_]) (t := 33) ?_; intro g4 e_ w_ b_ hb; replace HM := Aside0.mk (HM.out.box hb b_ e_); clear e_ b_ hb)
  | ((with_reducible refine gate_dst (N := 5) rfl ?_); refine bx_ 5 (cs := #[.int .i64 cx, .int .i64 cy]) (t := 33) ?_; intro g5 e_ w_ b_ hb; replace HM := Aside0.mk (HM.out.box hb b_ e_); clear e_ b_ hb; have ka0 := blk_cell HM.out.a2 0; have ka1 := blk_cell HM.out.a2 1; have kb0 := blk_cell HM.out.a1 0; have kb1 := blk_cell HM.out.a1 1; have kc0 := blk_cell HM.out.a0 0; have kc1 := blk_cell HM.out.a0 1)
  | (go_at_call 68; (with_reducible refine (PointValid_calls ax ay _).mono ?_); rintro e w_ ⟨rfl, hb⟩; rw [H1.out]; replace HM := Aside0.mk (HM.out.keep hb); clear hb; (try clear ka0 ka1 kb0 kb1 kc0 kc1); have ka0 := blk_cell HM.out.a2 0; have ka1 := blk_cell HM.out.a2 1; have kb0 := blk_cell HM.out.a1 0; have kb1 := blk_cell HM.out.a1 1; have kc0 := blk_cell HM.out.a0 0; have kc1 := blk_cell HM.out.a0 1))
 go_ret2
 exact ⟨rfl, HM.out.1⟩
theorem side_no2 (ax ay bx by_ cx cy : Int) (h1 : inR ax ay 10000 = true) (h2 : inR bx by_ 10000 = false) (w : World) :
  Calls Try.prog 54 #[.agg #[.int .i64 ax, .int .i64 ay], .agg #[.int .i64 bx, .int .i64 by_], .agg #[.int .i64 cx, .int .i64 cy]] w fun e w' => e = .returned (.tuple #[.int .i64 0, .bool false]) ∧ Below w.heap.size w w' := by
 have H1 := Aside0.mk h1
 have H2 := Aside0.mk h2
 have HM := Aside0.mk (Hd.nil w)
 clear h1 h2
 go_enter Try.func54, Try.ntmps54
 go_wp2_with (first
  | ((with_reducible refine gate_dst (N := 3) rfl ?_); refine bx_ 3 (cs := #[.int .i64 ax, .int .i64 ay]) (t := 33) ?_; intro g3 e_ w_ b_ hb; replace HM := Aside0.mk (HM.out.box hb b_ e_); clear e_ b_ hb)
  | ((with_reducible refine gate_dst (N := 4) rfl ?_); refine bx_ 4 (cs := #[.int .i64 bx, .int .i64 by_]) (t := 33) ?_; intro g4 e_ w_ b_ hb; replace HM := Aside0.mk (HM.out.box hb b_ e_); clear e_ b_ hb)
  | ((with_reducible refine gate_dst (N := 5) rfl ?_); refine bx_ 5 (cs := #[.int .i64 cx, .int .i64 cy]) (t := 33) ?_; intro g5 e_ w_ b_ hb; replace HM := Aside0.mk (HM.out.box hb b_ e_); clear e_ b_ hb; have ka0 := blk_cell HM.out.a2 0; have ka1 := blk_cell HM.out.a2 1; have kb0 := blk_cell HM.out.a1 0; have kb1 := blk_cell HM.out.a1 1; have kc0 := blk_cell HM.out.a0 0; have kc1 := blk_cell HM.out.a0 1)
  | (go_at_call 68; (with_reducible refine (PointValid_calls ax ay _).mono ?_); rintro e w_ ⟨rfl, hb⟩; rw [H1.out]; replace HM := Aside0.mk (HM.out.keep hb); clear hb; (try clear ka0 ka1 kb0 kb1 kc0 kc1); have ka0 := blk_cell HM.out.a2 0; have ka1 := blk_cell HM.out.a2 1; have kb0 := blk_cell HM.out.a1 0; have kb1 := blk_cell HM.out.a1 1; have kc0 := blk_cell HM.out.a0 0; have kc1 := blk_cell HM.out.a0 1)
  | (go_at_call 68; (with_reducible refine (PointValid_calls bx by_ _).mono ?_); rintro e w_ ⟨rfl, hb⟩; rw [H2.out]; replace HM := Aside0.mk (HM.out.keep hb); clear hb; (try clear ka0 ka1 kb0 kb1 kc0 kc1); have ka0 := blk_cell HM.out.a2 0; have ka1 := blk_cell HM.out.a2 1; have kb0 := blk_cell HM.out.a1 0; have kb1 := blk_cell HM.out.a1 1; have kc0 := blk_cell HM.out.a0 0; have kc1 := blk_cell HM.out.a0 1))
 go_ret2
 exact ⟨rfl, HM.out.1⟩
theorem side_no3 (ax ay bx by_ cx cy : Int) (h1 : inR ax ay 10000 = true) (h2 : inR bx by_ 10000 = true) (h3 : inR cx cy 10000 = false) (w : World) :
  Calls Try.prog 54 #[.agg #[.int .i64 ax, .int .i64 ay], .agg #[.int .i64 bx, .int .i64 by_], .agg #[.int .i64 cx, .int .i64 cy]] w fun e w' => e = .returned (.tuple #[.int .i64 0, .bool false]) ∧ Below w.heap.size w w' := by
 have H1 := Aside0.mk h1
 have H2 := Aside0.mk h2
 have H3 := Aside0.mk h3
 have HM := Aside0.mk (Hd.nil w)
 clear h1 h2 h3
 go_enter Try.func54, Try.ntmps54
 go_wp2_with (first
  | ((with_reducible refine gate_dst (N := 3) rfl ?_); refine bx_ 3 (cs := #[.int .i64 ax, .int .i64 ay]) (t := 33) ?_; intro g3 e_ w_ b_ hb; replace HM := Aside0.mk (HM.out.box hb b_ e_); clear e_ b_ hb)
  | ((with_reducible refine gate_dst (N := 4) rfl ?_); refine bx_ 4 (cs := #[.int .i64 bx, .int .i64 by_]) (t := 33) ?_; intro g4 e_ w_ b_ hb; replace HM := Aside0.mk (HM.out.box hb b_ e_); clear e_ b_ hb)
  | ((with_reducible refine gate_dst (N := 5) rfl ?_); refine bx_ 5 (cs := #[.int .i64 cx, .int .i64 cy]) (t := 33) ?_; intro g5 e_ w_ b_ hb; replace HM := Aside0.mk (HM.out.box hb b_ e_); clear e_ b_ hb; have ka0 := blk_cell HM.out.a2 0; have ka1 := blk_cell HM.out.a2 1; have kb0 := blk_cell HM.out.a1 0; have kb1 := blk_cell HM.out.a1 1; have kc0 := blk_cell HM.out.a0 0; have kc1 := blk_cell HM.out.a0 1)
  | (go_at_call 68; (with_reducible refine (PointValid_calls ax ay _).mono ?_); rintro e w_ ⟨rfl, hb⟩; rw [H1.out]; replace HM := Aside0.mk (HM.out.keep hb); clear hb; (try clear ka0 ka1 kb0 kb1 kc0 kc1); have ka0 := blk_cell HM.out.a2 0; have ka1 := blk_cell HM.out.a2 1; have kb0 := blk_cell HM.out.a1 0; have kb1 := blk_cell HM.out.a1 1; have kc0 := blk_cell HM.out.a0 0; have kc1 := blk_cell HM.out.a0 1)
  | (go_at_call 68; (with_reducible refine (PointValid_calls bx by_ _).mono ?_); rintro e w_ ⟨rfl, hb⟩; rw [H2.out]; replace HM := Aside0.mk (HM.out.keep hb); clear hb; (try clear ka0 ka1 kb0 kb1 kc0 kc1); have ka0 := blk_cell HM.out.a2 0; have ka1 := blk_cell HM.out.a2 1; have kb0 := blk_cell HM.out.a1 0; have kb1 := blk_cell HM.out.a1 1; have kc0 := blk_cell HM.out.a0 0; have kc1 := blk_cell HM.out.a0 1)
  | (go_at_call 68; (with_reducible refine (PointValid_calls cx cy _).mono ?_); rintro e w_ ⟨rfl, hb⟩; rw [H3.out]; replace HM := Aside0.mk (HM.out.keep hb); clear hb; (try clear ka0 ka1 kb0 kb1 kc0 kc1); have ka0 := blk_cell HM.out.a2 0; have ka1 := blk_cell HM.out.a2 1; have kb0 := blk_cell HM.out.a1 0; have kb1 := blk_cell HM.out.a1 1; have kc0 := blk_cell HM.out.a0 0; have kc1 := blk_cell HM.out.a0 1))
 go_ret2
 exact ⟨rfl, HM.out.1⟩
def impl_PointSide.f (a0_0 : Int) (a0_1 : Int) (a1_0 : Int) (a1_1 : Int) (a2_0 : Int) (a2_1 : Int) : Option (Int × Bool) := some (sdP a0_0 a0_1 a1_0 a1_1 a2_0 a2_1)
theorem impl_PointSide.calls (a0_0 : Int) (a0_1 : Int) (a1_0 : Int) (a1_1 : Int) (a2_0 : Int) (a2_1 : Int) (r1 : Int) (r2 : Bool) (w : World) (h : impl_PointSide.f a0_0 a0_1 a1_0 a1_1 a2_0 a2_1 = some (r1, r2)) :
  Calls Try.prog 54 #[.agg #[.int .i64 a0_0, .int .i64 a0_1], .agg #[.int .i64 a1_0, .int .i64 a1_1], .agg #[.int .i64 a2_0, .int .i64 a2_1]] w fun e w' => e = .returned (.tuple #[.int .i64 r1, .bool r2]) ∧ Below w.heap.size w w' := by
 have h := Option.some.inj h
 unfold sdP at h
 cases h1 : inR a0_0 a0_1 10000 with
 | false =>
  rw [h1, if_neg (by simp)] at h
  obtain ⟨rfl, rfl⟩ := Prod.mk.inj h
  exact side_no1 _ _ _ _ _ _ h1 w
 | true =>
  cases h2 : inR a1_0 a1_1 10000 with
  | false =>
   rw [h1, h2, if_neg (by simp)] at h
   obtain ⟨rfl, rfl⟩ := Prod.mk.inj h
   exact side_no2 _ _ _ _ _ _ h1 h2 w
  | true =>
   cases h3 : inR a2_0 a2_1 10000 with
   | false =>
    rw [h1, h2, h3, if_neg (by simp)] at h
    obtain ⟨rfl, rfl⟩ := Prod.mk.inj h
    exact side_no3 _ _ _ _ _ _ h1 h2 h3 w
   | true =>
    rw [h1, h2, h3, if_pos (by simp)] at h
    obtain ⟨rfl, rfl⟩ := Prod.mk.inj h
    exact side_yes _ _ _ _ _ _ h1 h2 h3 w
def impl_between.f (a0 : Int) (a1 : Int) (a2 : Int) : Option (Bool) := if (mn a0 a1) ≤ a2 then (some (decide (a2 ≤ (mx a0 a1)))) else (some false)
set_option maxHeartbeats 8000000 in
set_option maxRecDepth 100000 in
theorem impl_between.calls (a0 : Int) (a1 : Int) (a2 : Int) (r : Bool) (w : World) (h : impl_between.f a0 a1 a2 = some r) :
  Calls Try.prog 56 #[.int .i64 a0, .int .i64 a1, .int .i64 a2] w fun e w' => e = .returned (.bool r) ∧ Below w.heap.size w w' := by
 have HB := Aside0.mk (Below.refl w.heap.size w)
 have H : (if (mn a0 a1) ≤ a2 then (some (decide (a2 ≤ (mx a0 a1)))) else (some false)) = some r := h
 clear h
 obtain ⟨ji4, hji4⟩ : ∃ j_ : Int, (mn a0 a1) = j_ := ⟨_, rfl⟩
 replace H : (if (ji4) ≤ a2 then (some (decide (a2 ≤ (mx a0 a1)))) else (some false)) = some r := by first | (rw [hji4] at H; exact H) | (simp only [hji4] at H ⊢; exact H)
 have hji4_ : (if a1 < a0 then a1 else a0) = ji4 := hji4
 by_cases c5 : (ji4) ≤ a2
 ·rw [if_pos c5] at H
  have c5b0 : decide ((ji4) ≤ a2) = true := decide_eq_true c5
  clear c5
  obtain ⟨ji6, hji6⟩ : ∃ j_ : Int, (mx a0 a1) = j_ := ⟨_, rfl⟩
  replace H : (some (decide (a2 ≤ (ji6)))) = some r := by first | (rw [hji6] at H; exact H) | (simp only [hji6] at H ⊢; exact H)
  have hji6_ : (if a0 < a1 then a1 else a0) = ji6 := hji6
  obtain rfl := Option.some.inj H
  go_enter Try.func56, Try.ntmps56
  go_wp2
  go_ret
  exact ⟨by first | rfl | (simp [errW_none, errW_some] <;> rfl) | (simp only [← hji4, ← hji6]; first | rfl | (simp [errW_none, errW_some] <;> rfl)) | (simp [*, errW_none, errW_some] <;> rfl), lb HB.out⟩
 ·rw [if_neg c5] at H
  have c5b0 : decide ((ji4) ≤ a2) = false := decide_eq_false c5
  clear c5
  obtain rfl := Option.some.inj H
  go_enter Try.func56, Try.ntmps56
  go_wp2
  go_ret
  exact ⟨by first | rfl | (simp [errW_none, errW_some] <;> rfl) | (simp only [← hji4]; first | rfl | (simp [errW_none, errW_some] <;> rfl)) | (simp [*, errW_none, errW_some] <;> rfl), lb HB.out⟩
def impl_PointOn.j0 : Nat → Bool → Int → Int → Int → Int → Int → Int → Option (Bool)
 | 0, _, _, _, _, _, _, _ => none
 | k + 1, x21, x107000, x107001, x108000, x108001, x109000, x109001 => if x21 = true then (some false) else ((impl_between.f x107000 x108000 x109000).bind fun t111 => (if t111 = true then ((impl_between.f x107001 x108001 x109001).bind fun t112 => (some t112)) else (some false)))
def impl_PointOn.f (k : Nat) (a0_0 : Int) (a0_1 : Int) (a1_0 : Int) (a1_1 : Int) (a2_0 : Int) (a2_1 : Int) : Option (Bool) := (impl_PointSide.f a0_0 a0_1 a1_0 a1_1 a2_0 a2_1).bind fun bt109 => (if bt109.2 = true then (impl_PointOn.j0 k (bt109.1 != 0) a0_0 a0_1 a1_0 a1_1 a2_0 a2_1) else (impl_PointOn.j0 k true a0_0 a0_1 a1_0 a1_1 a2_0 a2_1))
theorem impl_PointOn.mono_l : ∀ k, (∀ y0 y1 y2 y3 y4 y5 y6, LeO (impl_PointOn.j0 k y0 y1 y2 y3 y4 y5 y6) (impl_PointOn.j0 (k + 1) y0 y1 y2 y3 y4 y5 y6))
 | 0 => fun _ _ _ _ _ _ _ r h => by simp [impl_PointOn.j0] at h
 | k + 1 => by
  have ih0 := impl_PointOn.mono_l k
  ·intro y0 y1 y2 y3 y4 y5 y6
   unfold impl_PointOn.j0
   repeat' first
   | (with_reducible exact ih0 _ _ _ _ _ _ _)
   | (with_reducible exact LeO.refl _)
   | (with_reducible exact LeO.none _)
   | (with_reducible refine LeO.ite ?_ ?_)
   | (with_reducible refine LeO.bind ?_ (fun _ => ?_))
   | exact ih0 _ _ _ _ _ _ _
   | exact LeO.none _
   | refine LeO.ite ?_ ?_
   | refine LeO.bind ?_ (fun _ => ?_)
theorem impl_PointOn.mono : ∀ a0 a1 a2 a3 a4 a5 k, LeO (impl_PointOn.f k a0 a1 a2 a3 a4 a5) (impl_PointOn.f (k + 1) a0 a1 a2 a3 a4 a5) := by
 intro a0 a1 a2 a3 a4 a5 k
 have ih0 := impl_PointOn.mono_l k
 unfold impl_PointOn.f
 repeat' first
   | (with_reducible exact ih0 _ _ _ _ _ _ _)
   | (with_reducible exact LeO.refl _)
   | (with_reducible exact LeO.none _)
   | (with_reducible refine LeO.ite ?_ ?_)
   | (with_reducible refine LeO.bind ?_ (fun _ => ?_))
   | exact ih0 _ _ _ _ _ _ _
   | exact LeO.none _
   | refine LeO.ite ?_ ?_
   | refine LeO.bind ?_ (fun _ => ?_)
set_option maxHeartbeats 8000000 in
set_option maxRecDepth 100000 in
theorem impl_PointOn.calls (k : Nat) (a0_0 : Int) (a0_1 : Int) (a1_0 : Int) (a1_1 : Int) (a2_0 : Int) (a2_1 : Int) (r : Bool) (w : World) (h : impl_PointOn.f k a0_0 a0_1 a1_0 a1_1 a2_0 a2_1 = some r) :
  Calls Try.prog 25 #[.agg #[.int .i64 a0_0, .int .i64 a0_1], .agg #[.int .i64 a1_0, .int .i64 a1_1], .agg #[.int .i64 a2_0, .int .i64 a2_1]] w fun e w' => e = .returned (.bool r) ∧ Below w.heap.size w w' := by
 have hu33 := Try.underlying33
 have HB := Aside0.mk (Below.refl w.heap.size w)
 have H : ((impl_PointSide.f a0_0 a0_1 a1_0 a1_1 a2_0 a2_1).bind fun bt109 => (if bt109.2 = true then (impl_PointOn.j0 k (bt109.1 != 0) a0_0 a0_1 a1_0 a1_1 a2_0 a2_1) else (impl_PointOn.j0 k true a0_0 a0_1 a1_0 a1_1 a2_0 a2_1))) = some r := h
 clear h
 replace H := Option.bind_eq_some_iff.mp H
 obtain ⟨⟨t109, t110⟩, A40, H⟩ := H
 replace H : (if t110 = true then (impl_PointOn.j0 k (t109 != 0) a0_0 a0_1 a1_0 a1_1 a2_0 a2_1) else (impl_PointOn.j0 k true a0_0 a0_1 a1_0 a1_1 a2_0 a2_1)) = some r := H
 have A4 := Aside0.mk A40
 clear A40
 have HC5 := Aside0.mk H
 clear H
 go_enter Try.func25, Try.ntmps25
 go_upto_region 2 with (first | ((with_reducible refine gate_dst (N := 3) rfl ?_); refine bx_ 3 (cs := #[.int .i64 a0_0, .int .i64 a0_1]) (t := 33) ?_; intro gb106 hg w6 hbox hb; have n0_ := Aside0.mk (below_step (lb HB.out) hb); have n1_ := Aside0.mk (hbox); have n2_ := Aside0.mk ((by rw [hg]; exact (below_size (lb HB.out)) : w.heap.size ≤ gb106)); have n3_ := Aside0.mk ((by rw [hg]; exact (below_size (lb HB.out)) : w.heap.size ≤ gb106)); clear HB; have HB := n0_; have BK106 := n1_; have GW106 := n2_; have GE106 := n3_; clear n0_ n1_ n2_ n3_; clear hb hbox hg) | ((with_reducible refine gate_dst (N := 4) rfl ?_); refine bx_ 4 (cs := #[.int .i64 a1_0, .int .i64 a1_1]) (t := 33) ?_; intro gb107 hg w7 hbox hb; have n0_ := Aside0.mk (blk_below (bf BK106.out) hb); have n1_ := Aside0.mk (below_step (lb HB.out) hb); have n2_ := Aside0.mk (hbox); have n3_ := Aside0.mk ((by rw [hg]; exact (below_size (lb HB.out)) : w.heap.size ≤ gb107)); have n4_ := Aside0.mk ((by rw [hg]; exact (below_size (lb HB.out)) : w.heap.size ≤ gb107)); have n5_ := Aside0.mk ((by rw [hg]; exact Nat.ne_of_lt (blk_lt (bf BK106.out)) : gb106 ≠ gb107)); have n6_ := Aside0.mk ((by rw [hg]; exact Nat.ne_of_gt (blk_lt (bf BK106.out)) : gb107 ≠ gb106)); clear BK106; clear HB; have BK106 := n0_; have HB := n1_; have BK107 := n2_; have GW107 := n3_; have GE107 := n4_; have NB106_107 := n5_; have NB107_106 := n6_; clear n0_ n1_ n2_ n3_ n4_ n5_ n6_; clear hb hbox hg) | ((with_reducible refine gate_dst (N := 5) rfl ?_); refine bx_ 5 (cs := #[.int .i64 a2_0, .int .i64 a2_1]) (t := 33) ?_; intro gb108 hg w8 hbox hb; have n0_ := Aside0.mk (blk_below (bf BK106.out) hb); have n1_ := Aside0.mk (blk_below (bf BK107.out) hb); have n2_ := Aside0.mk (below_step (lb HB.out) hb); have n3_ := Aside0.mk (hbox); have n4_ := Aside0.mk ((by rw [hg]; exact (below_size (lb HB.out)) : w.heap.size ≤ gb108)); have n5_ := Aside0.mk ((by rw [hg]; exact (below_size (lb HB.out)) : w.heap.size ≤ gb108)); have n6_ := Aside0.mk ((by rw [hg]; exact Nat.ne_of_lt (blk_lt (bf BK106.out)) : gb106 ≠ gb108)); have n7_ := Aside0.mk ((by rw [hg]; exact Nat.ne_of_gt (blk_lt (bf BK106.out)) : gb108 ≠ gb106)); have n8_ := Aside0.mk ((by rw [hg]; exact Nat.ne_of_lt (blk_lt (bf BK107.out)) : gb107 ≠ gb108)); have n9_ := Aside0.mk ((by rw [hg]; exact Nat.ne_of_gt (blk_lt (bf BK107.out)) : gb108 ≠ gb107)); clear BK106; clear BK107; clear HB; have BK106 := n0_; have BK107 := n1_; have HB := n2_; have BK108 := n3_; have GW108 := n4_; have GE108 := n5_; have NB106_108 := n6_; have NB108_106 := n7_; have NB107_108 := n8_; have NB108_107 := n9_; clear n0_ n1_ n2_ n3_ n4_ n5_ n6_ n7_ n8_ n9_; clear hb hbox hg; have hnb9 := NB106_107.out; have hnc9 := NB107_106.out; have hnb10 := NB106_108.out; have hnc10 := NB108_106.out; have hcz11_0 : w8.cell? ⟨gb106, 0, none⟩ = some (.int .i64 a0_0) := (blk_cell BK106.out 0).trans rfl; have hcz11_1 : w8.cell? ⟨gb106, 1, none⟩ = some (.int .i64 a0_1) := (blk_cell BK106.out 1).trans rfl; have hfz11_0 := blk_frozen BK106.out 0; have hfz11_1 := blk_frozen BK106.out 1; have hnb12 := NB107_108.out; have hnc12 := NB108_107.out; have hcz13_0 : w8.cell? ⟨gb107, 0, none⟩ = some (.int .i64 a1_0) := (blk_cell BK107.out 0).trans rfl; have hcz13_1 : w8.cell? ⟨gb107, 1, none⟩ = some (.int .i64 a1_1) := (blk_cell BK107.out 1).trans rfl; have hfz13_0 := blk_frozen BK107.out 0; have hfz13_1 := blk_frozen BK107.out 1; have hcz14_0 : w8.cell? ⟨gb108, 0, none⟩ = some (.int .i64 a2_0) := (blk_cell BK108.out 0).trans rfl; have hcz14_1 : w8.cell? ⟨gb108, 1, none⟩ = some (.int .i64 a2_1) := (blk_cell BK108.out 1).trans rfl; have hfz14_0 := blk_frozen BK108.out 0; have hfz14_1 := blk_frozen BK108.out 1) | ((with_reducible refine gate_callee (f := 54) rfl ?_); refine goesL_ (some 13) rfl rfl Try.func54 (by kernel_rfl) rfl #[.agg #[.int .i64 a0_0, .int .i64 a0_1], .agg #[.int .i64 a1_0, .int .i64 a1_1], .agg #[.int .i64 a2_0, .int .i64 a2_1]] rfl al ?_; (with_reducible refine (impl_PointSide.calls a0_0 a0_1 a1_0 a1_1 a2_0 a2_1 t109 t110 _ A4.out).mono ?_); rintro e w15 ⟨rfl, hb⟩; refine ⟨_, rfl, ?_⟩; have n0_ := Aside0.mk (blk_below (bf BK106.out) hb); have n1_ := Aside0.mk (blk_below (bf BK107.out) hb); have n2_ := Aside0.mk (blk_below (bf BK108.out) hb); have n3_ := Aside0.mk (below_step (lb HB.out) hb); clear BK106; clear BK107; clear BK108; clear HB; have BK106 := n0_; have BK107 := n1_; have BK108 := n2_; have HB := n3_; clear n0_ n1_ n2_ n3_; (try clear hb); (try clear hb2); (try clear hk); (try clear hi)))
 (try simp only [Act.put, List.setIfInBounds_toArray, List.set_cons_zero, List.set_cons_succ])
 go_cut [21] (fun v21 wc => ∃ (kq : Nat) (x21_4 : Bool), v21 = .bool x21_4 ∧ Aside0 (impl_PointOn.j0 kq x21_4 a0_0 a0_1 a1_0 a1_1 a2_0 a2_1 = some r) ∧ Aside0 (kq ≤ k) ∧ Aside0 (wc.heap[gb106]? = some (.cells #[.int .i64 a0_0, .int .i64 a0_1] 33 (0, 0))) ∧ Aside0 (wc.heap[gb107]? = some (.cells #[.int .i64 a1_0, .int .i64 a1_1] 33 (0, 0))) ∧ Aside0 (wc.heap[gb108]? = some (.cells #[.int .i64 a2_0, .int .i64 a2_1] 33 (0, 0))) ∧ Aside0 (Below w.heap.size w wc))
 case first =>
  have H := HC5.out
  clear HC5
  by_cases c16 : t110 = true
  ·subst c16
   have H1 : (impl_PointOn.j0 k (t109 != 0) a0_0 a0_1 a1_0 a1_1 a2_0 a2_1) = some r := by rw [if_pos rfl] at H; exact H
   clear H
   have H := H1
   clear H1
   have H' := Aside0.mk H
   clear H
   go_wp2
   go_meet
   case rel => exact ⟨_, ((t109 != 0)), (by first | rfl | (simp; done) | (simp [*]; done)), H', ⟨by first | omega | exact Nat.le_refl _⟩, ⟨bu BK106.out⟩, ⟨bu BK107.out⟩, ⟨bu BK108.out⟩, ⟨lb HB.out⟩⟩
  ·replace c16 := Bool.eq_false_iff.mpr c16
   subst c16
   have H1 : (impl_PointOn.j0 k true a0_0 a0_1 a1_0 a1_1 a2_0 a2_1) = some r := by rw [if_neg (show ¬ (false = true) by decide)] at H; exact H
   clear H
   have H := H1
   clear H1
   have H' := Aside0.mk H
   clear H
   go_wp2
   go_meet
   case rel => exact ⟨_, (true), (by first | rfl | (simp; done) | (simp [*]; done)), H', ⟨by first | omega | exact Nat.le_refl _⟩, ⟨bu BK106.out⟩, ⟨bu BK107.out⟩, ⟨bu BK108.out⟩, ⟨lb HB.out⟩⟩
 case rest =>
  clear HC5
  try clear c1
  try clear c2
  try clear p2
  try clear c5
  try clear c9
  try clear c10
  try clear c12
  try clear c16
  try clear hcz11_0
  try clear hcz11_1
  try clear hcz13_0
  try clear hcz13_1
  try clear hcz14_0
  try clear hcz14_1
  try clear hfz11_0
  try clear hfz11_1
  try clear hfz13_0
  try clear hfz13_1
  try clear hfz14_0
  try clear hfz14_1
  obtain ⟨kq, x21_4, rfl, HA, HJ4, BK106, BK107, BK108, HB⟩ := hcut
  cases kq with
  | zero => exact absurd HA.out (by simp [impl_PointOn.j0])
  | succ kj4 =>
   have H := HA.out
   clear HA
   simp only [impl_PointOn.j0] at H
   by_cases c17 : x21_4 = true
   ·subst c17
    have H1 : (some false) = some r := by rw [if_pos rfl] at H; exact H
    clear H
    have H := H1
    clear H1
    obtain rfl := Option.some.inj H
    go_wp2
    go_ret
    exact ⟨er, lb HB.out⟩
   ·replace c17 := Bool.eq_false_iff.mpr c17
    subst c17
    have H1 : ((impl_between.f a0_0 a1_0 a2_0).bind fun t111 => (if t111 = true then ((impl_between.f a0_1 a1_1 a2_1).bind fun t112 => (some t112)) else (some false))) = some r := by rw [if_neg (show ¬ (false = true) by decide)] at H; exact H
    clear H
    have H := H1
    clear H1
    replace H := Option.bind_eq_some_iff.mp H
    obtain ⟨t111, A180, H⟩ := H
    replace H : (if t111 = true then ((impl_between.f a0_1 a1_1 a2_1).bind fun t112 => (some t112)) else (some false)) = some r := H
    have A18 := Aside0.mk A180
    clear A180
    by_cases c19 : t111 = true
    ·subst c19
     have H1 : ((impl_between.f a0_1 a1_1 a2_1).bind fun t112 => (some t112)) = some r := by rw [if_pos rfl] at H; exact H
     clear H
     have H := H1
     clear H1
     replace H := Option.bind_eq_some_iff.mp H
     obtain ⟨t112, A200, H⟩ := H
     replace H : (some t112) = some r := H
     have A20 := Aside0.mk A200
     clear A200
     obtain rfl := Option.some.inj H
     have hnb21 := NB106_107.out
     have hnc21 := NB107_106.out
     have hnb22 := NB106_108.out
     have hnc22 := NB108_106.out
     have hcz23_0 : wc.cell? ⟨gb106, 0, none⟩ = some (.int .i64 a0_0) := (blk_cell BK106.out 0).trans rfl
     have hcz23_1 : wc.cell? ⟨gb106, 1, none⟩ = some (.int .i64 a0_1) := (blk_cell BK106.out 1).trans rfl
     have hfz23_0 := blk_frozen BK106.out 0
     have hfz23_1 := blk_frozen BK106.out 1
     have hnb24 := NB107_108.out
     have hnc24 := NB108_107.out
     have hcz25_0 : wc.cell? ⟨gb107, 0, none⟩ = some (.int .i64 a1_0) := (blk_cell BK107.out 0).trans rfl
     have hcz25_1 : wc.cell? ⟨gb107, 1, none⟩ = some (.int .i64 a1_1) := (blk_cell BK107.out 1).trans rfl
     have hfz25_0 := blk_frozen BK107.out 0
     have hfz25_1 := blk_frozen BK107.out 1
     have hcz26_0 : wc.cell? ⟨gb108, 0, none⟩ = some (.int .i64 a2_0) := (blk_cell BK108.out 0).trans rfl
     have hcz26_1 : wc.cell? ⟨gb108, 1, none⟩ = some (.int .i64 a2_1) := (blk_cell BK108.out 1).trans rfl
     have hfz26_0 := blk_frozen BK108.out 0
     have hfz26_1 := blk_frozen BK108.out 1
     go_wp2_with (first | ((with_reducible refine gate_callee (f := 56) rfl ?_); refine goesL_ (some 28) rfl rfl Try.func56 (by kernel_rfl) rfl #[.int .i64 a0_0, .int .i64 a1_0, .int .i64 a2_0] rfl al ?_; (with_reducible refine (impl_between.calls a0_0 a1_0 a2_0 true _ A18.out).mono ?_); rintro e w27 ⟨rfl, hb⟩; refine ⟨_, rfl, ?_⟩; have n0_ := Aside0.mk (blk_below (bf BK106.out) hb); have n1_ := Aside0.mk (blk_below (bf BK107.out) hb); have n2_ := Aside0.mk (blk_below (bf BK108.out) hb); have n3_ := Aside0.mk (below_step (lb HB.out) hb); clear BK106; clear BK107; clear BK108; clear HB; have BK106 := n0_; have BK107 := n1_; have BK108 := n2_; have HB := n3_; clear n0_ n1_ n2_ n3_; (try clear hb); (try clear hb2); (try clear hk); (try clear hi); have hcz28_0 : w27.cell? ⟨gb106, 0, none⟩ = some (.int .i64 a0_0) := (blk_cell BK106.out 0).trans rfl; have hcz28_1 : w27.cell? ⟨gb106, 1, none⟩ = some (.int .i64 a0_1) := (blk_cell BK106.out 1).trans rfl; have hfz28_0 := blk_frozen BK106.out 0; have hfz28_1 := blk_frozen BK106.out 1; have hcz29_0 : w27.cell? ⟨gb107, 0, none⟩ = some (.int .i64 a1_0) := (blk_cell BK107.out 0).trans rfl; have hcz29_1 : w27.cell? ⟨gb107, 1, none⟩ = some (.int .i64 a1_1) := (blk_cell BK107.out 1).trans rfl; have hfz29_0 := blk_frozen BK107.out 0; have hfz29_1 := blk_frozen BK107.out 1; have hcz30_0 : w27.cell? ⟨gb108, 0, none⟩ = some (.int .i64 a2_0) := (blk_cell BK108.out 0).trans rfl; have hcz30_1 : w27.cell? ⟨gb108, 1, none⟩ = some (.int .i64 a2_1) := (blk_cell BK108.out 1).trans rfl; have hfz30_0 := blk_frozen BK108.out 0; have hfz30_1 := blk_frozen BK108.out 1) | (go_at_call 56; (with_reducible refine (impl_between.calls a0_1 a1_1 a2_1 t112 _ A20.out).mono ?_); rintro e w31 ⟨rfl, hb⟩; have n0_ := Aside0.mk (blk_below (bf BK106.out) hb); have n1_ := Aside0.mk (blk_below (bf BK107.out) hb); have n2_ := Aside0.mk (blk_below (bf BK108.out) hb); have n3_ := Aside0.mk (below_step (lb HB.out) hb); clear BK106; clear BK107; clear BK108; clear HB; have BK106 := n0_; have BK107 := n1_; have BK108 := n2_; have HB := n3_; clear n0_ n1_ n2_ n3_; (try clear hb); (try clear hb2); (try clear hk); (try clear hi)))
     go_ret
     exact ⟨er, lb HB.out⟩
    ·replace c19 := Bool.eq_false_iff.mpr c19
     subst c19
     have H1 : (some false) = some r := by rw [if_neg (show ¬ (false = true) by decide)] at H; exact H
     clear H
     have H := H1
     clear H1
     obtain rfl := Option.some.inj H
     have hnb32 := NB106_107.out
     have hnc32 := NB107_106.out
     have hnb33 := NB106_108.out
     have hnc33 := NB108_106.out
     have hcz34_0 : wc.cell? ⟨gb106, 0, none⟩ = some (.int .i64 a0_0) := (blk_cell BK106.out 0).trans rfl
     have hcz34_1 : wc.cell? ⟨gb106, 1, none⟩ = some (.int .i64 a0_1) := (blk_cell BK106.out 1).trans rfl
     have hfz34_0 := blk_frozen BK106.out 0
     have hfz34_1 := blk_frozen BK106.out 1
     have hnb35 := NB107_108.out
     have hnc35 := NB108_107.out
     have hcz36_0 : wc.cell? ⟨gb107, 0, none⟩ = some (.int .i64 a1_0) := (blk_cell BK107.out 0).trans rfl
     have hcz36_1 : wc.cell? ⟨gb107, 1, none⟩ = some (.int .i64 a1_1) := (blk_cell BK107.out 1).trans rfl
     have hfz36_0 := blk_frozen BK107.out 0
     have hfz36_1 := blk_frozen BK107.out 1
     have hcz37_0 : wc.cell? ⟨gb108, 0, none⟩ = some (.int .i64 a2_0) := (blk_cell BK108.out 0).trans rfl
     have hcz37_1 : wc.cell? ⟨gb108, 1, none⟩ = some (.int .i64 a2_1) := (blk_cell BK108.out 1).trans rfl
     have hfz37_0 := blk_frozen BK108.out 0
     have hfz37_1 := blk_frozen BK108.out 1
     go_wp2_with (first | ((with_reducible refine gate_callee (f := 56) rfl ?_); refine goesL_ (some 28) rfl rfl Try.func56 (by kernel_rfl) rfl #[.int .i64 a0_0, .int .i64 a1_0, .int .i64 a2_0] rfl al ?_; (with_reducible refine (impl_between.calls a0_0 a1_0 a2_0 false _ A18.out).mono ?_); rintro e w38 ⟨rfl, hb⟩; refine ⟨_, rfl, ?_⟩; have n0_ := Aside0.mk (blk_below (bf BK106.out) hb); have n1_ := Aside0.mk (blk_below (bf BK107.out) hb); have n2_ := Aside0.mk (blk_below (bf BK108.out) hb); have n3_ := Aside0.mk (below_step (lb HB.out) hb); clear BK106; clear BK107; clear BK108; clear HB; have BK106 := n0_; have BK107 := n1_; have BK108 := n2_; have HB := n3_; clear n0_ n1_ n2_ n3_; (try clear hb); (try clear hb2); (try clear hk); (try clear hi)))
     go_ret
     exact ⟨er, lb HB.out⟩
def onB (ax ay bx by_ cx cy : Int) : Bool := (sdP ax ay bx by_ cx cy).2 && ((sdP ax ay bx by_ cx cy).1 == 0 && (decide (mn ax bx ≤ cx ∧ cx ≤ mx ax bx) && decide (mn ay by_ ≤ cy ∧ cy ≤ mx ay by_)))
theorem onB_f (ax ay bx by_ cx cy : Int) : impl_PointOn.f 1 ax ay bx by_ cx cy = some (onB ax ay bx by_ cx cy) := by
 unfold impl_PointOn.f impl_PointSide.f onB
 simp only [Option.bind_some, impl_PointOn.j0, impl_between.f]
 generalize sdP ax ay bx by_ cx cy = p
 obtain ⟨s, b⟩ := p
 cases b with
 | false => simp
 | true =>
  by_cases hs : s = 0
  ·subst hs
   by_cases h1 : mn ax bx ≤ cx <;> by_cases h2 : cx ≤ mx ax bx <;> by_cases h3 : mn ay by_ ≤ cy <;> by_cases h4 : cy ≤ mx ay by_ <;> simp [h1, h2, h3, h4]
  ·simp [hs]
theorem three_new (w : World) (X Y Z : Obj) : (((w.alloc X).alloc Y).alloc Z).drew.heap[w.heap.size]? = some X ∧ (((w.alloc X).alloc Y).alloc Z).drew.heap[w.heap.size + 1]? = some Y ∧ (((w.alloc X).alloc Y).alloc Z).drew.heap[w.heap.size + 1 + 1]? = some Z := by
 have h2 := heap_alloc_new (w.alloc X) Y
 rw [World.size_alloc] at h2
 exact ⟨blk_drew (blk_alloc (blk_alloc (heap_alloc_new w X) Y) Z), blk_drew (blk_alloc h2 Z), blk_drew (three_last w X Y Z)⟩
theorem three_keep {w W : World} {b0 b1 b2 : Nat} {x0 y0 x1 y1 x2 y2 : Int} {p1 p2 v : Value} {t : TypeId} (h0 : w.heap[b0]? = some (.cells #[.int .i64 x0, .int .i64 y0, p1] t (0, 0))) (h1 : w.heap[b1]? = some (.cells #[.int .i64 x1, .int .i64 y1, p2] t (0, 0))) (h2 : w.heap[b2]? = some (.cells #[.int .i64 x2, .int .i64 y2, v] t (0, 0))) (hb : Below w.heap.size w W) :
  W.cell? ⟨b0, 0, none⟩ = some (.int .i64 x0) ∧ W.cell? ⟨b0, 1, none⟩ = some (.int .i64 y0) ∧ W.cell? ⟨b0, 2, none⟩ = some p1 ∧ W.cell? ⟨b1, 0, none⟩ = some (.int .i64 x1) ∧ W.cell? ⟨b1, 1, none⟩ = some (.int .i64 y1) ∧ W.cell? ⟨b1, 2, none⟩ = some p2 ∧ W.cell? ⟨b2, 0, none⟩ = some (.int .i64 x2) ∧ W.cell? ⟨b2, 1, none⟩ = some (.int .i64 y2) := by
 have k0 := (hb.block _ (blk_lt h0)).trans h0
 have k1 := (hb.block _ (blk_lt h1)).trans h1
 have k2 := (hb.block _ (blk_lt h2)).trans h2
 exact ⟨(blk_cell k0 0).trans rfl, (blk_cell k0 1).trans rfl, (blk_cell k0 2).trans rfl, (blk_cell k1 0).trans rfl, (blk_cell k1 1).trans rfl, (blk_cell k1 2).trans rfl, (blk_cell k2 0).trans rfl, (blk_cell k2 1).trans rfl⟩
set_option maxHeartbeats 8000000 in
set_option maxRecDepth 100000 in
theorem foldsBack_calls (b0 b1 b2 : Nat) (x0 y0 x1 y1 x2 y2 : Int) (v : Value) (w : World) (h0 : w.heap[b0]? = some (.cells #[.int .i64 x0, .int .i64 y0, .pointer (some ⟨b1, 0, none⟩)] 75 (0, 0))) (h1 : w.heap[b1]? = some (.cells #[.int .i64 x1, .int .i64 y1, .pointer (some ⟨b2, 0, none⟩)] 75 (0, 0))) (h2 : w.heap[b2]? = some (.cells #[.int .i64 x2, .int .i64 y2, v] 75 (0, 0))) :
  Calls Try.prog 90 #[.pointer (some ⟨b0, 0, none⟩)] w fun e w' => e = .returned (.bool (onB x0 y0 x1 y1 x2 y2 || onB x1 y1 x2 y2 x0 y0)) ∧ Below w.heap.size w w' := by
 have HC := Aside0.mk (onB_f x0 y0 x1 y1 x2 y2)
 have HD := Aside0.mk (onB_f x1 y1 x2 y2 x0 y0)
 have HW := Aside0.mk (Below.refl w.heap.size w)
 have l0 := blk_lt h0
 have l1 := blk_lt h1
 have l2 := blk_lt h2
 have c00 : w.cell? ⟨b0, 0, none⟩ = some (.int .i64 x0) := blk_cell h0 0
 have c01 : w.cell? ⟨b0, 1, none⟩ = some (.int .i64 y0) := blk_cell h0 1
 have c02 : w.cell? ⟨b0, 2, none⟩ = some (.pointer (some ⟨b1, 0, none⟩)) := blk_cell h0 2
 have c10 : w.cell? ⟨b1, 0, none⟩ = some (.int .i64 x1) := blk_cell h1 0
 have c11 : w.cell? ⟨b1, 1, none⟩ = some (.int .i64 y1) := blk_cell h1 1
 have c12 : w.cell? ⟨b1, 2, none⟩ = some (.pointer (some ⟨b2, 0, none⟩)) := blk_cell h1 2
 have c20 : w.cell? ⟨b2, 0, none⟩ = some (.int .i64 x2) := blk_cell h2 0
 have c21 : w.cell? ⟨b2, 1, none⟩ = some (.int .i64 y2) := blk_cell h2 1
 have H0 := Aside0.mk h0
 have H1 := Aside0.mk h1
 have H2 := Aside0.mk h2
 have A0 : Aside0 (w.heap.size ≤ w.heap.size) := ⟨Nat.le_refl _⟩
 have A1 : Aside0 (w.heap.size ≤ w.heap.size + 1) := ⟨by omega⟩
 have A2 : Aside0 (w.heap.size ≤ w.heap.size + 1 + 1) := ⟨by omega⟩
 have A3 : Aside0 (w.heap.size ≤ w.heap.size + 2) := ⟨by omega⟩
 clear h0 h1 h2
 generalize hO1 : onB x0 y0 x1 y1 x2 y2 = o1 at *
 generalize hO2 : onB x1 y1 x2 y2 x0 y0 = o2 at *
 clear hO1 hO2
 go_enter Try.func90, Try.ntmps90
 go_upto_region 1 with fail
 rename_i K hK_
 have key : ∀ (t1 t6 t7 t8 t9 t10 t11 t12 t13 t14 t15 t16 t17 t18 t19 t20 t21 t22 t23 t24 t25 t26 : Value) (g3 g4 g5 : Nat) (W : World), Below w.heap.size w W → W.heap[g3]? = some (.cells #[.int .i64 x0, .int .i64 y0] 33 (0, 0)) → W.heap[g4]? = some (.cells #[.int .i64 x1, .int .i64 y1] 33 (0, 0)) → W.heap[g5]? = some (.cells #[.int .i64 x2, .int .i64 y2] 33 (0, 0)) →
   K { tmps := #[.pointer (some ⟨b0, 0, none⟩), t1, .bool false, .pointer (some ⟨g3, 0, none⟩), .pointer (some ⟨g4, 0, none⟩), .pointer (some ⟨g5, 0, none⟩), t6, t7, t8, t9, t10, t11, t12, t13, t14, t15, t16, t17, t18, t19, t20, t21, t22, t23, t24, t25, t26, undef, undef, undef, undef, undef, undef, undef, undef, undef, undef], defers := [] } W := by
  intro t1 t6 t7 t8 t9 t10 t11 t12 t13 t14 t15 t16 t17 t18 t19 t20 t21 t22 t23 t24 t25 t26 g3 g4 g5 W hB k3 k4 k5
  have HB := Aside0.mk hB
  have K3 := Aside0.mk k3
  have K4 := Aside0.mk k4
  have K5 := Aside0.mk k5
  have d0 := blk_cell k3 0
  have d1 := blk_cell k3 1
  have e0 := blk_cell k4 0
  have e1 := blk_cell k4 1
  have f0 := blk_cell k5 0
  have f1 := blk_cell k5 1
  clear hB k3 k4 k5 c00 c01 c02 c10 c11 c12 c20 c21
  refine hK_ _ _ ?_
  clear hK_
  cases o1 with
  | true =>
   go_wp2_with (go_at_call 25; (with_reducible refine (impl_PointOn.calls 1 x0 y0 x1 y1 x2 y2 true _ HC.out).mono ?_); rintro e w_ ⟨rfl, hb⟩; replace HB := Aside0.mk (HB.out.trans (hb.mono HB.out.size)); clear hb d0 d1 e0 e1 f0 f1)
   go_ret
   exact ⟨rfl, HB.out⟩
  | false =>
   go_wp2_with (first
    | (go_at_call 25; (with_reducible refine (impl_PointOn.calls 1 x0 y0 x1 y1 x2 y2 false _ HC.out).mono ?_); rintro e w_ ⟨rfl, hb⟩; replace HB := Aside0.mk (HB.out.trans (hb.mono HB.out.size)); replace K3 := Aside0.mk (blk_below K3.out hb); replace K4 := Aside0.mk (blk_below K4.out hb); replace K5 := Aside0.mk (blk_below K5.out hb); clear hb d0 d1 e0 e1 f0 f1; have d0 := blk_cell K3.out 0; have d1 := blk_cell K3.out 1; have e0 := blk_cell K4.out 0; have e1 := blk_cell K4.out 1; have f0 := blk_cell K5.out 0; have f1 := blk_cell K5.out 1)
    | (go_at_call 25; (with_reducible refine (impl_PointOn.calls 1 x1 y1 x2 y2 x0 y0 o2 _ HD.out).mono ?_); rintro e w_ ⟨rfl, hb⟩; replace HB := Aside0.mk (HB.out.trans (hb.mono HB.out.size)); clear hb d0 d1 e0 e1 f0 f1))
   go_ret
   exact ⟨rfl, HB.out⟩
 have KEY := Aside0.mk key
 clear key hK_
 go_region_held3 (fun w' => w'.cell? ⟨b0, 0, none⟩ = some (.int .i64 x0) ∧ w'.cell? ⟨b0, 1, none⟩ = some (.int .i64 y0) ∧ w'.cell? ⟨b0, 2, none⟩ = some (.pointer (some ⟨b1, 0, none⟩)) ∧ w'.cell? ⟨b1, 0, none⟩ = some (.int .i64 x1) ∧ w'.cell? ⟨b1, 1, none⟩ = some (.int .i64 y1) ∧ w'.cell? ⟨b1, 2, none⟩ = some (.pointer (some ⟨b2, 0, none⟩)) ∧ w'.cell? ⟨b2, 0, none⟩ = some (.int .i64 x2) ∧ w'.cell? ⟨b2, 1, none⟩ = some (.int .i64 y2)) ((refine three_keep H0.out H1.out H2.out ?_; exact lb HW.out)) (fail)
 all_goals
  refine KEY.out _ _ _ _ _ _ _ _ _ _ _ _ _ _ _ _ _ _ _ _ _ _ _ _ _ _ ?_ ?_ ?_ ?_
  ·exact lb HW.out
  all_goals first | exact (three_new w _ _ _).1 | exact (three_new w _ _ _).2.1 | exact (three_new w _ _ _).2.2
end Go.Proofs.Ytfonigbkoligmaa.P
-- squeezed

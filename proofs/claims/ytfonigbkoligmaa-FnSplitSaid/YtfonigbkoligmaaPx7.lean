import Derived.Test.YtfonigbkoligmaaPx0
import Derived.Test.YtfonigbkoligmaaPx1
import Derived.Test.YtfonigbkoligmaaPx2
import Derived.Test.YtfonigbkoligmaaPx3
import Derived.Test.YtfonigbkoligmaaPx5
import Derived.Test.YtfonigbkoligmaaPx6
namespace Go.Proofs.Ytfonigbkoligmaa.P
open Go.RowKit Go.Proofs.YtfonigbkoligmaaW.PrintWords Go.Proofs.YtfonigbkoligmaaW.PrintLast Go.Proofs.YtfonigbkoligmaaW.PrintMore
attribute [local go_sem] max2_int min2_int max_two min_two max_three min_three max_four min_four
set_option linter.unusedVariables false
set_option linter.unusedSimpArgs false
attribute [local go_sem high] eqA33
mutual
def spec_PolyValid.l0 : Nat → List (S33) → Int → Int → Option (Bool)
 | 0, _, _, _ => none
 | k + 1, x0, x3, x4 => if x4 < x3 then (spec_PolyValid.l1 k x0 x3 x4 (wrap64 (x4 + 1))) else (some true)
def spec_PolyValid.l1 : Nat → List (S33) → Int → Int → Int → Option (Bool)
 | 0, _, _, _, _ => none
 | k + 1, x0, x3, x4, x5 => if x5 < x3 then (if 0 ≤ x4 then (if x4 < (x0.length : Int) then (if x3 = 0 then (none) else (if 0 ≤ (Int.tmod (wrap64 (x4 + 1)) x3) then (if (Int.tmod (wrap64 (x4 + 1)) x3) < (x0.length : Int) then (if 0 ≤ x5 then (if x5 < (x0.length : Int) then (if 0 ≤ (Int.tmod (wrap64 (x5 + 1)) x3) then (if (Int.tmod (wrap64 (x5 + 1)) x3) < (x0.length : Int) then (if x5 = (wrap64 (x4 + 1)) then (if (((rd_T33 x0 x5).f0) == ((rd_T33 x0 x4).f0) && (((rd_T33 x0 x5).f1) == ((rd_T33 x0 x4).f1))) = true then (some false) else (if (((rd_T33 x0 (Int.tmod (wrap64 (x5 + 1)) x3)).f0) == ((rd_T33 x0 x5).f0) && (((rd_T33 x0 (Int.tmod (wrap64 (x5 + 1)) x3)).f1) == ((rd_T33 x0 x5).f1))) = true then (some false) else ((spec_l2On.f ((rd_T33 x0 x4).f0) ((rd_T33 x0 x4).f1) ((rd_T33 x0 (Int.tmod (wrap64 (x4 + 1)) x3)).f0) ((rd_T33 x0 (Int.tmod (wrap64 (x4 + 1)) x3)).f1) ((rd_T33 x0 (Int.tmod (wrap64 (x5 + 1)) x3)).f0) ((rd_T33 x0 (Int.tmod (wrap64 (x5 + 1)) x3)).f1)).bind fun t345 => (if t345 = true then (some false) else ((spec_l2On.f ((rd_T33 x0 x5).f0) ((rd_T33 x0 x5).f1) ((rd_T33 x0 (Int.tmod (wrap64 (x5 + 1)) x3)).f0) ((rd_T33 x0 (Int.tmod (wrap64 (x5 + 1)) x3)).f1) ((rd_T33 x0 x4).f0) ((rd_T33 x0 x4).f1)).bind fun t346 => (if t346 = true then (some false) else (spec_PolyValid.l1 k x0 x3 x4 (wrap64 (x5 + 1))))))))) else (if (Int.tmod (wrap64 (x5 + 1)) x3) = x4 then ((spec_l2On.f ((rd_T33 x0 x5).f0) ((rd_T33 x0 x5).f1) ((rd_T33 x0 (Int.tmod (wrap64 (x5 + 1)) x3)).f0) ((rd_T33 x0 (Int.tmod (wrap64 (x5 + 1)) x3)).f1) ((rd_T33 x0 (Int.tmod (wrap64 (x4 + 1)) x3)).f0) ((rd_T33 x0 (Int.tmod (wrap64 (x4 + 1)) x3)).f1)).bind fun t347 => (if t347 = true then (some false) else ((spec_l2On.f ((rd_T33 x0 x4).f0) ((rd_T33 x0 x4).f1) ((rd_T33 x0 (Int.tmod (wrap64 (x4 + 1)) x3)).f0) ((rd_T33 x0 (Int.tmod (wrap64 (x4 + 1)) x3)).f1) ((rd_T33 x0 x5).f0) ((rd_T33 x0 x5).f1)).bind fun t348 => (if t348 = true then (some false) else (spec_PolyValid.l1 k x0 x3 x4 (wrap64 (x5 + 1))))))) else ((spec_l31Meet.f k ((rd_T33 x0 x4).f0) ((rd_T33 x0 x4).f1) ((rd_T33 x0 (Int.tmod (wrap64 (x4 + 1)) x3)).f0) ((rd_T33 x0 (Int.tmod (wrap64 (x4 + 1)) x3)).f1) ((rd_T33 x0 x5).f0) ((rd_T33 x0 x5).f1) ((rd_T33 x0 (Int.tmod (wrap64 (x5 + 1)) x3)).f0) ((rd_T33 x0 (Int.tmod (wrap64 (x5 + 1)) x3)).f1)).bind fun t349 => (if t349 = true then (some false) else (spec_PolyValid.l1 k x0 x3 x4 (wrap64 (x5 + 1))))))) else (none)) else (none)) else (none)) else (none)) else (none)) else (none))) else (none)) else (none)) else (spec_PolyValid.l0 k x0 x3 (wrap64 (x4 + 1)))
end
def spec_PolyValid.f (k : Nat) (l0 : List (S33)) : Option (Bool) := (spec_l31Points.f k l0).bind fun t336 => (if t336 = true then (spec_PolyValid.l0 k l0 (l0.length : Int) 0) else (some false))
theorem spec_PolyValid.mono_l : ∀ k, (∀ y0 y1 y2, LeO (spec_PolyValid.l0 k y0 y1 y2) (spec_PolyValid.l0 (k + 1) y0 y1 y2)) ∧ (∀ y0 y1 y2 y3, LeO (spec_PolyValid.l1 k y0 y1 y2 y3) (spec_PolyValid.l1 (k + 1) y0 y1 y2 y3))
 | 0 => ⟨fun _ _ _ r h => by simp [spec_PolyValid.l0] at h, fun _ _ _ _ r h => by simp [spec_PolyValid.l1] at h⟩
 | k + 1 => by
  obtain ⟨ih0, ih1⟩ := spec_PolyValid.mono_l k
  refine ⟨?_, ?_⟩
  ·intro y0 y1 y2
   unfold spec_PolyValid.l0
   repeat' first
   | (with_reducible exact ih0 _ _ _)
   | (with_reducible exact ih1 _ _ _ _)
   | (with_reducible exact spec_l31Meet.mono _ _ _ _ _ _ _ _ _)
   | (with_reducible exact spec_l31Points.mono _ _)
   | (with_reducible exact LeO.refl _)
   | (with_reducible exact LeO.none _)
   | (with_reducible refine LeO.ite ?_ ?_)
   | (with_reducible refine LeO.bind ?_ (fun _ => ?_))
   | exact ih0 _ _ _
   | exact ih1 _ _ _ _
   | exact spec_l31Meet.mono _ _ _ _ _ _ _ _ _
   | exact spec_l31Points.mono _ _
   | exact LeO.none _
   | refine LeO.ite ?_ ?_
   | refine LeO.bind ?_ (fun _ => ?_)
  ·intro y0 y1 y2 y3
   unfold spec_PolyValid.l1
   repeat' first
   | (with_reducible exact ih0 _ _ _)
   | (with_reducible exact ih1 _ _ _ _)
   | (with_reducible exact spec_l31Meet.mono _ _ _ _ _ _ _ _ _)
   | (with_reducible exact spec_l31Points.mono _ _)
   | (with_reducible exact LeO.refl _)
   | (with_reducible exact LeO.none _)
   | (with_reducible refine LeO.ite ?_ ?_)
   | (with_reducible refine LeO.bind ?_ (fun _ => ?_))
   | exact ih0 _ _ _
   | exact ih1 _ _ _ _
   | exact spec_l31Meet.mono _ _ _ _ _ _ _ _ _
   | exact spec_l31Points.mono _ _
   | exact LeO.none _
   | refine LeO.ite ?_ ?_
   | refine LeO.bind ?_ (fun _ => ?_)
theorem spec_PolyValid.mono : ∀ a0 k, LeO (spec_PolyValid.f k a0) (spec_PolyValid.f (k + 1) a0) := by
 intro a0 k
 obtain ⟨ih0, ih1⟩ := spec_PolyValid.mono_l k
 unfold spec_PolyValid.f
 repeat' first
   | (with_reducible exact ih0 _ _ _)
   | (with_reducible exact ih1 _ _ _ _)
   | (with_reducible exact spec_l31Meet.mono _ _ _ _ _ _ _ _ _)
   | (with_reducible exact spec_l31Points.mono _ _)
   | (with_reducible exact LeO.refl _)
   | (with_reducible exact LeO.none _)
   | (with_reducible refine LeO.ite ?_ ?_)
   | (with_reducible refine LeO.bind ?_ (fun _ => ?_))
   | exact ih0 _ _ _
   | exact ih1 _ _ _ _
   | exact spec_l31Meet.mono _ _ _ _ _ _ _ _ _
   | exact spec_l31Points.mono _ _
   | exact LeO.none _
   | refine LeO.ite ?_ ?_
   | refine LeO.bind ?_ (fun _ => ?_)
set_option maxHeartbeats 8000000 in
set_option maxRecDepth 100000 in
theorem spec_PolyValid.calls (k : Nat) (A0 : Option Addr) (c0 : Nat) (l0 : List (S33)) (r : Bool) (w : World) (hr0 : Kd.C k33 w A0 l0.length l0) (hc0 : l0.length ≤ c0) (h : spec_PolyValid.f k l0 = some r) :
  Calls Try.prog 66 #[.slice A0 l0.length c0] w fun e w' => e = .returned (.bool r) ∧ Below w.heap.size w w' := by
 have hu33 := Try.underlying33
 have HR0 := Aside0.mk hr0
 have HC0 := Aside0.mk hc0
 clear hr0 hc0
 have HB := Aside0.mk (Below.refl w.heap.size w)
 have H : ((spec_l31Points.f k l0).bind fun t336 => (if t336 = true then (spec_PolyValid.l0 k l0 (l0.length : Int) 0) else (some false))) = some r := h
 clear h
 replace H := Option.bind_eq_some_iff.mp H
 obtain ⟨t336, A20, H⟩ := H
 replace H : (if t336 = true then (spec_PolyValid.l0 k l0 (l0.length : Int) 0) else (some false)) = some r := H
 have A2 := Aside0.mk A20
 clear A20
 by_cases c3 : t336 = true
 ·subst c3
  have H1 : (spec_PolyValid.l0 k l0 (l0.length : Int) 0) = some r := by rw [if_pos rfl] at H; exact H
  clear H
  have H := H1
  clear H1
  have H' := Aside0.mk H
  clear H
  go_enter Try.func66, Try.ntmps66
  go_wp2_with (first | ((with_reducible refine gate_callee (f := 88) rfl ?_); refine goesL_ (some 11) rfl rfl Try.func88 (by kernel_rfl) rfl #[.slice A0 l0.length c0] rfl al ?_; (with_reducible refine (spec_l31Points.calls k _ _ l0 true _ ?side1 ?side2 A2.out).mono ?_); (case side1 => repeat (first | exact HR0.out | (with_reducible refine Kd.C_alloc ?_ _) | (with_reducible refine Kd.C_drewN ?_ _) | (with_reducible refine Kd.C_drew ?_))); (case side2 => exact HC0.out); rintro e w4 ⟨rfl, hb⟩; refine ⟨_, rfl, ?_⟩; have n0_ := Aside0.mk (below_step (lb HB.out) hb); clear HB; have HB := n0_; clear n0_; (try clear hb); (try clear hb2); (try clear hk); (try clear hi)))
  go_loopg [4] k (fun kq v4 w' => ∃ (x4_1 : Int), v4 = .int .i64 x4_1 ∧ Aside0 (spec_PolyValid.l0 kq l0 (l0.length : Int) x4_1 = some r) ∧ Aside0 (kq ≤ k) ∧ Aside0 (Below w.heap.size w w'))
  case atStart => exact ⟨(0), (by first | rfl | (simp; done) | (simp [*]; done)), H', ⟨Nat.le_refl _⟩, ⟨lb HB.out⟩⟩
  case round =>
   clear H'
   try clear p2
   try clear c3
   obtain ⟨x4_1, rfl, HA, HK1, HB⟩ := hrel
   cases gk with
   | zero => exact absurd HA.out (by simp [spec_PolyValid.l0])
   | succ k1 =>
    have H := HA.out
    clear HA
    simp only [spec_PolyValid.l0] at H
    by_cases c5 : x4_1 < (l0.length : Int)
    ·rw [if_pos c5] at H
     have c5b0 : decide (x4_1 < (l0.length : Int)) = true := decide_eq_true c5
     clear c5
     have H' := Aside0.mk H
     clear H
     go_wp2
     go_loopg [5] k1 (fun kq v5 w' => ∃ (x5_2 : Int), v5 = .int .i64 x5_2 ∧ Aside0 (spec_PolyValid.l1 kq l0 (l0.length : Int) x4_1 x5_2 = some r) ∧ Aside0 (kq ≤ k1) ∧ Aside0 (Below w.heap.size w w'))
     case atStart => exact ⟨(wrap64 (x4_1 + 1)), (by first | rfl | (simp; done) | (simp [*]; done)), H', ⟨Nat.le_refl _⟩, ⟨lb HB.out⟩⟩
     case round =>
      clear H'
      try clear p2
      try clear c3
      try clear c5
      try clear c5b0
      try clear p2
      obtain ⟨x5_2, rfl, HA, HK2, HB⟩ := hrel
      cases gk with
      | zero => exact absurd HA.out (by simp [spec_PolyValid.l1])
      | succ k2 =>
       have H := HA.out
       clear HA
       simp only [spec_PolyValid.l1] at H
       by_cases c6 : x5_2 < (l0.length : Int)
       ·rw [if_pos c6] at H
        have c6b0 : decide (x5_2 < (l0.length : Int)) = true := decide_eq_true c6
        clear c6
        by_cases c7 : 0 ≤ x4_1
        ·rw [if_pos c7] at H
         have c7b0 : decide (0 ≤ x4_1) = true := decide_eq_true c7
         clear c7
         by_cases c8 : x4_1 < (l0.length : Int)
         ·rw [if_pos c8] at H
          have c8b0 : decide (x4_1 < (l0.length : Int)) = true := decide_eq_true c8
          clear c8
          by_cases c9 : (l0.length : Int) = 0
          ·rw [if_pos c9] at H
           exact absurd H (by simp)
          ·rw [if_neg c9] at H
           have c9b0 : ((l0.length : Int) == 0) = false := beq_eq_false_iff_ne.mpr c9
           have c9b1 : ((l0.length : Int) != 0) = true := bne_iff_ne.mpr c9
           have c9b2 : ¬ (l0 = []) := fun h_ => c9 (by rw [h_]; rfl)
           obtain ⟨ji10, hji10⟩ : ∃ j_ : Int, (Int.tmod (wrap64 (x4_1 + 1)) (l0.length : Int)) = j_ := ⟨_, rfl⟩
           replace H : (if 0 ≤ (ji10) then (if (ji10) < (l0.length : Int) then (if 0 ≤ x5_2 then (if x5_2 < (l0.length : Int) then (if 0 ≤ (Int.tmod (wrap64 (x5_2 + 1)) (l0.length : Int)) then (if (Int.tmod (wrap64 (x5_2 + 1)) (l0.length : Int)) < (l0.length : Int) then (if x5_2 = (wrap64 (x4_1 + 1)) then (if (((rd_T33 l0 x5_2).f0) == ((rd_T33 l0 x4_1).f0) && (((rd_T33 l0 x5_2).f1) == ((rd_T33 l0 x4_1).f1))) = true then (some false) else (if (((rd_T33 l0 (Int.tmod (wrap64 (x5_2 + 1)) (l0.length : Int))).f0) == ((rd_T33 l0 x5_2).f0) && (((rd_T33 l0 (Int.tmod (wrap64 (x5_2 + 1)) (l0.length : Int))).f1) == ((rd_T33 l0 x5_2).f1))) = true then (some false) else ((spec_l2On.f ((rd_T33 l0 x4_1).f0) ((rd_T33 l0 x4_1).f1) ((rd_T33 l0 (ji10)).f0) ((rd_T33 l0 (ji10)).f1) ((rd_T33 l0 (Int.tmod (wrap64 (x5_2 + 1)) (l0.length : Int))).f0) ((rd_T33 l0 (Int.tmod (wrap64 (x5_2 + 1)) (l0.length : Int))).f1)).bind fun t345 => (if t345 = true then (some false) else ((spec_l2On.f ((rd_T33 l0 x5_2).f0) ((rd_T33 l0 x5_2).f1) ((rd_T33 l0 (Int.tmod (wrap64 (x5_2 + 1)) (l0.length : Int))).f0) ((rd_T33 l0 (Int.tmod (wrap64 (x5_2 + 1)) (l0.length : Int))).f1) ((rd_T33 l0 x4_1).f0) ((rd_T33 l0 x4_1).f1)).bind fun t346 => (if t346 = true then (some false) else (spec_PolyValid.l1 k2 l0 (l0.length : Int) x4_1 (wrap64 (x5_2 + 1))))))))) else (if (Int.tmod (wrap64 (x5_2 + 1)) (l0.length : Int)) = x4_1 then ((spec_l2On.f ((rd_T33 l0 x5_2).f0) ((rd_T33 l0 x5_2).f1) ((rd_T33 l0 (Int.tmod (wrap64 (x5_2 + 1)) (l0.length : Int))).f0) ((rd_T33 l0 (Int.tmod (wrap64 (x5_2 + 1)) (l0.length : Int))).f1) ((rd_T33 l0 (ji10)).f0) ((rd_T33 l0 (ji10)).f1)).bind fun t347 => (if t347 = true then (some false) else ((spec_l2On.f ((rd_T33 l0 x4_1).f0) ((rd_T33 l0 x4_1).f1) ((rd_T33 l0 (ji10)).f0) ((rd_T33 l0 (ji10)).f1) ((rd_T33 l0 x5_2).f0) ((rd_T33 l0 x5_2).f1)).bind fun t348 => (if t348 = true then (some false) else (spec_PolyValid.l1 k2 l0 (l0.length : Int) x4_1 (wrap64 (x5_2 + 1))))))) else ((spec_l31Meet.f k2 ((rd_T33 l0 x4_1).f0) ((rd_T33 l0 x4_1).f1) ((rd_T33 l0 (ji10)).f0) ((rd_T33 l0 (ji10)).f1) ((rd_T33 l0 x5_2).f0) ((rd_T33 l0 x5_2).f1) ((rd_T33 l0 (Int.tmod (wrap64 (x5_2 + 1)) (l0.length : Int))).f0) ((rd_T33 l0 (Int.tmod (wrap64 (x5_2 + 1)) (l0.length : Int))).f1)).bind fun t349 => (if t349 = true then (some false) else (spec_PolyValid.l1 k2 l0 (l0.length : Int) x4_1 (wrap64 (x5_2 + 1))))))) else (none)) else (none)) else (none)) else (none)) else (none)) else (none)) = some r := by first | (rw [hji10] at H; exact H) | (simp only [hji10] at H ⊢; exact H)
           by_cases c11 : 0 ≤ (ji10)
           ·rw [if_pos c11] at H
            have c11b0 : decide (0 ≤ (ji10)) = true := decide_eq_true c11
            clear c11
            by_cases c12 : (ji10) < (l0.length : Int)
            ·rw [if_pos c12] at H
             have c12b0 : decide ((ji10) < (l0.length : Int)) = true := decide_eq_true c12
             clear c12
             by_cases c13 : 0 ≤ x5_2
             ·rw [if_pos c13] at H
              have c13b0 : decide (0 ≤ x5_2) = true := decide_eq_true c13
              clear c13
              by_cases c14 : x5_2 < (l0.length : Int)
              ·rw [if_pos c14] at H
               have c14b0 : decide (x5_2 < (l0.length : Int)) = true := decide_eq_true c14
               clear c14
               obtain ⟨ji15, hji15⟩ : ∃ j_ : Int, (Int.tmod (wrap64 (x5_2 + 1)) (l0.length : Int)) = j_ := ⟨_, rfl⟩
               replace H : (if 0 ≤ (ji15) then (if (ji15) < (l0.length : Int) then (if x5_2 = (wrap64 (x4_1 + 1)) then (if (((rd_T33 l0 x5_2).f0) == ((rd_T33 l0 x4_1).f0) && (((rd_T33 l0 x5_2).f1) == ((rd_T33 l0 x4_1).f1))) = true then (some false) else (if (((rd_T33 l0 (ji15)).f0) == ((rd_T33 l0 x5_2).f0) && (((rd_T33 l0 (ji15)).f1) == ((rd_T33 l0 x5_2).f1))) = true then (some false) else ((spec_l2On.f ((rd_T33 l0 x4_1).f0) ((rd_T33 l0 x4_1).f1) ((rd_T33 l0 (ji10)).f0) ((rd_T33 l0 (ji10)).f1) ((rd_T33 l0 (ji15)).f0) ((rd_T33 l0 (ji15)).f1)).bind fun t345 => (if t345 = true then (some false) else ((spec_l2On.f ((rd_T33 l0 x5_2).f0) ((rd_T33 l0 x5_2).f1) ((rd_T33 l0 (ji15)).f0) ((rd_T33 l0 (ji15)).f1) ((rd_T33 l0 x4_1).f0) ((rd_T33 l0 x4_1).f1)).bind fun t346 => (if t346 = true then (some false) else (spec_PolyValid.l1 k2 l0 (l0.length : Int) x4_1 (wrap64 (x5_2 + 1))))))))) else (if (ji15) = x4_1 then ((spec_l2On.f ((rd_T33 l0 x5_2).f0) ((rd_T33 l0 x5_2).f1) ((rd_T33 l0 (ji15)).f0) ((rd_T33 l0 (ji15)).f1) ((rd_T33 l0 (ji10)).f0) ((rd_T33 l0 (ji10)).f1)).bind fun t347 => (if t347 = true then (some false) else ((spec_l2On.f ((rd_T33 l0 x4_1).f0) ((rd_T33 l0 x4_1).f1) ((rd_T33 l0 (ji10)).f0) ((rd_T33 l0 (ji10)).f1) ((rd_T33 l0 x5_2).f0) ((rd_T33 l0 x5_2).f1)).bind fun t348 => (if t348 = true then (some false) else (spec_PolyValid.l1 k2 l0 (l0.length : Int) x4_1 (wrap64 (x5_2 + 1))))))) else ((spec_l31Meet.f k2 ((rd_T33 l0 x4_1).f0) ((rd_T33 l0 x4_1).f1) ((rd_T33 l0 (ji10)).f0) ((rd_T33 l0 (ji10)).f1) ((rd_T33 l0 x5_2).f0) ((rd_T33 l0 x5_2).f1) ((rd_T33 l0 (ji15)).f0) ((rd_T33 l0 (ji15)).f1)).bind fun t349 => (if t349 = true then (some false) else (spec_PolyValid.l1 k2 l0 (l0.length : Int) x4_1 (wrap64 (x5_2 + 1))))))) else (none)) else (none)) = some r := by first | (rw [hji15] at H; exact H) | (simp only [hji15] at H ⊢; exact H)
               by_cases c16 : 0 ≤ (ji15)
               ·rw [if_pos c16] at H
                have c16b0 : decide (0 ≤ (ji15)) = true := decide_eq_true c16
                clear c16
                by_cases c17 : (ji15) < (l0.length : Int)
                ·rw [if_pos c17] at H
                 have c17b0 : decide ((ji15) < (l0.length : Int)) = true := decide_eq_true c17
                 clear c17
                 by_cases c18 : x5_2 = (wrap64 (x4_1 + 1))
                 ·rw [if_pos c18] at H
                  have c18b0 : (x5_2 == (wrap64 (x4_1 + 1))) = true := beq_iff_eq.mpr c18
                  have c18b1 : (x5_2 != (wrap64 (x4_1 + 1))) = false := bne_eq_false_iff_eq.mpr c18
                  clear c18
                  by_cases c19 : (((rd_T33 l0 x5_2).f0) == ((rd_T33 l0 x4_1).f0) && (((rd_T33 l0 x5_2).f1) == ((rd_T33 l0 x4_1).f1))) = true
                  ·rw [if_pos c19] at H
                   have c19b0 : (((rd_T33 l0 x5_2).f0) == ((rd_T33 l0 x4_1).f0) && (((rd_T33 l0 x5_2).f1) == ((rd_T33 l0 x4_1).f1))) = true := c19
                   (try (have c19b1 : decide (((rd_T33 l0 x5_2).f0) = ((rd_T33 l0 x4_1).f0) && (((rd_T33 l0 x5_2).f1) == ((rd_T33 l0 x4_1).f1))) = true := by simpa using c19))
                   (try (have c19b2 : (((rd_T33 l0 x5_2).f0) == ((rd_T33 l0 x4_1).f0) && (((rd_T33 l0 x5_2).f1) == ((rd_T33 l0 x4_1).f1))) = true := by simpa using c19))
                   clear c19
                   obtain rfl := Option.some.inj H
                   have p337 : 0 ≤ (x4_1 : Int) := oa
                   have q337 : x4_1 < (l0.length : Int) := oa
                   obtain ⟨ad337, e337, hx337_0, hx337_1⟩ := at_T33 HR0.out x4_1 p337 q337
                   cases e337
                   replace hx337_0 := (HB.out.cell (World.block_lt_of_cell? w _ hx337_0)).trans hx337_0
                   replace hx337_1 := (HB.out.cell (World.block_lt_of_cell? w _ hx337_1)).trans hx337_1
                   replace p337 := eq_true p337
                   replace q337 := eq_true q337
                   go_wp2_with (first | ((with_reducible refine gate_dst (N := 6) rfl ?_); refine bx_ 6 (cs := #[.int .i64 0, .int .i64 0]) (t := 33) ?_; intro gb338 hg w20 hbox hb; have n0_ := Aside0.mk (below_step (lb HB.out) hb); have n1_ := Aside0.mk (hbox); have n2_ := Aside0.mk ((by rw [hg]; exact (below_size (lb HB.out)) : w.heap.size ≤ gb338)); have n3_ := Aside0.mk ((by rw [hg]; exact (below_size (lb HB.out)) : w.heap.size ≤ gb338)); clear HB; have HB := n0_; have BK338 := n1_; have GW338 := n2_; have GE338 := n3_; clear n0_ n1_ n2_ n3_; clear hb hbox hg; have hcz21_0 : w20.cell? ⟨gb338, 0, none⟩ = some (.int .i64 0) := (blk_cell BK338.out 0).trans rfl; have hcz21_1 : w20.cell? ⟨gb338, 1, none⟩ = some (.int .i64 0) := (blk_cell BK338.out 1).trans rfl; have hfz21_0 := blk_frozen BK338.out 0; have hfz21_1 := blk_frozen BK338.out 1; have p339 : 0 ≤ ((ji10) : Int) := oa; have q339 : (ji10) < (l0.length : Int) := oa; obtain ⟨ad339, e339, hx339_0, hx339_1⟩ := at_T33 HR0.out (ji10) p339 q339; obtain rfl : ad337 = ad339 := (by injection e339); have hn339_0 : ad337.block ≠ gb338 := Nat.ne_of_lt (cl hx339_0 GW338.out); have hn339_1 : ad337.block ≠ gb338 := Nat.ne_of_lt (cl hx339_0 GW338.out); replace hx339_0 := (HB.out.cell (World.block_lt_of_cell? w _ hx339_0)).trans hx339_0; replace hx339_1 := (HB.out.cell (World.block_lt_of_cell? w _ hx339_1)).trans hx339_1; replace hx339_0 := (cell_far (p := ⟨gb338, 0, none⟩) (nb hn339_0) (.int .i64 ((rd_T33 l0 x4_1).f0))).trans hx339_0; replace hx339_1 := (cell_far (p := ⟨gb338, 0, none⟩) (nb hn339_0) (.int .i64 ((rd_T33 l0 x4_1).f0))).trans hx339_1; replace hx339_0 := (cell_far (p := ⟨gb338, 1, none⟩) (nb hn339_1) (.int .i64 ((rd_T33 l0 x4_1).f1))).trans hx339_0; replace hx339_1 := (cell_far (p := ⟨gb338, 1, none⟩) (nb hn339_1) (.int .i64 ((rd_T33 l0 x4_1).f1))).trans hx339_1; clear hn339_0; clear hn339_1; replace p339 := eq_true p339; replace q339 := eq_true q339) | ((with_reducible refine gate_dst (N := 7) rfl ?_); refine bx_ 7 (cs := #[.int .i64 0, .int .i64 0]) (t := 33) ?_; intro gb340 hg w22 hbox hb; have n0_ := Aside0.mk (blk_below (bp BK338.out) hb); have n1_ := Aside0.mk (below_step (lb HB.out) hb); have n2_ := Aside0.mk (hbox); have n3_ := Aside0.mk ((by rw [hg]; exact (below_size (lb HB.out)) : w.heap.size ≤ gb340)); have n4_ := Aside0.mk ((by rw [hg]; exact (below_size (lb HB.out)) : w.heap.size ≤ gb340)); have n5_ := Aside0.mk ((by rw [hg]; exact Nat.ne_of_lt (blk_lt (bp BK338.out)) : gb338 ≠ gb340)); have n6_ := Aside0.mk ((by rw [hg]; exact Nat.ne_of_gt (blk_lt (bp BK338.out)) : gb340 ≠ gb338)); clear BK338; clear HB; have BK338 := n0_; have HB := n1_; have BK340 := n2_; have GW340 := n3_; have GE340 := n4_; have NB338_340 := n5_; have NB340_338 := n6_; clear n0_ n1_ n2_ n3_ n4_ n5_ n6_; clear hb hbox hg; have hnb23 := NB340_338.out; have hnc23 := NB338_340.out; have hcz24_0 : w22.cell? ⟨gb340, 0, none⟩ = some (.int .i64 0) := (blk_cell BK340.out 0).trans rfl; have hcz24_1 : w22.cell? ⟨gb340, 1, none⟩ = some (.int .i64 0) := (blk_cell BK340.out 1).trans rfl; have hfz24_0 := blk_frozen BK340.out 0; have hfz24_1 := blk_frozen BK340.out 1; have p341 : 0 ≤ (x5_2 : Int) := oa; have q341 : x5_2 < (l0.length : Int) := oa; obtain ⟨ad341, e341, hx341_0, hx341_1⟩ := at_T33 HR0.out x5_2 p341 q341; obtain rfl : ad337 = ad341 := (by injection e341); have hn341_0 : ad337.block ≠ gb340 := Nat.ne_of_lt (cl hx341_0 GW340.out); have hn341_1 : ad337.block ≠ gb340 := Nat.ne_of_lt (cl hx341_0 GW340.out); replace hx341_0 := (HB.out.cell (World.block_lt_of_cell? w _ hx341_0)).trans hx341_0; replace hx341_1 := (HB.out.cell (World.block_lt_of_cell? w _ hx341_1)).trans hx341_1; replace hx341_0 := (cell_far (p := ⟨gb340, 0, none⟩) (nb hn341_0) (.int .i64 ((rd_T33 l0 (ji10)).f0))).trans hx341_0; replace hx341_1 := (cell_far (p := ⟨gb340, 0, none⟩) (nb hn341_0) (.int .i64 ((rd_T33 l0 (ji10)).f0))).trans hx341_1; replace hx341_0 := (cell_far (p := ⟨gb340, 1, none⟩) (nb hn341_1) (.int .i64 ((rd_T33 l0 (ji10)).f1))).trans hx341_0; replace hx341_1 := (cell_far (p := ⟨gb340, 1, none⟩) (nb hn341_1) (.int .i64 ((rd_T33 l0 (ji10)).f1))).trans hx341_1; clear hn341_0; clear hn341_1; replace p341 := eq_true p341; replace q341 := eq_true q341) | ((with_reducible refine gate_dst (N := 8) rfl ?_); refine bx_ 8 (cs := #[.int .i64 0, .int .i64 0]) (t := 33) ?_; intro gb342 hg w25 hbox hb; have n0_ := Aside0.mk (blk_below (bf BK338.out) hb); have n1_ := Aside0.mk (blk_below (bp BK340.out) hb); have n2_ := Aside0.mk (below_step (lb HB.out) hb); have n3_ := Aside0.mk (hbox); have n4_ := Aside0.mk ((by rw [hg]; exact (below_size (lb HB.out)) : w.heap.size ≤ gb342)); have n5_ := Aside0.mk ((by rw [hg]; exact (below_size (lb HB.out)) : w.heap.size ≤ gb342)); have n6_ := Aside0.mk ((by rw [hg]; exact Nat.ne_of_lt (blk_lt (bf BK338.out)) : gb338 ≠ gb342)); have n7_ := Aside0.mk ((by rw [hg]; exact Nat.ne_of_gt (blk_lt (bf BK338.out)) : gb342 ≠ gb338)); have n8_ := Aside0.mk ((by rw [hg]; exact Nat.ne_of_lt (blk_lt (bp BK340.out)) : gb340 ≠ gb342)); have n9_ := Aside0.mk ((by rw [hg]; exact Nat.ne_of_gt (blk_lt (bp BK340.out)) : gb342 ≠ gb340)); clear BK338; clear BK340; clear HB; have BK338 := n0_; have BK340 := n1_; have HB := n2_; have BK342 := n3_; have GW342 := n4_; have GE342 := n5_; have NB338_342 := n6_; have NB342_338 := n7_; have NB340_342 := n8_; have NB342_340 := n9_; clear n0_ n1_ n2_ n3_ n4_ n5_ n6_ n7_ n8_ n9_; clear hb hbox hg; have hnb26 := NB342_338.out; have hnc26 := NB338_342.out; have hnb27 := NB342_340.out; have hnc27 := NB340_342.out; have hcz28_0 : w25.cell? ⟨gb342, 0, none⟩ = some (.int .i64 0) := (blk_cell BK342.out 0).trans rfl; have hcz28_1 : w25.cell? ⟨gb342, 1, none⟩ = some (.int .i64 0) := (blk_cell BK342.out 1).trans rfl; have hfz28_0 := blk_frozen BK342.out 0; have hfz28_1 := blk_frozen BK342.out 1; have p343 : 0 ≤ ((ji15) : Int) := oa; have q343 : (ji15) < (l0.length : Int) := oa; obtain ⟨ad343, e343, hx343_0, hx343_1⟩ := at_T33 HR0.out (ji15) p343 q343; obtain rfl : ad337 = ad343 := (by injection e343); have hn343_0 : ad337.block ≠ gb342 := Nat.ne_of_lt (cl hx343_0 GW342.out); have hn343_1 : ad337.block ≠ gb342 := Nat.ne_of_lt (cl hx343_0 GW342.out); replace hx343_0 := (HB.out.cell (World.block_lt_of_cell? w _ hx343_0)).trans hx343_0; replace hx343_1 := (HB.out.cell (World.block_lt_of_cell? w _ hx343_1)).trans hx343_1; replace hx343_0 := (cell_far (p := ⟨gb342, 0, none⟩) (nb hn343_0) (.int .i64 ((rd_T33 l0 x5_2).f0))).trans hx343_0; replace hx343_1 := (cell_far (p := ⟨gb342, 0, none⟩) (nb hn343_0) (.int .i64 ((rd_T33 l0 x5_2).f0))).trans hx343_1; replace hx343_0 := (cell_far (p := ⟨gb342, 1, none⟩) (nb hn343_1) (.int .i64 ((rd_T33 l0 x5_2).f1))).trans hx343_0; replace hx343_1 := (cell_far (p := ⟨gb342, 1, none⟩) (nb hn343_1) (.int .i64 ((rd_T33 l0 x5_2).f1))).trans hx343_1; clear hn343_0; clear hn343_1; replace p343 := eq_true p343; replace q343 := eq_true q343) | ((with_reducible refine gate_dst (N := 9) rfl ?_); refine bx_ 9 (cs := #[.int .i64 0, .int .i64 0]) (t := 33) ?_; intro gb344 hg w29 hbox hb; have n0_ := Aside0.mk (blk_below (bf BK338.out) hb); have n1_ := Aside0.mk (blk_below (bf BK340.out) hb); have n2_ := Aside0.mk (blk_below (bp BK342.out) hb); have n3_ := Aside0.mk (below_step (lb HB.out) hb); have n4_ := Aside0.mk (hbox); have n5_ := Aside0.mk ((by rw [hg]; exact (below_size (lb HB.out)) : w.heap.size ≤ gb344)); have n6_ := Aside0.mk ((by rw [hg]; exact (below_size (lb HB.out)) : w.heap.size ≤ gb344)); have n7_ := Aside0.mk ((by rw [hg]; exact Nat.ne_of_lt (blk_lt (bf BK338.out)) : gb338 ≠ gb344)); have n8_ := Aside0.mk ((by rw [hg]; exact Nat.ne_of_gt (blk_lt (bf BK338.out)) : gb344 ≠ gb338)); have n9_ := Aside0.mk ((by rw [hg]; exact Nat.ne_of_lt (blk_lt (bf BK340.out)) : gb340 ≠ gb344)); have n10_ := Aside0.mk ((by rw [hg]; exact Nat.ne_of_gt (blk_lt (bf BK340.out)) : gb344 ≠ gb340)); have n11_ := Aside0.mk ((by rw [hg]; exact Nat.ne_of_lt (blk_lt (bp BK342.out)) : gb342 ≠ gb344)); have n12_ := Aside0.mk ((by rw [hg]; exact Nat.ne_of_gt (blk_lt (bp BK342.out)) : gb344 ≠ gb342)); clear BK338; clear BK340; clear BK342; clear HB; have BK338 := n0_; have BK340 := n1_; have BK342 := n2_; have HB := n3_; have BK344 := n4_; have GW344 := n5_; have GE344 := n6_; have NB338_344 := n7_; have NB344_338 := n8_; have NB340_344 := n9_; have NB344_340 := n10_; have NB342_344 := n11_; have NB344_342 := n12_; clear n0_ n1_ n2_ n3_ n4_ n5_ n6_ n7_ n8_ n9_ n10_ n11_ n12_; clear hb hbox hg; have hnb30 := NB344_338.out; have hnc30 := NB338_344.out; have hnb31 := NB344_340.out; have hnc31 := NB340_344.out; have hnb32 := NB344_342.out; have hnc32 := NB342_344.out; have hcz33_0 : w29.cell? ⟨gb344, 0, none⟩ = some (.int .i64 0) := (blk_cell BK344.out 0).trans rfl; have hcz33_1 : w29.cell? ⟨gb344, 1, none⟩ = some (.int .i64 0) := (blk_cell BK344.out 1).trans rfl; have hfz33_0 := blk_frozen BK344.out 0; have hfz33_1 := blk_frozen BK344.out 1; have hcz34_0 : w29.cell? ⟨gb342, 0, none⟩ = some (.int .i64 ((rd_T33 l0 x5_2).f0)) := (blk_cell BK342.out 0).trans rfl; have hcz34_1 : w29.cell? ⟨gb342, 1, none⟩ = some (.int .i64 ((rd_T33 l0 x5_2).f1)) := (blk_cell BK342.out 1).trans rfl; have hfz34_0 := blk_frozen BK342.out 0; have hfz34_1 := blk_frozen BK342.out 1; have hcz35_0 : w29.cell? ⟨gb338, 0, none⟩ = some (.int .i64 ((rd_T33 l0 x4_1).f0)) := (blk_cell BK338.out 0).trans rfl; have hcz35_1 : w29.cell? ⟨gb338, 1, none⟩ = some (.int .i64 ((rd_T33 l0 x4_1).f1)) := (blk_cell BK338.out 1).trans rfl; have hfz35_0 := blk_frozen BK338.out 0; have hfz35_1 := blk_frozen BK338.out 1))
                   go_ret
                   exact ⟨by first | rfl | (simp [errW_none, errW_some] <;> rfl) | (simp only [← hji10, ← hji15]; first | rfl | (simp [errW_none, errW_some] <;> rfl)) | (simp [*, errW_none, errW_some] <;> rfl), lb HB.out⟩
                  ·rw [if_neg c19] at H
                   have c19b0 : (((rd_T33 l0 x5_2).f0) == ((rd_T33 l0 x4_1).f0) && (((rd_T33 l0 x5_2).f1) == ((rd_T33 l0 x4_1).f1))) = false := by simpa using c19
                   (try (have c19b1 : decide (((rd_T33 l0 x5_2).f0) = ((rd_T33 l0 x4_1).f0) && (((rd_T33 l0 x5_2).f1) == ((rd_T33 l0 x4_1).f1))) = false := by simpa using c19))
                   (try (have c19b2 : (((rd_T33 l0 x5_2).f0) == ((rd_T33 l0 x4_1).f0) && (((rd_T33 l0 x5_2).f1) == ((rd_T33 l0 x4_1).f1))) = false := by simpa using c19))
                   (try (have c19b3 : ¬ (((rd_T33 l0 x5_2).f0) = ((rd_T33 l0 x4_1).f0) && (((rd_T33 l0 x5_2).f1) == ((rd_T33 l0 x4_1).f1))) := by simpa using c19))
                   clear c19
                   by_cases c36 : (((rd_T33 l0 (ji15)).f0) == ((rd_T33 l0 x5_2).f0) && (((rd_T33 l0 (ji15)).f1) == ((rd_T33 l0 x5_2).f1))) = true
                   ·rw [if_pos c36] at H
                    have c36b0 : (((rd_T33 l0 (ji15)).f0) == ((rd_T33 l0 x5_2).f0) && (((rd_T33 l0 (ji15)).f1) == ((rd_T33 l0 x5_2).f1))) = true := c36
                    (try (have c36b1 : decide (((rd_T33 l0 (ji15)).f0) = ((rd_T33 l0 x5_2).f0) && (((rd_T33 l0 (ji15)).f1) == ((rd_T33 l0 x5_2).f1))) = true := by simpa using c36))
                    (try (have c36b2 : (((rd_T33 l0 (ji15)).f0) == ((rd_T33 l0 x5_2).f0) && (((rd_T33 l0 (ji15)).f1) == ((rd_T33 l0 x5_2).f1))) = true := by simpa using c36))
                    clear c36
                    obtain rfl := Option.some.inj H
                    have p337 : 0 ≤ (x4_1 : Int) := oa
                    have q337 : x4_1 < (l0.length : Int) := oa
                    obtain ⟨ad337, e337, hx337_0, hx337_1⟩ := at_T33 HR0.out x4_1 p337 q337
                    cases e337
                    replace hx337_0 := (HB.out.cell (World.block_lt_of_cell? w _ hx337_0)).trans hx337_0
                    replace hx337_1 := (HB.out.cell (World.block_lt_of_cell? w _ hx337_1)).trans hx337_1
                    replace p337 := eq_true p337
                    replace q337 := eq_true q337
                    go_wp2_with (first | ((with_reducible refine gate_dst (N := 6) rfl ?_); refine bx_ 6 (cs := #[.int .i64 0, .int .i64 0]) (t := 33) ?_; intro gb338 hg w37 hbox hb; have n0_ := Aside0.mk (below_step (lb HB.out) hb); have n1_ := Aside0.mk (hbox); have n2_ := Aside0.mk ((by rw [hg]; exact (below_size (lb HB.out)) : w.heap.size ≤ gb338)); have n3_ := Aside0.mk ((by rw [hg]; exact (below_size (lb HB.out)) : w.heap.size ≤ gb338)); clear HB; have HB := n0_; have BK338 := n1_; have GW338 := n2_; have GE338 := n3_; clear n0_ n1_ n2_ n3_; clear hb hbox hg; have hcz38_0 : w37.cell? ⟨gb338, 0, none⟩ = some (.int .i64 0) := (blk_cell BK338.out 0).trans rfl; have hcz38_1 : w37.cell? ⟨gb338, 1, none⟩ = some (.int .i64 0) := (blk_cell BK338.out 1).trans rfl; have hfz38_0 := blk_frozen BK338.out 0; have hfz38_1 := blk_frozen BK338.out 1; have p339 : 0 ≤ ((ji10) : Int) := oa; have q339 : (ji10) < (l0.length : Int) := oa; obtain ⟨ad339, e339, hx339_0, hx339_1⟩ := at_T33 HR0.out (ji10) p339 q339; obtain rfl : ad337 = ad339 := (by injection e339); have hn339_0 : ad337.block ≠ gb338 := Nat.ne_of_lt (cl hx339_0 GW338.out); have hn339_1 : ad337.block ≠ gb338 := Nat.ne_of_lt (cl hx339_0 GW338.out); replace hx339_0 := (HB.out.cell (World.block_lt_of_cell? w _ hx339_0)).trans hx339_0; replace hx339_1 := (HB.out.cell (World.block_lt_of_cell? w _ hx339_1)).trans hx339_1; replace hx339_0 := (cell_far (p := ⟨gb338, 0, none⟩) (nb hn339_0) (.int .i64 ((rd_T33 l0 x4_1).f0))).trans hx339_0; replace hx339_1 := (cell_far (p := ⟨gb338, 0, none⟩) (nb hn339_0) (.int .i64 ((rd_T33 l0 x4_1).f0))).trans hx339_1; replace hx339_0 := (cell_far (p := ⟨gb338, 1, none⟩) (nb hn339_1) (.int .i64 ((rd_T33 l0 x4_1).f1))).trans hx339_0; replace hx339_1 := (cell_far (p := ⟨gb338, 1, none⟩) (nb hn339_1) (.int .i64 ((rd_T33 l0 x4_1).f1))).trans hx339_1; clear hn339_0; clear hn339_1; replace p339 := eq_true p339; replace q339 := eq_true q339) | ((with_reducible refine gate_dst (N := 7) rfl ?_); refine bx_ 7 (cs := #[.int .i64 0, .int .i64 0]) (t := 33) ?_; intro gb340 hg w39 hbox hb; have n0_ := Aside0.mk (blk_below (bp BK338.out) hb); have n1_ := Aside0.mk (below_step (lb HB.out) hb); have n2_ := Aside0.mk (hbox); have n3_ := Aside0.mk ((by rw [hg]; exact (below_size (lb HB.out)) : w.heap.size ≤ gb340)); have n4_ := Aside0.mk ((by rw [hg]; exact (below_size (lb HB.out)) : w.heap.size ≤ gb340)); have n5_ := Aside0.mk ((by rw [hg]; exact Nat.ne_of_lt (blk_lt (bp BK338.out)) : gb338 ≠ gb340)); have n6_ := Aside0.mk ((by rw [hg]; exact Nat.ne_of_gt (blk_lt (bp BK338.out)) : gb340 ≠ gb338)); clear BK338; clear HB; have BK338 := n0_; have HB := n1_; have BK340 := n2_; have GW340 := n3_; have GE340 := n4_; have NB338_340 := n5_; have NB340_338 := n6_; clear n0_ n1_ n2_ n3_ n4_ n5_ n6_; clear hb hbox hg; have hnb40 := NB340_338.out; have hnc40 := NB338_340.out; have hcz41_0 : w39.cell? ⟨gb340, 0, none⟩ = some (.int .i64 0) := (blk_cell BK340.out 0).trans rfl; have hcz41_1 : w39.cell? ⟨gb340, 1, none⟩ = some (.int .i64 0) := (blk_cell BK340.out 1).trans rfl; have hfz41_0 := blk_frozen BK340.out 0; have hfz41_1 := blk_frozen BK340.out 1; have p341 : 0 ≤ (x5_2 : Int) := oa; have q341 : x5_2 < (l0.length : Int) := oa; obtain ⟨ad341, e341, hx341_0, hx341_1⟩ := at_T33 HR0.out x5_2 p341 q341; obtain rfl : ad337 = ad341 := (by injection e341); have hn341_0 : ad337.block ≠ gb340 := Nat.ne_of_lt (cl hx341_0 GW340.out); have hn341_1 : ad337.block ≠ gb340 := Nat.ne_of_lt (cl hx341_0 GW340.out); replace hx341_0 := (HB.out.cell (World.block_lt_of_cell? w _ hx341_0)).trans hx341_0; replace hx341_1 := (HB.out.cell (World.block_lt_of_cell? w _ hx341_1)).trans hx341_1; replace hx341_0 := (cell_far (p := ⟨gb340, 0, none⟩) (nb hn341_0) (.int .i64 ((rd_T33 l0 (ji10)).f0))).trans hx341_0; replace hx341_1 := (cell_far (p := ⟨gb340, 0, none⟩) (nb hn341_0) (.int .i64 ((rd_T33 l0 (ji10)).f0))).trans hx341_1; replace hx341_0 := (cell_far (p := ⟨gb340, 1, none⟩) (nb hn341_1) (.int .i64 ((rd_T33 l0 (ji10)).f1))).trans hx341_0; replace hx341_1 := (cell_far (p := ⟨gb340, 1, none⟩) (nb hn341_1) (.int .i64 ((rd_T33 l0 (ji10)).f1))).trans hx341_1; clear hn341_0; clear hn341_1; replace p341 := eq_true p341; replace q341 := eq_true q341) | ((with_reducible refine gate_dst (N := 8) rfl ?_); refine bx_ 8 (cs := #[.int .i64 0, .int .i64 0]) (t := 33) ?_; intro gb342 hg w42 hbox hb; have n0_ := Aside0.mk (blk_below (bf BK338.out) hb); have n1_ := Aside0.mk (blk_below (bp BK340.out) hb); have n2_ := Aside0.mk (below_step (lb HB.out) hb); have n3_ := Aside0.mk (hbox); have n4_ := Aside0.mk ((by rw [hg]; exact (below_size (lb HB.out)) : w.heap.size ≤ gb342)); have n5_ := Aside0.mk ((by rw [hg]; exact (below_size (lb HB.out)) : w.heap.size ≤ gb342)); have n6_ := Aside0.mk ((by rw [hg]; exact Nat.ne_of_lt (blk_lt (bf BK338.out)) : gb338 ≠ gb342)); have n7_ := Aside0.mk ((by rw [hg]; exact Nat.ne_of_gt (blk_lt (bf BK338.out)) : gb342 ≠ gb338)); have n8_ := Aside0.mk ((by rw [hg]; exact Nat.ne_of_lt (blk_lt (bp BK340.out)) : gb340 ≠ gb342)); have n9_ := Aside0.mk ((by rw [hg]; exact Nat.ne_of_gt (blk_lt (bp BK340.out)) : gb342 ≠ gb340)); clear BK338; clear BK340; clear HB; have BK338 := n0_; have BK340 := n1_; have HB := n2_; have BK342 := n3_; have GW342 := n4_; have GE342 := n5_; have NB338_342 := n6_; have NB342_338 := n7_; have NB340_342 := n8_; have NB342_340 := n9_; clear n0_ n1_ n2_ n3_ n4_ n5_ n6_ n7_ n8_ n9_; clear hb hbox hg; have hnb43 := NB342_338.out; have hnc43 := NB338_342.out; have hnb44 := NB342_340.out; have hnc44 := NB340_342.out; have hcz45_0 : w42.cell? ⟨gb342, 0, none⟩ = some (.int .i64 0) := (blk_cell BK342.out 0).trans rfl; have hcz45_1 : w42.cell? ⟨gb342, 1, none⟩ = some (.int .i64 0) := (blk_cell BK342.out 1).trans rfl; have hfz45_0 := blk_frozen BK342.out 0; have hfz45_1 := blk_frozen BK342.out 1; have p343 : 0 ≤ ((ji15) : Int) := oa; have q343 : (ji15) < (l0.length : Int) := oa; obtain ⟨ad343, e343, hx343_0, hx343_1⟩ := at_T33 HR0.out (ji15) p343 q343; obtain rfl : ad337 = ad343 := (by injection e343); have hn343_0 : ad337.block ≠ gb342 := Nat.ne_of_lt (cl hx343_0 GW342.out); have hn343_1 : ad337.block ≠ gb342 := Nat.ne_of_lt (cl hx343_0 GW342.out); replace hx343_0 := (HB.out.cell (World.block_lt_of_cell? w _ hx343_0)).trans hx343_0; replace hx343_1 := (HB.out.cell (World.block_lt_of_cell? w _ hx343_1)).trans hx343_1; replace hx343_0 := (cell_far (p := ⟨gb342, 0, none⟩) (nb hn343_0) (.int .i64 ((rd_T33 l0 x5_2).f0))).trans hx343_0; replace hx343_1 := (cell_far (p := ⟨gb342, 0, none⟩) (nb hn343_0) (.int .i64 ((rd_T33 l0 x5_2).f0))).trans hx343_1; replace hx343_0 := (cell_far (p := ⟨gb342, 1, none⟩) (nb hn343_1) (.int .i64 ((rd_T33 l0 x5_2).f1))).trans hx343_0; replace hx343_1 := (cell_far (p := ⟨gb342, 1, none⟩) (nb hn343_1) (.int .i64 ((rd_T33 l0 x5_2).f1))).trans hx343_1; clear hn343_0; clear hn343_1; replace p343 := eq_true p343; replace q343 := eq_true q343) | ((with_reducible refine gate_dst (N := 9) rfl ?_); refine bx_ 9 (cs := #[.int .i64 0, .int .i64 0]) (t := 33) ?_; intro gb344 hg w46 hbox hb; have n0_ := Aside0.mk (blk_below (bf BK338.out) hb); have n1_ := Aside0.mk (blk_below (bf BK340.out) hb); have n2_ := Aside0.mk (blk_below (bp BK342.out) hb); have n3_ := Aside0.mk (below_step (lb HB.out) hb); have n4_ := Aside0.mk (hbox); have n5_ := Aside0.mk ((by rw [hg]; exact (below_size (lb HB.out)) : w.heap.size ≤ gb344)); have n6_ := Aside0.mk ((by rw [hg]; exact (below_size (lb HB.out)) : w.heap.size ≤ gb344)); have n7_ := Aside0.mk ((by rw [hg]; exact Nat.ne_of_lt (blk_lt (bf BK338.out)) : gb338 ≠ gb344)); have n8_ := Aside0.mk ((by rw [hg]; exact Nat.ne_of_gt (blk_lt (bf BK338.out)) : gb344 ≠ gb338)); have n9_ := Aside0.mk ((by rw [hg]; exact Nat.ne_of_lt (blk_lt (bf BK340.out)) : gb340 ≠ gb344)); have n10_ := Aside0.mk ((by rw [hg]; exact Nat.ne_of_gt (blk_lt (bf BK340.out)) : gb344 ≠ gb340)); have n11_ := Aside0.mk ((by rw [hg]; exact Nat.ne_of_lt (blk_lt (bp BK342.out)) : gb342 ≠ gb344)); have n12_ := Aside0.mk ((by rw [hg]; exact Nat.ne_of_gt (blk_lt (bp BK342.out)) : gb344 ≠ gb342)); clear BK338; clear BK340; clear BK342; clear HB; have BK338 := n0_; have BK340 := n1_; have BK342 := n2_; have HB := n3_; have BK344 := n4_; have GW344 := n5_; have GE344 := n6_; have NB338_344 := n7_; have NB344_338 := n8_; have NB340_344 := n9_; have NB344_340 := n10_; have NB342_344 := n11_; have NB344_342 := n12_; clear n0_ n1_ n2_ n3_ n4_ n5_ n6_ n7_ n8_ n9_ n10_ n11_ n12_; clear hb hbox hg; have hnb47 := NB344_338.out; have hnc47 := NB338_344.out; have hnb48 := NB344_340.out; have hnc48 := NB340_344.out; have hnb49 := NB344_342.out; have hnc49 := NB342_344.out; have hcz50_0 : w46.cell? ⟨gb344, 0, none⟩ = some (.int .i64 0) := (blk_cell BK344.out 0).trans rfl; have hcz50_1 : w46.cell? ⟨gb344, 1, none⟩ = some (.int .i64 0) := (blk_cell BK344.out 1).trans rfl; have hfz50_0 := blk_frozen BK344.out 0; have hfz50_1 := blk_frozen BK344.out 1; have hcz51_0 : w46.cell? ⟨gb342, 0, none⟩ = some (.int .i64 ((rd_T33 l0 x5_2).f0)) := (blk_cell BK342.out 0).trans rfl; have hcz51_1 : w46.cell? ⟨gb342, 1, none⟩ = some (.int .i64 ((rd_T33 l0 x5_2).f1)) := (blk_cell BK342.out 1).trans rfl; have hfz51_0 := blk_frozen BK342.out 0; have hfz51_1 := blk_frozen BK342.out 1; have hcz52_0 : w46.cell? ⟨gb338, 0, none⟩ = some (.int .i64 ((rd_T33 l0 x4_1).f0)) := (blk_cell BK338.out 0).trans rfl; have hcz52_1 : w46.cell? ⟨gb338, 1, none⟩ = some (.int .i64 ((rd_T33 l0 x4_1).f1)) := (blk_cell BK338.out 1).trans rfl; have hfz52_0 := blk_frozen BK338.out 0; have hfz52_1 := blk_frozen BK338.out 1))
                    go_ret
                    exact ⟨by first | rfl | (simp [errW_none, errW_some] <;> rfl) | (simp only [← hji10, ← hji15]; first | rfl | (simp [errW_none, errW_some] <;> rfl)) | (simp [*, errW_none, errW_some] <;> rfl), lb HB.out⟩
                   ·rw [if_neg c36] at H
                    have c36b0 : (((rd_T33 l0 (ji15)).f0) == ((rd_T33 l0 x5_2).f0) && (((rd_T33 l0 (ji15)).f1) == ((rd_T33 l0 x5_2).f1))) = false := by simpa using c36
                    (try (have c36b1 : decide (((rd_T33 l0 (ji15)).f0) = ((rd_T33 l0 x5_2).f0) && (((rd_T33 l0 (ji15)).f1) == ((rd_T33 l0 x5_2).f1))) = false := by simpa using c36))
                    (try (have c36b2 : (((rd_T33 l0 (ji15)).f0) == ((rd_T33 l0 x5_2).f0) && (((rd_T33 l0 (ji15)).f1) == ((rd_T33 l0 x5_2).f1))) = false := by simpa using c36))
                    (try (have c36b3 : ¬ (((rd_T33 l0 (ji15)).f0) = ((rd_T33 l0 x5_2).f0) && (((rd_T33 l0 (ji15)).f1) == ((rd_T33 l0 x5_2).f1))) := by simpa using c36))
                    clear c36
                    replace H := Option.bind_eq_some_iff.mp H
                    obtain ⟨t345, A530, H⟩ := H
                    replace H : (if t345 = true then (some false) else ((spec_l2On.f ((rd_T33 l0 x5_2).f0) ((rd_T33 l0 x5_2).f1) ((rd_T33 l0 (ji15)).f0) ((rd_T33 l0 (ji15)).f1) ((rd_T33 l0 x4_1).f0) ((rd_T33 l0 x4_1).f1)).bind fun t346 => (if t346 = true then (some false) else (spec_PolyValid.l1 k2 l0 (l0.length : Int) x4_1 (wrap64 (x5_2 + 1)))))) = some r := H
                    have A53 := Aside0.mk A530
                    clear A530
                    by_cases c54 : t345 = true
                    ·subst c54
                     have H1 : (some false) = some r := by rw [if_pos rfl] at H; exact H
                     clear H
                     have H := H1
                     clear H1
                     obtain rfl := Option.some.inj H
                     have p337 : 0 ≤ (x4_1 : Int) := oa
                     have q337 : x4_1 < (l0.length : Int) := oa
                     obtain ⟨ad337, e337, hx337_0, hx337_1⟩ := at_T33 HR0.out x4_1 p337 q337
                     cases e337
                     replace hx337_0 := (HB.out.cell (World.block_lt_of_cell? w _ hx337_0)).trans hx337_0
                     replace hx337_1 := (HB.out.cell (World.block_lt_of_cell? w _ hx337_1)).trans hx337_1
                     replace p337 := eq_true p337
                     replace q337 := eq_true q337
                     go_wp2_with (first | ((with_reducible refine gate_dst (N := 6) rfl ?_); refine bx_ 6 (cs := #[.int .i64 0, .int .i64 0]) (t := 33) ?_; intro gb338 hg w55 hbox hb; have n0_ := Aside0.mk (below_step (lb HB.out) hb); have n1_ := Aside0.mk (hbox); have n2_ := Aside0.mk ((by rw [hg]; exact (below_size (lb HB.out)) : w.heap.size ≤ gb338)); have n3_ := Aside0.mk ((by rw [hg]; exact (below_size (lb HB.out)) : w.heap.size ≤ gb338)); clear HB; have HB := n0_; have BK338 := n1_; have GW338 := n2_; have GE338 := n3_; clear n0_ n1_ n2_ n3_; clear hb hbox hg; have hcz56_0 : w55.cell? ⟨gb338, 0, none⟩ = some (.int .i64 0) := (blk_cell BK338.out 0).trans rfl; have hcz56_1 : w55.cell? ⟨gb338, 1, none⟩ = some (.int .i64 0) := (blk_cell BK338.out 1).trans rfl; have hfz56_0 := blk_frozen BK338.out 0; have hfz56_1 := blk_frozen BK338.out 1; have p339 : 0 ≤ ((ji10) : Int) := oa; have q339 : (ji10) < (l0.length : Int) := oa; obtain ⟨ad339, e339, hx339_0, hx339_1⟩ := at_T33 HR0.out (ji10) p339 q339; obtain rfl : ad337 = ad339 := (by injection e339); have hn339_0 : ad337.block ≠ gb338 := Nat.ne_of_lt (cl hx339_0 GW338.out); have hn339_1 : ad337.block ≠ gb338 := Nat.ne_of_lt (cl hx339_0 GW338.out); replace hx339_0 := (HB.out.cell (World.block_lt_of_cell? w _ hx339_0)).trans hx339_0; replace hx339_1 := (HB.out.cell (World.block_lt_of_cell? w _ hx339_1)).trans hx339_1; replace hx339_0 := (cell_far (p := ⟨gb338, 0, none⟩) (nb hn339_0) (.int .i64 ((rd_T33 l0 x4_1).f0))).trans hx339_0; replace hx339_1 := (cell_far (p := ⟨gb338, 0, none⟩) (nb hn339_0) (.int .i64 ((rd_T33 l0 x4_1).f0))).trans hx339_1; replace hx339_0 := (cell_far (p := ⟨gb338, 1, none⟩) (nb hn339_1) (.int .i64 ((rd_T33 l0 x4_1).f1))).trans hx339_0; replace hx339_1 := (cell_far (p := ⟨gb338, 1, none⟩) (nb hn339_1) (.int .i64 ((rd_T33 l0 x4_1).f1))).trans hx339_1; clear hn339_0; clear hn339_1; replace p339 := eq_true p339; replace q339 := eq_true q339) | ((with_reducible refine gate_dst (N := 7) rfl ?_); refine bx_ 7 (cs := #[.int .i64 0, .int .i64 0]) (t := 33) ?_; intro gb340 hg w57 hbox hb; have n0_ := Aside0.mk (blk_below (bp BK338.out) hb); have n1_ := Aside0.mk (below_step (lb HB.out) hb); have n2_ := Aside0.mk (hbox); have n3_ := Aside0.mk ((by rw [hg]; exact (below_size (lb HB.out)) : w.heap.size ≤ gb340)); have n4_ := Aside0.mk ((by rw [hg]; exact (below_size (lb HB.out)) : w.heap.size ≤ gb340)); have n5_ := Aside0.mk ((by rw [hg]; exact Nat.ne_of_lt (blk_lt (bp BK338.out)) : gb338 ≠ gb340)); have n6_ := Aside0.mk ((by rw [hg]; exact Nat.ne_of_gt (blk_lt (bp BK338.out)) : gb340 ≠ gb338)); clear BK338; clear HB; have BK338 := n0_; have HB := n1_; have BK340 := n2_; have GW340 := n3_; have GE340 := n4_; have NB338_340 := n5_; have NB340_338 := n6_; clear n0_ n1_ n2_ n3_ n4_ n5_ n6_; clear hb hbox hg; have hnb58 := NB340_338.out; have hnc58 := NB338_340.out; have hcz59_0 : w57.cell? ⟨gb340, 0, none⟩ = some (.int .i64 0) := (blk_cell BK340.out 0).trans rfl; have hcz59_1 : w57.cell? ⟨gb340, 1, none⟩ = some (.int .i64 0) := (blk_cell BK340.out 1).trans rfl; have hfz59_0 := blk_frozen BK340.out 0; have hfz59_1 := blk_frozen BK340.out 1; have p341 : 0 ≤ (x5_2 : Int) := oa; have q341 : x5_2 < (l0.length : Int) := oa; obtain ⟨ad341, e341, hx341_0, hx341_1⟩ := at_T33 HR0.out x5_2 p341 q341; obtain rfl : ad337 = ad341 := (by injection e341); have hn341_0 : ad337.block ≠ gb340 := Nat.ne_of_lt (cl hx341_0 GW340.out); have hn341_1 : ad337.block ≠ gb340 := Nat.ne_of_lt (cl hx341_0 GW340.out); replace hx341_0 := (HB.out.cell (World.block_lt_of_cell? w _ hx341_0)).trans hx341_0; replace hx341_1 := (HB.out.cell (World.block_lt_of_cell? w _ hx341_1)).trans hx341_1; replace hx341_0 := (cell_far (p := ⟨gb340, 0, none⟩) (nb hn341_0) (.int .i64 ((rd_T33 l0 (ji10)).f0))).trans hx341_0; replace hx341_1 := (cell_far (p := ⟨gb340, 0, none⟩) (nb hn341_0) (.int .i64 ((rd_T33 l0 (ji10)).f0))).trans hx341_1; replace hx341_0 := (cell_far (p := ⟨gb340, 1, none⟩) (nb hn341_1) (.int .i64 ((rd_T33 l0 (ji10)).f1))).trans hx341_0; replace hx341_1 := (cell_far (p := ⟨gb340, 1, none⟩) (nb hn341_1) (.int .i64 ((rd_T33 l0 (ji10)).f1))).trans hx341_1; clear hn341_0; clear hn341_1; replace p341 := eq_true p341; replace q341 := eq_true q341) | ((with_reducible refine gate_dst (N := 8) rfl ?_); refine bx_ 8 (cs := #[.int .i64 0, .int .i64 0]) (t := 33) ?_; intro gb342 hg w60 hbox hb; have n0_ := Aside0.mk (blk_below (bf BK338.out) hb); have n1_ := Aside0.mk (blk_below (bp BK340.out) hb); have n2_ := Aside0.mk (below_step (lb HB.out) hb); have n3_ := Aside0.mk (hbox); have n4_ := Aside0.mk ((by rw [hg]; exact (below_size (lb HB.out)) : w.heap.size ≤ gb342)); have n5_ := Aside0.mk ((by rw [hg]; exact (below_size (lb HB.out)) : w.heap.size ≤ gb342)); have n6_ := Aside0.mk ((by rw [hg]; exact Nat.ne_of_lt (blk_lt (bf BK338.out)) : gb338 ≠ gb342)); have n7_ := Aside0.mk ((by rw [hg]; exact Nat.ne_of_gt (blk_lt (bf BK338.out)) : gb342 ≠ gb338)); have n8_ := Aside0.mk ((by rw [hg]; exact Nat.ne_of_lt (blk_lt (bp BK340.out)) : gb340 ≠ gb342)); have n9_ := Aside0.mk ((by rw [hg]; exact Nat.ne_of_gt (blk_lt (bp BK340.out)) : gb342 ≠ gb340)); clear BK338; clear BK340; clear HB; have BK338 := n0_; have BK340 := n1_; have HB := n2_; have BK342 := n3_; have GW342 := n4_; have GE342 := n5_; have NB338_342 := n6_; have NB342_338 := n7_; have NB340_342 := n8_; have NB342_340 := n9_; clear n0_ n1_ n2_ n3_ n4_ n5_ n6_ n7_ n8_ n9_; clear hb hbox hg; have hnb61 := NB342_338.out; have hnc61 := NB338_342.out; have hnb62 := NB342_340.out; have hnc62 := NB340_342.out; have hcz63_0 : w60.cell? ⟨gb342, 0, none⟩ = some (.int .i64 0) := (blk_cell BK342.out 0).trans rfl; have hcz63_1 : w60.cell? ⟨gb342, 1, none⟩ = some (.int .i64 0) := (blk_cell BK342.out 1).trans rfl; have hfz63_0 := blk_frozen BK342.out 0; have hfz63_1 := blk_frozen BK342.out 1; have p343 : 0 ≤ ((ji15) : Int) := oa; have q343 : (ji15) < (l0.length : Int) := oa; obtain ⟨ad343, e343, hx343_0, hx343_1⟩ := at_T33 HR0.out (ji15) p343 q343; obtain rfl : ad337 = ad343 := (by injection e343); have hn343_0 : ad337.block ≠ gb342 := Nat.ne_of_lt (cl hx343_0 GW342.out); have hn343_1 : ad337.block ≠ gb342 := Nat.ne_of_lt (cl hx343_0 GW342.out); replace hx343_0 := (HB.out.cell (World.block_lt_of_cell? w _ hx343_0)).trans hx343_0; replace hx343_1 := (HB.out.cell (World.block_lt_of_cell? w _ hx343_1)).trans hx343_1; replace hx343_0 := (cell_far (p := ⟨gb342, 0, none⟩) (nb hn343_0) (.int .i64 ((rd_T33 l0 x5_2).f0))).trans hx343_0; replace hx343_1 := (cell_far (p := ⟨gb342, 0, none⟩) (nb hn343_0) (.int .i64 ((rd_T33 l0 x5_2).f0))).trans hx343_1; replace hx343_0 := (cell_far (p := ⟨gb342, 1, none⟩) (nb hn343_1) (.int .i64 ((rd_T33 l0 x5_2).f1))).trans hx343_0; replace hx343_1 := (cell_far (p := ⟨gb342, 1, none⟩) (nb hn343_1) (.int .i64 ((rd_T33 l0 x5_2).f1))).trans hx343_1; clear hn343_0; clear hn343_1; replace p343 := eq_true p343; replace q343 := eq_true q343) | ((with_reducible refine gate_dst (N := 9) rfl ?_); refine bx_ 9 (cs := #[.int .i64 0, .int .i64 0]) (t := 33) ?_; intro gb344 hg w64 hbox hb; have n0_ := Aside0.mk (blk_below (bf BK338.out) hb); have n1_ := Aside0.mk (blk_below (bf BK340.out) hb); have n2_ := Aside0.mk (blk_below (bp BK342.out) hb); have n3_ := Aside0.mk (below_step (lb HB.out) hb); have n4_ := Aside0.mk (hbox); have n5_ := Aside0.mk ((by rw [hg]; exact (below_size (lb HB.out)) : w.heap.size ≤ gb344)); have n6_ := Aside0.mk ((by rw [hg]; exact (below_size (lb HB.out)) : w.heap.size ≤ gb344)); have n7_ := Aside0.mk ((by rw [hg]; exact Nat.ne_of_lt (blk_lt (bf BK338.out)) : gb338 ≠ gb344)); have n8_ := Aside0.mk ((by rw [hg]; exact Nat.ne_of_gt (blk_lt (bf BK338.out)) : gb344 ≠ gb338)); have n9_ := Aside0.mk ((by rw [hg]; exact Nat.ne_of_lt (blk_lt (bf BK340.out)) : gb340 ≠ gb344)); have n10_ := Aside0.mk ((by rw [hg]; exact Nat.ne_of_gt (blk_lt (bf BK340.out)) : gb344 ≠ gb340)); have n11_ := Aside0.mk ((by rw [hg]; exact Nat.ne_of_lt (blk_lt (bp BK342.out)) : gb342 ≠ gb344)); have n12_ := Aside0.mk ((by rw [hg]; exact Nat.ne_of_gt (blk_lt (bp BK342.out)) : gb344 ≠ gb342)); clear BK338; clear BK340; clear BK342; clear HB; have BK338 := n0_; have BK340 := n1_; have BK342 := n2_; have HB := n3_; have BK344 := n4_; have GW344 := n5_; have GE344 := n6_; have NB338_344 := n7_; have NB344_338 := n8_; have NB340_344 := n9_; have NB344_340 := n10_; have NB342_344 := n11_; have NB344_342 := n12_; clear n0_ n1_ n2_ n3_ n4_ n5_ n6_ n7_ n8_ n9_ n10_ n11_ n12_; clear hb hbox hg; have hnb65 := NB344_338.out; have hnc65 := NB338_344.out; have hnb66 := NB344_340.out; have hnc66 := NB340_344.out; have hnb67 := NB344_342.out; have hnc67 := NB342_344.out; have hcz68_0 : w64.cell? ⟨gb344, 0, none⟩ = some (.int .i64 0) := (blk_cell BK344.out 0).trans rfl; have hcz68_1 : w64.cell? ⟨gb344, 1, none⟩ = some (.int .i64 0) := (blk_cell BK344.out 1).trans rfl; have hfz68_0 := blk_frozen BK344.out 0; have hfz68_1 := blk_frozen BK344.out 1; have hcz69_0 : w64.cell? ⟨gb342, 0, none⟩ = some (.int .i64 ((rd_T33 l0 x5_2).f0)) := (blk_cell BK342.out 0).trans rfl; have hcz69_1 : w64.cell? ⟨gb342, 1, none⟩ = some (.int .i64 ((rd_T33 l0 x5_2).f1)) := (blk_cell BK342.out 1).trans rfl; have hfz69_0 := blk_frozen BK342.out 0; have hfz69_1 := blk_frozen BK342.out 1; have hcz70_0 : w64.cell? ⟨gb338, 0, none⟩ = some (.int .i64 ((rd_T33 l0 x4_1).f0)) := (blk_cell BK338.out 0).trans rfl; have hcz70_1 : w64.cell? ⟨gb338, 1, none⟩ = some (.int .i64 ((rd_T33 l0 x4_1).f1)) := (blk_cell BK338.out 1).trans rfl; have hfz70_0 := blk_frozen BK338.out 0; have hfz70_1 := blk_frozen BK338.out 1; have hcz71_0 : w64.cell? ⟨gb340, 0, none⟩ = some (.int .i64 ((rd_T33 l0 (ji10)).f0)) := (blk_cell BK340.out 0).trans rfl; have hcz71_1 : w64.cell? ⟨gb340, 1, none⟩ = some (.int .i64 ((rd_T33 l0 (ji10)).f1)) := (blk_cell BK340.out 1).trans rfl; have hfz71_0 := blk_frozen BK340.out 0; have hfz71_1 := blk_frozen BK340.out 1) | (go_at_call 87; (with_reducible refine (spec_l2On.calls ((rd_T33 l0 x4_1).f0) ((rd_T33 l0 x4_1).f1) ((rd_T33 l0 (ji10)).f0) ((rd_T33 l0 (ji10)).f1) ((rd_T33 l0 (ji15)).f0) ((rd_T33 l0 (ji15)).f1) true _ A53.out).mono ?_); rintro e w72 ⟨rfl, hb⟩; have n0_ := Aside0.mk (blk_below (bf BK338.out) hb); have n1_ := Aside0.mk (blk_below (bf BK340.out) hb); have n2_ := Aside0.mk (blk_below (bf BK342.out) hb); have n3_ := Aside0.mk (blk_below (bp BK344.out) hb); have n4_ := Aside0.mk (below_step (lb HB.out) hb); clear BK338; clear BK340; clear BK342; clear BK344; clear HB; have BK338 := n0_; have BK340 := n1_; have BK342 := n2_; have BK344 := n3_; have HB := n4_; clear n0_ n1_ n2_ n3_ n4_; (try clear hb); (try clear hb2); (try clear hk); (try clear hi)))
                     go_ret
                     exact ⟨by first | rfl | (simp [errW_none, errW_some] <;> rfl) | (simp only [← hji10, ← hji15]; first | rfl | (simp [errW_none, errW_some] <;> rfl)) | (simp [*, errW_none, errW_some] <;> rfl), lb HB.out⟩
                    ·replace c54 := Bool.eq_false_iff.mpr c54
                     subst c54
                     have H1 : ((spec_l2On.f ((rd_T33 l0 x5_2).f0) ((rd_T33 l0 x5_2).f1) ((rd_T33 l0 (ji15)).f0) ((rd_T33 l0 (ji15)).f1) ((rd_T33 l0 x4_1).f0) ((rd_T33 l0 x4_1).f1)).bind fun t346 => (if t346 = true then (some false) else (spec_PolyValid.l1 k2 l0 (l0.length : Int) x4_1 (wrap64 (x5_2 + 1))))) = some r := by rw [if_neg (show ¬ (false = true) by decide)] at H; exact H
                     clear H
                     have H := H1
                     clear H1
                     replace H := Option.bind_eq_some_iff.mp H
                     obtain ⟨t346, A730, H⟩ := H
                     replace H : (if t346 = true then (some false) else (spec_PolyValid.l1 k2 l0 (l0.length : Int) x4_1 (wrap64 (x5_2 + 1)))) = some r := H
                     have A73 := Aside0.mk A730
                     clear A730
                     by_cases c74 : t346 = true
                     ·subst c74
                      have H1 : (some false) = some r := by rw [if_pos rfl] at H; exact H
                      clear H
                      have H := H1
                      clear H1
                      obtain rfl := Option.some.inj H
                      have p337 : 0 ≤ (x4_1 : Int) := oa
                      have q337 : x4_1 < (l0.length : Int) := oa
                      obtain ⟨ad337, e337, hx337_0, hx337_1⟩ := at_T33 HR0.out x4_1 p337 q337
                      cases e337
                      replace hx337_0 := (HB.out.cell (World.block_lt_of_cell? w _ hx337_0)).trans hx337_0
                      replace hx337_1 := (HB.out.cell (World.block_lt_of_cell? w _ hx337_1)).trans hx337_1
                      replace p337 := eq_true p337
                      replace q337 := eq_true q337
                      go_wp2_with (first | ((with_reducible refine gate_dst (N := 6) rfl ?_); refine bx_ 6 (cs := #[.int .i64 0, .int .i64 0]) (t := 33) ?_; intro gb338 hg w75 hbox hb; have n0_ := Aside0.mk (below_step (lb HB.out) hb); have n1_ := Aside0.mk (hbox); have n2_ := Aside0.mk ((by rw [hg]; exact (below_size (lb HB.out)) : w.heap.size ≤ gb338)); have n3_ := Aside0.mk ((by rw [hg]; exact (below_size (lb HB.out)) : w.heap.size ≤ gb338)); clear HB; have HB := n0_; have BK338 := n1_; have GW338 := n2_; have GE338 := n3_; clear n0_ n1_ n2_ n3_; clear hb hbox hg; have hcz76_0 : w75.cell? ⟨gb338, 0, none⟩ = some (.int .i64 0) := (blk_cell BK338.out 0).trans rfl; have hcz76_1 : w75.cell? ⟨gb338, 1, none⟩ = some (.int .i64 0) := (blk_cell BK338.out 1).trans rfl; have hfz76_0 := blk_frozen BK338.out 0; have hfz76_1 := blk_frozen BK338.out 1; have p339 : 0 ≤ ((ji10) : Int) := oa; have q339 : (ji10) < (l0.length : Int) := oa; obtain ⟨ad339, e339, hx339_0, hx339_1⟩ := at_T33 HR0.out (ji10) p339 q339; obtain rfl : ad337 = ad339 := (by injection e339); have hn339_0 : ad337.block ≠ gb338 := Nat.ne_of_lt (cl hx339_0 GW338.out); have hn339_1 : ad337.block ≠ gb338 := Nat.ne_of_lt (cl hx339_0 GW338.out); replace hx339_0 := (HB.out.cell (World.block_lt_of_cell? w _ hx339_0)).trans hx339_0; replace hx339_1 := (HB.out.cell (World.block_lt_of_cell? w _ hx339_1)).trans hx339_1; replace hx339_0 := (cell_far (p := ⟨gb338, 0, none⟩) (nb hn339_0) (.int .i64 ((rd_T33 l0 x4_1).f0))).trans hx339_0; replace hx339_1 := (cell_far (p := ⟨gb338, 0, none⟩) (nb hn339_0) (.int .i64 ((rd_T33 l0 x4_1).f0))).trans hx339_1; replace hx339_0 := (cell_far (p := ⟨gb338, 1, none⟩) (nb hn339_1) (.int .i64 ((rd_T33 l0 x4_1).f1))).trans hx339_0; replace hx339_1 := (cell_far (p := ⟨gb338, 1, none⟩) (nb hn339_1) (.int .i64 ((rd_T33 l0 x4_1).f1))).trans hx339_1; clear hn339_0; clear hn339_1; replace p339 := eq_true p339; replace q339 := eq_true q339) | ((with_reducible refine gate_dst (N := 7) rfl ?_); refine bx_ 7 (cs := #[.int .i64 0, .int .i64 0]) (t := 33) ?_; intro gb340 hg w77 hbox hb; have n0_ := Aside0.mk (blk_below (bp BK338.out) hb); have n1_ := Aside0.mk (below_step (lb HB.out) hb); have n2_ := Aside0.mk (hbox); have n3_ := Aside0.mk ((by rw [hg]; exact (below_size (lb HB.out)) : w.heap.size ≤ gb340)); have n4_ := Aside0.mk ((by rw [hg]; exact (below_size (lb HB.out)) : w.heap.size ≤ gb340)); have n5_ := Aside0.mk ((by rw [hg]; exact Nat.ne_of_lt (blk_lt (bp BK338.out)) : gb338 ≠ gb340)); have n6_ := Aside0.mk ((by rw [hg]; exact Nat.ne_of_gt (blk_lt (bp BK338.out)) : gb340 ≠ gb338)); clear BK338; clear HB; have BK338 := n0_; have HB := n1_; have BK340 := n2_; have GW340 := n3_; have GE340 := n4_; have NB338_340 := n5_; have NB340_338 := n6_; clear n0_ n1_ n2_ n3_ n4_ n5_ n6_; clear hb hbox hg; have hnb78 := NB340_338.out; have hnc78 := NB338_340.out; have hcz79_0 : w77.cell? ⟨gb340, 0, none⟩ = some (.int .i64 0) := (blk_cell BK340.out 0).trans rfl; have hcz79_1 : w77.cell? ⟨gb340, 1, none⟩ = some (.int .i64 0) := (blk_cell BK340.out 1).trans rfl; have hfz79_0 := blk_frozen BK340.out 0; have hfz79_1 := blk_frozen BK340.out 1; have p341 : 0 ≤ (x5_2 : Int) := oa; have q341 : x5_2 < (l0.length : Int) := oa; obtain ⟨ad341, e341, hx341_0, hx341_1⟩ := at_T33 HR0.out x5_2 p341 q341; obtain rfl : ad337 = ad341 := (by injection e341); have hn341_0 : ad337.block ≠ gb340 := Nat.ne_of_lt (cl hx341_0 GW340.out); have hn341_1 : ad337.block ≠ gb340 := Nat.ne_of_lt (cl hx341_0 GW340.out); replace hx341_0 := (HB.out.cell (World.block_lt_of_cell? w _ hx341_0)).trans hx341_0; replace hx341_1 := (HB.out.cell (World.block_lt_of_cell? w _ hx341_1)).trans hx341_1; replace hx341_0 := (cell_far (p := ⟨gb340, 0, none⟩) (nb hn341_0) (.int .i64 ((rd_T33 l0 (ji10)).f0))).trans hx341_0; replace hx341_1 := (cell_far (p := ⟨gb340, 0, none⟩) (nb hn341_0) (.int .i64 ((rd_T33 l0 (ji10)).f0))).trans hx341_1; replace hx341_0 := (cell_far (p := ⟨gb340, 1, none⟩) (nb hn341_1) (.int .i64 ((rd_T33 l0 (ji10)).f1))).trans hx341_0; replace hx341_1 := (cell_far (p := ⟨gb340, 1, none⟩) (nb hn341_1) (.int .i64 ((rd_T33 l0 (ji10)).f1))).trans hx341_1; clear hn341_0; clear hn341_1; replace p341 := eq_true p341; replace q341 := eq_true q341) | ((with_reducible refine gate_dst (N := 8) rfl ?_); refine bx_ 8 (cs := #[.int .i64 0, .int .i64 0]) (t := 33) ?_; intro gb342 hg w80 hbox hb; have n0_ := Aside0.mk (blk_below (bf BK338.out) hb); have n1_ := Aside0.mk (blk_below (bp BK340.out) hb); have n2_ := Aside0.mk (below_step (lb HB.out) hb); have n3_ := Aside0.mk (hbox); have n4_ := Aside0.mk ((by rw [hg]; exact (below_size (lb HB.out)) : w.heap.size ≤ gb342)); have n5_ := Aside0.mk ((by rw [hg]; exact (below_size (lb HB.out)) : w.heap.size ≤ gb342)); have n6_ := Aside0.mk ((by rw [hg]; exact Nat.ne_of_lt (blk_lt (bf BK338.out)) : gb338 ≠ gb342)); have n7_ := Aside0.mk ((by rw [hg]; exact Nat.ne_of_gt (blk_lt (bf BK338.out)) : gb342 ≠ gb338)); have n8_ := Aside0.mk ((by rw [hg]; exact Nat.ne_of_lt (blk_lt (bp BK340.out)) : gb340 ≠ gb342)); have n9_ := Aside0.mk ((by rw [hg]; exact Nat.ne_of_gt (blk_lt (bp BK340.out)) : gb342 ≠ gb340)); clear BK338; clear BK340; clear HB; have BK338 := n0_; have BK340 := n1_; have HB := n2_; have BK342 := n3_; have GW342 := n4_; have GE342 := n5_; have NB338_342 := n6_; have NB342_338 := n7_; have NB340_342 := n8_; have NB342_340 := n9_; clear n0_ n1_ n2_ n3_ n4_ n5_ n6_ n7_ n8_ n9_; clear hb hbox hg; have hnb81 := NB342_338.out; have hnc81 := NB338_342.out; have hnb82 := NB342_340.out; have hnc82 := NB340_342.out; have hcz83_0 : w80.cell? ⟨gb342, 0, none⟩ = some (.int .i64 0) := (blk_cell BK342.out 0).trans rfl; have hcz83_1 : w80.cell? ⟨gb342, 1, none⟩ = some (.int .i64 0) := (blk_cell BK342.out 1).trans rfl; have hfz83_0 := blk_frozen BK342.out 0; have hfz83_1 := blk_frozen BK342.out 1; have p343 : 0 ≤ ((ji15) : Int) := oa; have q343 : (ji15) < (l0.length : Int) := oa; obtain ⟨ad343, e343, hx343_0, hx343_1⟩ := at_T33 HR0.out (ji15) p343 q343; obtain rfl : ad337 = ad343 := (by injection e343); have hn343_0 : ad337.block ≠ gb342 := Nat.ne_of_lt (cl hx343_0 GW342.out); have hn343_1 : ad337.block ≠ gb342 := Nat.ne_of_lt (cl hx343_0 GW342.out); replace hx343_0 := (HB.out.cell (World.block_lt_of_cell? w _ hx343_0)).trans hx343_0; replace hx343_1 := (HB.out.cell (World.block_lt_of_cell? w _ hx343_1)).trans hx343_1; replace hx343_0 := (cell_far (p := ⟨gb342, 0, none⟩) (nb hn343_0) (.int .i64 ((rd_T33 l0 x5_2).f0))).trans hx343_0; replace hx343_1 := (cell_far (p := ⟨gb342, 0, none⟩) (nb hn343_0) (.int .i64 ((rd_T33 l0 x5_2).f0))).trans hx343_1; replace hx343_0 := (cell_far (p := ⟨gb342, 1, none⟩) (nb hn343_1) (.int .i64 ((rd_T33 l0 x5_2).f1))).trans hx343_0; replace hx343_1 := (cell_far (p := ⟨gb342, 1, none⟩) (nb hn343_1) (.int .i64 ((rd_T33 l0 x5_2).f1))).trans hx343_1; clear hn343_0; clear hn343_1; replace p343 := eq_true p343; replace q343 := eq_true q343) | ((with_reducible refine gate_dst (N := 9) rfl ?_); refine bx_ 9 (cs := #[.int .i64 0, .int .i64 0]) (t := 33) ?_; intro gb344 hg w84 hbox hb; have n0_ := Aside0.mk (blk_below (bf BK338.out) hb); have n1_ := Aside0.mk (blk_below (bf BK340.out) hb); have n2_ := Aside0.mk (blk_below (bp BK342.out) hb); have n3_ := Aside0.mk (below_step (lb HB.out) hb); have n4_ := Aside0.mk (hbox); have n5_ := Aside0.mk ((by rw [hg]; exact (below_size (lb HB.out)) : w.heap.size ≤ gb344)); have n6_ := Aside0.mk ((by rw [hg]; exact (below_size (lb HB.out)) : w.heap.size ≤ gb344)); have n7_ := Aside0.mk ((by rw [hg]; exact Nat.ne_of_lt (blk_lt (bf BK338.out)) : gb338 ≠ gb344)); have n8_ := Aside0.mk ((by rw [hg]; exact Nat.ne_of_gt (blk_lt (bf BK338.out)) : gb344 ≠ gb338)); have n9_ := Aside0.mk ((by rw [hg]; exact Nat.ne_of_lt (blk_lt (bf BK340.out)) : gb340 ≠ gb344)); have n10_ := Aside0.mk ((by rw [hg]; exact Nat.ne_of_gt (blk_lt (bf BK340.out)) : gb344 ≠ gb340)); have n11_ := Aside0.mk ((by rw [hg]; exact Nat.ne_of_lt (blk_lt (bp BK342.out)) : gb342 ≠ gb344)); have n12_ := Aside0.mk ((by rw [hg]; exact Nat.ne_of_gt (blk_lt (bp BK342.out)) : gb344 ≠ gb342)); clear BK338; clear BK340; clear BK342; clear HB; have BK338 := n0_; have BK340 := n1_; have BK342 := n2_; have HB := n3_; have BK344 := n4_; have GW344 := n5_; have GE344 := n6_; have NB338_344 := n7_; have NB344_338 := n8_; have NB340_344 := n9_; have NB344_340 := n10_; have NB342_344 := n11_; have NB344_342 := n12_; clear n0_ n1_ n2_ n3_ n4_ n5_ n6_ n7_ n8_ n9_ n10_ n11_ n12_; clear hb hbox hg; have hnb85 := NB344_338.out; have hnc85 := NB338_344.out; have hnb86 := NB344_340.out; have hnc86 := NB340_344.out; have hnb87 := NB344_342.out; have hnc87 := NB342_344.out; have hcz88_0 : w84.cell? ⟨gb344, 0, none⟩ = some (.int .i64 0) := (blk_cell BK344.out 0).trans rfl; have hcz88_1 : w84.cell? ⟨gb344, 1, none⟩ = some (.int .i64 0) := (blk_cell BK344.out 1).trans rfl; have hfz88_0 := blk_frozen BK344.out 0; have hfz88_1 := blk_frozen BK344.out 1; have hcz89_0 : w84.cell? ⟨gb342, 0, none⟩ = some (.int .i64 ((rd_T33 l0 x5_2).f0)) := (blk_cell BK342.out 0).trans rfl; have hcz89_1 : w84.cell? ⟨gb342, 1, none⟩ = some (.int .i64 ((rd_T33 l0 x5_2).f1)) := (blk_cell BK342.out 1).trans rfl; have hfz89_0 := blk_frozen BK342.out 0; have hfz89_1 := blk_frozen BK342.out 1; have hcz90_0 : w84.cell? ⟨gb338, 0, none⟩ = some (.int .i64 ((rd_T33 l0 x4_1).f0)) := (blk_cell BK338.out 0).trans rfl; have hcz90_1 : w84.cell? ⟨gb338, 1, none⟩ = some (.int .i64 ((rd_T33 l0 x4_1).f1)) := (blk_cell BK338.out 1).trans rfl; have hfz90_0 := blk_frozen BK338.out 0; have hfz90_1 := blk_frozen BK338.out 1; have hcz91_0 : w84.cell? ⟨gb340, 0, none⟩ = some (.int .i64 ((rd_T33 l0 (ji10)).f0)) := (blk_cell BK340.out 0).trans rfl; have hcz91_1 : w84.cell? ⟨gb340, 1, none⟩ = some (.int .i64 ((rd_T33 l0 (ji10)).f1)) := (blk_cell BK340.out 1).trans rfl; have hfz91_0 := blk_frozen BK340.out 0; have hfz91_1 := blk_frozen BK340.out 1) | (go_at_call 87; (with_reducible refine (spec_l2On.calls ((rd_T33 l0 x4_1).f0) ((rd_T33 l0 x4_1).f1) ((rd_T33 l0 (ji10)).f0) ((rd_T33 l0 (ji10)).f1) ((rd_T33 l0 (ji15)).f0) ((rd_T33 l0 (ji15)).f1) false _ A53.out).mono ?_); rintro e w92 ⟨rfl, hb⟩; have n0_ := Aside0.mk (blk_below (bf BK338.out) hb); have n1_ := Aside0.mk (blk_below (bf BK340.out) hb); have n2_ := Aside0.mk (blk_below (bf BK342.out) hb); have n3_ := Aside0.mk (blk_below (bp BK344.out) hb); have n4_ := Aside0.mk (below_step (lb HB.out) hb); clear BK338; clear BK340; clear BK342; clear BK344; clear HB; have BK338 := n0_; have BK340 := n1_; have BK342 := n2_; have BK344 := n3_; have HB := n4_; clear n0_ n1_ n2_ n3_ n4_; (try clear hb); (try clear hb2); (try clear hk); (try clear hi); have hcz93_0 : w92.cell? ⟨gb342, 0, none⟩ = some (.int .i64 ((rd_T33 l0 x5_2).f0)) := (blk_cell BK342.out 0).trans rfl; have hcz93_1 : w92.cell? ⟨gb342, 1, none⟩ = some (.int .i64 ((rd_T33 l0 x5_2).f1)) := (blk_cell BK342.out 1).trans rfl; have hfz93_0 := blk_frozen BK342.out 0; have hfz93_1 := blk_frozen BK342.out 1; have hcz94_0 : w92.cell? ⟨gb344, 0, none⟩ = some (.int .i64 ((rd_T33 l0 (ji15)).f0)) := (blk_cell BK344.out 0).trans rfl; have hcz94_1 : w92.cell? ⟨gb344, 1, none⟩ = some (.int .i64 ((rd_T33 l0 (ji15)).f1)) := (blk_cell BK344.out 1).trans rfl; have hfz94_0 := blk_frozen BK344.out 0; have hfz94_1 := blk_frozen BK344.out 1; have hcz95_0 : w92.cell? ⟨gb338, 0, none⟩ = some (.int .i64 ((rd_T33 l0 x4_1).f0)) := (blk_cell BK338.out 0).trans rfl; have hcz95_1 : w92.cell? ⟨gb338, 1, none⟩ = some (.int .i64 ((rd_T33 l0 x4_1).f1)) := (blk_cell BK338.out 1).trans rfl; have hfz95_0 := blk_frozen BK338.out 0; have hfz95_1 := blk_frozen BK338.out 1) | (go_at_call 87; (with_reducible refine (spec_l2On.calls ((rd_T33 l0 x5_2).f0) ((rd_T33 l0 x5_2).f1) ((rd_T33 l0 (ji15)).f0) ((rd_T33 l0 (ji15)).f1) ((rd_T33 l0 x4_1).f0) ((rd_T33 l0 x4_1).f1) true _ A73.out).mono ?_); rintro e w96 ⟨rfl, hb⟩; have n0_ := Aside0.mk (blk_below (bf BK338.out) hb); have n1_ := Aside0.mk (blk_below (bf BK340.out) hb); have n2_ := Aside0.mk (blk_below (bf BK342.out) hb); have n3_ := Aside0.mk (blk_below (bf BK344.out) hb); have n4_ := Aside0.mk (below_step (lb HB.out) hb); clear BK338; clear BK340; clear BK342; clear BK344; clear HB; have BK338 := n0_; have BK340 := n1_; have BK342 := n2_; have BK344 := n3_; have HB := n4_; clear n0_ n1_ n2_ n3_ n4_; (try clear hb); (try clear hb2); (try clear hk); (try clear hi)))
                      go_ret
                      exact ⟨by first | rfl | (simp [errW_none, errW_some] <;> rfl) | (simp only [← hji10, ← hji15]; first | rfl | (simp [errW_none, errW_some] <;> rfl)) | (simp [*, errW_none, errW_some] <;> rfl), lb HB.out⟩
                     ·replace c74 := Bool.eq_false_iff.mpr c74
                      subst c74
                      have H1 : (spec_PolyValid.l1 k2 l0 (l0.length : Int) x4_1 (wrap64 (x5_2 + 1))) = some r := by rw [if_neg (show ¬ (false = true) by decide)] at H; exact H
                      clear H
                      have H := H1
                      clear H1
                      have H' := Aside0.mk H
                      clear H
                      have p337 : 0 ≤ (x4_1 : Int) := oa
                      have q337 : x4_1 < (l0.length : Int) := oa
                      obtain ⟨ad337, e337, hx337_0, hx337_1⟩ := at_T33 HR0.out x4_1 p337 q337
                      cases e337
                      replace hx337_0 := (HB.out.cell (World.block_lt_of_cell? w _ hx337_0)).trans hx337_0
                      replace hx337_1 := (HB.out.cell (World.block_lt_of_cell? w _ hx337_1)).trans hx337_1
                      replace p337 := eq_true p337
                      replace q337 := eq_true q337
                      go_wp2_with (first | ((with_reducible refine gate_dst (N := 6) rfl ?_); refine bx_ 6 (cs := #[.int .i64 0, .int .i64 0]) (t := 33) ?_; intro gb338 hg w97 hbox hb; have n0_ := Aside0.mk (below_step (lb HB.out) hb); have n1_ := Aside0.mk (hbox); have n2_ := Aside0.mk ((by rw [hg]; exact (below_size (lb HB.out)) : w.heap.size ≤ gb338)); have n3_ := Aside0.mk ((by rw [hg]; exact (below_size (lb HB.out)) : w.heap.size ≤ gb338)); clear HB; have HB := n0_; have BK338 := n1_; have GW338 := n2_; have GE338 := n3_; clear n0_ n1_ n2_ n3_; clear hb hbox hg; have hcz98_0 : w97.cell? ⟨gb338, 0, none⟩ = some (.int .i64 0) := (blk_cell BK338.out 0).trans rfl; have hcz98_1 : w97.cell? ⟨gb338, 1, none⟩ = some (.int .i64 0) := (blk_cell BK338.out 1).trans rfl; have hfz98_0 := blk_frozen BK338.out 0; have hfz98_1 := blk_frozen BK338.out 1; have p339 : 0 ≤ ((ji10) : Int) := oa; have q339 : (ji10) < (l0.length : Int) := oa; obtain ⟨ad339, e339, hx339_0, hx339_1⟩ := at_T33 HR0.out (ji10) p339 q339; obtain rfl : ad337 = ad339 := (by injection e339); have hn339_0 : ad337.block ≠ gb338 := Nat.ne_of_lt (cl hx339_0 GW338.out); have hn339_1 : ad337.block ≠ gb338 := Nat.ne_of_lt (cl hx339_0 GW338.out); replace hx339_0 := (HB.out.cell (World.block_lt_of_cell? w _ hx339_0)).trans hx339_0; replace hx339_1 := (HB.out.cell (World.block_lt_of_cell? w _ hx339_1)).trans hx339_1; replace hx339_0 := (cell_far (p := ⟨gb338, 0, none⟩) (nb hn339_0) (.int .i64 ((rd_T33 l0 x4_1).f0))).trans hx339_0; replace hx339_1 := (cell_far (p := ⟨gb338, 0, none⟩) (nb hn339_0) (.int .i64 ((rd_T33 l0 x4_1).f0))).trans hx339_1; replace hx339_0 := (cell_far (p := ⟨gb338, 1, none⟩) (nb hn339_1) (.int .i64 ((rd_T33 l0 x4_1).f1))).trans hx339_0; replace hx339_1 := (cell_far (p := ⟨gb338, 1, none⟩) (nb hn339_1) (.int .i64 ((rd_T33 l0 x4_1).f1))).trans hx339_1; clear hn339_0; clear hn339_1; replace p339 := eq_true p339; replace q339 := eq_true q339) | ((with_reducible refine gate_dst (N := 7) rfl ?_); refine bx_ 7 (cs := #[.int .i64 0, .int .i64 0]) (t := 33) ?_; intro gb340 hg w99 hbox hb; have n0_ := Aside0.mk (blk_below (bp BK338.out) hb); have n1_ := Aside0.mk (below_step (lb HB.out) hb); have n2_ := Aside0.mk (hbox); have n3_ := Aside0.mk ((by rw [hg]; exact (below_size (lb HB.out)) : w.heap.size ≤ gb340)); have n4_ := Aside0.mk ((by rw [hg]; exact (below_size (lb HB.out)) : w.heap.size ≤ gb340)); have n5_ := Aside0.mk ((by rw [hg]; exact Nat.ne_of_lt (blk_lt (bp BK338.out)) : gb338 ≠ gb340)); have n6_ := Aside0.mk ((by rw [hg]; exact Nat.ne_of_gt (blk_lt (bp BK338.out)) : gb340 ≠ gb338)); clear BK338; clear HB; have BK338 := n0_; have HB := n1_; have BK340 := n2_; have GW340 := n3_; have GE340 := n4_; have NB338_340 := n5_; have NB340_338 := n6_; clear n0_ n1_ n2_ n3_ n4_ n5_ n6_; clear hb hbox hg; have hnb100 := NB340_338.out; have hnc100 := NB338_340.out; have hcz101_0 : w99.cell? ⟨gb340, 0, none⟩ = some (.int .i64 0) := (blk_cell BK340.out 0).trans rfl; have hcz101_1 : w99.cell? ⟨gb340, 1, none⟩ = some (.int .i64 0) := (blk_cell BK340.out 1).trans rfl; have hfz101_0 := blk_frozen BK340.out 0; have hfz101_1 := blk_frozen BK340.out 1; have p341 : 0 ≤ (x5_2 : Int) := oa; have q341 : x5_2 < (l0.length : Int) := oa; obtain ⟨ad341, e341, hx341_0, hx341_1⟩ := at_T33 HR0.out x5_2 p341 q341; obtain rfl : ad337 = ad341 := (by injection e341); have hn341_0 : ad337.block ≠ gb340 := Nat.ne_of_lt (cl hx341_0 GW340.out); have hn341_1 : ad337.block ≠ gb340 := Nat.ne_of_lt (cl hx341_0 GW340.out); replace hx341_0 := (HB.out.cell (World.block_lt_of_cell? w _ hx341_0)).trans hx341_0; replace hx341_1 := (HB.out.cell (World.block_lt_of_cell? w _ hx341_1)).trans hx341_1; replace hx341_0 := (cell_far (p := ⟨gb340, 0, none⟩) (nb hn341_0) (.int .i64 ((rd_T33 l0 (ji10)).f0))).trans hx341_0; replace hx341_1 := (cell_far (p := ⟨gb340, 0, none⟩) (nb hn341_0) (.int .i64 ((rd_T33 l0 (ji10)).f0))).trans hx341_1; replace hx341_0 := (cell_far (p := ⟨gb340, 1, none⟩) (nb hn341_1) (.int .i64 ((rd_T33 l0 (ji10)).f1))).trans hx341_0; replace hx341_1 := (cell_far (p := ⟨gb340, 1, none⟩) (nb hn341_1) (.int .i64 ((rd_T33 l0 (ji10)).f1))).trans hx341_1; clear hn341_0; clear hn341_1; replace p341 := eq_true p341; replace q341 := eq_true q341) | ((with_reducible refine gate_dst (N := 8) rfl ?_); refine bx_ 8 (cs := #[.int .i64 0, .int .i64 0]) (t := 33) ?_; intro gb342 hg w102 hbox hb; have n0_ := Aside0.mk (blk_below (bf BK338.out) hb); have n1_ := Aside0.mk (blk_below (bp BK340.out) hb); have n2_ := Aside0.mk (below_step (lb HB.out) hb); have n3_ := Aside0.mk (hbox); have n4_ := Aside0.mk ((by rw [hg]; exact (below_size (lb HB.out)) : w.heap.size ≤ gb342)); have n5_ := Aside0.mk ((by rw [hg]; exact (below_size (lb HB.out)) : w.heap.size ≤ gb342)); have n6_ := Aside0.mk ((by rw [hg]; exact Nat.ne_of_lt (blk_lt (bf BK338.out)) : gb338 ≠ gb342)); have n7_ := Aside0.mk ((by rw [hg]; exact Nat.ne_of_gt (blk_lt (bf BK338.out)) : gb342 ≠ gb338)); have n8_ := Aside0.mk ((by rw [hg]; exact Nat.ne_of_lt (blk_lt (bp BK340.out)) : gb340 ≠ gb342)); have n9_ := Aside0.mk ((by rw [hg]; exact Nat.ne_of_gt (blk_lt (bp BK340.out)) : gb342 ≠ gb340)); clear BK338; clear BK340; clear HB; have BK338 := n0_; have BK340 := n1_; have HB := n2_; have BK342 := n3_; have GW342 := n4_; have GE342 := n5_; have NB338_342 := n6_; have NB342_338 := n7_; have NB340_342 := n8_; have NB342_340 := n9_; clear n0_ n1_ n2_ n3_ n4_ n5_ n6_ n7_ n8_ n9_; clear hb hbox hg; have hnb103 := NB342_338.out; have hnc103 := NB338_342.out; have hnb104 := NB342_340.out; have hnc104 := NB340_342.out; have hcz105_0 : w102.cell? ⟨gb342, 0, none⟩ = some (.int .i64 0) := (blk_cell BK342.out 0).trans rfl; have hcz105_1 : w102.cell? ⟨gb342, 1, none⟩ = some (.int .i64 0) := (blk_cell BK342.out 1).trans rfl; have hfz105_0 := blk_frozen BK342.out 0; have hfz105_1 := blk_frozen BK342.out 1; have p343 : 0 ≤ ((ji15) : Int) := oa; have q343 : (ji15) < (l0.length : Int) := oa; obtain ⟨ad343, e343, hx343_0, hx343_1⟩ := at_T33 HR0.out (ji15) p343 q343; obtain rfl : ad337 = ad343 := (by injection e343); have hn343_0 : ad337.block ≠ gb342 := Nat.ne_of_lt (cl hx343_0 GW342.out); have hn343_1 : ad337.block ≠ gb342 := Nat.ne_of_lt (cl hx343_0 GW342.out); replace hx343_0 := (HB.out.cell (World.block_lt_of_cell? w _ hx343_0)).trans hx343_0; replace hx343_1 := (HB.out.cell (World.block_lt_of_cell? w _ hx343_1)).trans hx343_1; replace hx343_0 := (cell_far (p := ⟨gb342, 0, none⟩) (nb hn343_0) (.int .i64 ((rd_T33 l0 x5_2).f0))).trans hx343_0; replace hx343_1 := (cell_far (p := ⟨gb342, 0, none⟩) (nb hn343_0) (.int .i64 ((rd_T33 l0 x5_2).f0))).trans hx343_1; replace hx343_0 := (cell_far (p := ⟨gb342, 1, none⟩) (nb hn343_1) (.int .i64 ((rd_T33 l0 x5_2).f1))).trans hx343_0; replace hx343_1 := (cell_far (p := ⟨gb342, 1, none⟩) (nb hn343_1) (.int .i64 ((rd_T33 l0 x5_2).f1))).trans hx343_1; clear hn343_0; clear hn343_1; replace p343 := eq_true p343; replace q343 := eq_true q343) | ((with_reducible refine gate_dst (N := 9) rfl ?_); refine bx_ 9 (cs := #[.int .i64 0, .int .i64 0]) (t := 33) ?_; intro gb344 hg w106 hbox hb; have n0_ := Aside0.mk (blk_below (bf BK338.out) hb); have n1_ := Aside0.mk (blk_below (bf BK340.out) hb); have n2_ := Aside0.mk (blk_below (bp BK342.out) hb); have n3_ := Aside0.mk (below_step (lb HB.out) hb); have n4_ := Aside0.mk (hbox); have n5_ := Aside0.mk ((by rw [hg]; exact (below_size (lb HB.out)) : w.heap.size ≤ gb344)); have n6_ := Aside0.mk ((by rw [hg]; exact (below_size (lb HB.out)) : w.heap.size ≤ gb344)); have n7_ := Aside0.mk ((by rw [hg]; exact Nat.ne_of_lt (blk_lt (bf BK338.out)) : gb338 ≠ gb344)); have n8_ := Aside0.mk ((by rw [hg]; exact Nat.ne_of_gt (blk_lt (bf BK338.out)) : gb344 ≠ gb338)); have n9_ := Aside0.mk ((by rw [hg]; exact Nat.ne_of_lt (blk_lt (bf BK340.out)) : gb340 ≠ gb344)); have n10_ := Aside0.mk ((by rw [hg]; exact Nat.ne_of_gt (blk_lt (bf BK340.out)) : gb344 ≠ gb340)); have n11_ := Aside0.mk ((by rw [hg]; exact Nat.ne_of_lt (blk_lt (bp BK342.out)) : gb342 ≠ gb344)); have n12_ := Aside0.mk ((by rw [hg]; exact Nat.ne_of_gt (blk_lt (bp BK342.out)) : gb344 ≠ gb342)); clear BK338; clear BK340; clear BK342; clear HB; have BK338 := n0_; have BK340 := n1_; have BK342 := n2_; have HB := n3_; have BK344 := n4_; have GW344 := n5_; have GE344 := n6_; have NB338_344 := n7_; have NB344_338 := n8_; have NB340_344 := n9_; have NB344_340 := n10_; have NB342_344 := n11_; have NB344_342 := n12_; clear n0_ n1_ n2_ n3_ n4_ n5_ n6_ n7_ n8_ n9_ n10_ n11_ n12_; clear hb hbox hg; have hnb107 := NB344_338.out; have hnc107 := NB338_344.out; have hnb108 := NB344_340.out; have hnc108 := NB340_344.out; have hnb109 := NB344_342.out; have hnc109 := NB342_344.out; have hcz110_0 : w106.cell? ⟨gb344, 0, none⟩ = some (.int .i64 0) := (blk_cell BK344.out 0).trans rfl; have hcz110_1 : w106.cell? ⟨gb344, 1, none⟩ = some (.int .i64 0) := (blk_cell BK344.out 1).trans rfl; have hfz110_0 := blk_frozen BK344.out 0; have hfz110_1 := blk_frozen BK344.out 1; have hcz111_0 : w106.cell? ⟨gb342, 0, none⟩ = some (.int .i64 ((rd_T33 l0 x5_2).f0)) := (blk_cell BK342.out 0).trans rfl; have hcz111_1 : w106.cell? ⟨gb342, 1, none⟩ = some (.int .i64 ((rd_T33 l0 x5_2).f1)) := (blk_cell BK342.out 1).trans rfl; have hfz111_0 := blk_frozen BK342.out 0; have hfz111_1 := blk_frozen BK342.out 1; have hcz112_0 : w106.cell? ⟨gb338, 0, none⟩ = some (.int .i64 ((rd_T33 l0 x4_1).f0)) := (blk_cell BK338.out 0).trans rfl; have hcz112_1 : w106.cell? ⟨gb338, 1, none⟩ = some (.int .i64 ((rd_T33 l0 x4_1).f1)) := (blk_cell BK338.out 1).trans rfl; have hfz112_0 := blk_frozen BK338.out 0; have hfz112_1 := blk_frozen BK338.out 1; have hcz113_0 : w106.cell? ⟨gb340, 0, none⟩ = some (.int .i64 ((rd_T33 l0 (ji10)).f0)) := (blk_cell BK340.out 0).trans rfl; have hcz113_1 : w106.cell? ⟨gb340, 1, none⟩ = some (.int .i64 ((rd_T33 l0 (ji10)).f1)) := (blk_cell BK340.out 1).trans rfl; have hfz113_0 := blk_frozen BK340.out 0; have hfz113_1 := blk_frozen BK340.out 1) | (go_at_call 87; (with_reducible refine (spec_l2On.calls ((rd_T33 l0 x4_1).f0) ((rd_T33 l0 x4_1).f1) ((rd_T33 l0 (ji10)).f0) ((rd_T33 l0 (ji10)).f1) ((rd_T33 l0 (ji15)).f0) ((rd_T33 l0 (ji15)).f1) false _ A53.out).mono ?_); rintro e w114 ⟨rfl, hb⟩; have n0_ := Aside0.mk (blk_below (bf BK338.out) hb); have n1_ := Aside0.mk (blk_below (bf BK340.out) hb); have n2_ := Aside0.mk (blk_below (bf BK342.out) hb); have n3_ := Aside0.mk (blk_below (bp BK344.out) hb); have n4_ := Aside0.mk (below_step (lb HB.out) hb); clear BK338; clear BK340; clear BK342; clear BK344; clear HB; have BK338 := n0_; have BK340 := n1_; have BK342 := n2_; have BK344 := n3_; have HB := n4_; clear n0_ n1_ n2_ n3_ n4_; (try clear hb); (try clear hb2); (try clear hk); (try clear hi); have hcz115_0 : w114.cell? ⟨gb342, 0, none⟩ = some (.int .i64 ((rd_T33 l0 x5_2).f0)) := (blk_cell BK342.out 0).trans rfl; have hcz115_1 : w114.cell? ⟨gb342, 1, none⟩ = some (.int .i64 ((rd_T33 l0 x5_2).f1)) := (blk_cell BK342.out 1).trans rfl; have hfz115_0 := blk_frozen BK342.out 0; have hfz115_1 := blk_frozen BK342.out 1; have hcz116_0 : w114.cell? ⟨gb344, 0, none⟩ = some (.int .i64 ((rd_T33 l0 (ji15)).f0)) := (blk_cell BK344.out 0).trans rfl; have hcz116_1 : w114.cell? ⟨gb344, 1, none⟩ = some (.int .i64 ((rd_T33 l0 (ji15)).f1)) := (blk_cell BK344.out 1).trans rfl; have hfz116_0 := blk_frozen BK344.out 0; have hfz116_1 := blk_frozen BK344.out 1; have hcz117_0 : w114.cell? ⟨gb338, 0, none⟩ = some (.int .i64 ((rd_T33 l0 x4_1).f0)) := (blk_cell BK338.out 0).trans rfl; have hcz117_1 : w114.cell? ⟨gb338, 1, none⟩ = some (.int .i64 ((rd_T33 l0 x4_1).f1)) := (blk_cell BK338.out 1).trans rfl; have hfz117_0 := blk_frozen BK338.out 0; have hfz117_1 := blk_frozen BK338.out 1) | (go_at_call 87; (with_reducible refine (spec_l2On.calls ((rd_T33 l0 x5_2).f0) ((rd_T33 l0 x5_2).f1) ((rd_T33 l0 (ji15)).f0) ((rd_T33 l0 (ji15)).f1) ((rd_T33 l0 x4_1).f0) ((rd_T33 l0 x4_1).f1) false _ A73.out).mono ?_); rintro e w118 ⟨rfl, hb⟩; have n0_ := Aside0.mk (blk_below (bf BK338.out) hb); have n1_ := Aside0.mk (blk_below (bf BK340.out) hb); have n2_ := Aside0.mk (blk_below (bf BK342.out) hb); have n3_ := Aside0.mk (blk_below (bf BK344.out) hb); have n4_ := Aside0.mk (below_step (lb HB.out) hb); clear BK338; clear BK340; clear BK342; clear BK344; clear HB; have BK338 := n0_; have BK340 := n1_; have BK342 := n2_; have BK344 := n3_; have HB := n4_; clear n0_ n1_ n2_ n3_ n4_; (try clear hb); (try clear hb2); (try clear hk); (try clear hi)))
                      go_roundg k2
                      case measure => have := HK1.out; have := HK2.out; omega
                      case rel => exact ⟨(wrap64 (x5_2 + 1)), (by first | rfl | (simp; done) | (simp [*]; done)), H', ⟨by have := HK1.out; have := HK2.out; omega⟩, ⟨lb HB.out⟩⟩
                 ·rw [if_neg c18] at H
                  have c18b0 : (x5_2 == (wrap64 (x4_1 + 1))) = false := beq_eq_false_iff_ne.mpr c18
                  have c18b1 : (x5_2 != (wrap64 (x4_1 + 1))) = true := bne_iff_ne.mpr c18
                  by_cases c119 : (ji15) = x4_1
                  ·rw [if_pos c119] at H
                   have c119b0 : ((ji15) == x4_1) = true := beq_iff_eq.mpr c119
                   have c119b1 : ((ji15) != x4_1) = false := bne_eq_false_iff_eq.mpr c119
                   clear c119
                   replace H := Option.bind_eq_some_iff.mp H
                   obtain ⟨t347, A1200, H⟩ := H
                   replace H : (if t347 = true then (some false) else ((spec_l2On.f ((rd_T33 l0 x4_1).f0) ((rd_T33 l0 x4_1).f1) ((rd_T33 l0 (ji10)).f0) ((rd_T33 l0 (ji10)).f1) ((rd_T33 l0 x5_2).f0) ((rd_T33 l0 x5_2).f1)).bind fun t348 => (if t348 = true then (some false) else (spec_PolyValid.l1 k2 l0 (l0.length : Int) x4_1 (wrap64 (x5_2 + 1)))))) = some r := H
                   have A120 := Aside0.mk A1200
                   clear A1200
                   by_cases c121 : t347 = true
                   ·subst c121
                    have H1 : (some false) = some r := by rw [if_pos rfl] at H; exact H
                    clear H
                    have H := H1
                    clear H1
                    obtain rfl := Option.some.inj H
                    have p337 : 0 ≤ (x4_1 : Int) := oa
                    have q337 : x4_1 < (l0.length : Int) := oa
                    obtain ⟨ad337, e337, hx337_0, hx337_1⟩ := at_T33 HR0.out x4_1 p337 q337
                    cases e337
                    replace hx337_0 := (HB.out.cell (World.block_lt_of_cell? w _ hx337_0)).trans hx337_0
                    replace hx337_1 := (HB.out.cell (World.block_lt_of_cell? w _ hx337_1)).trans hx337_1
                    replace p337 := eq_true p337
                    replace q337 := eq_true q337
                    go_wp2_with (first | ((with_reducible refine gate_dst (N := 6) rfl ?_); refine bx_ 6 (cs := #[.int .i64 0, .int .i64 0]) (t := 33) ?_; intro gb338 hg w122 hbox hb; have n0_ := Aside0.mk (below_step (lb HB.out) hb); have n1_ := Aside0.mk (hbox); have n2_ := Aside0.mk ((by rw [hg]; exact (below_size (lb HB.out)) : w.heap.size ≤ gb338)); have n3_ := Aside0.mk ((by rw [hg]; exact (below_size (lb HB.out)) : w.heap.size ≤ gb338)); clear HB; have HB := n0_; have BK338 := n1_; have GW338 := n2_; have GE338 := n3_; clear n0_ n1_ n2_ n3_; clear hb hbox hg; have hcz123_0 : w122.cell? ⟨gb338, 0, none⟩ = some (.int .i64 0) := (blk_cell BK338.out 0).trans rfl; have hcz123_1 : w122.cell? ⟨gb338, 1, none⟩ = some (.int .i64 0) := (blk_cell BK338.out 1).trans rfl; have hfz123_0 := blk_frozen BK338.out 0; have hfz123_1 := blk_frozen BK338.out 1; have p339 : 0 ≤ ((ji10) : Int) := oa; have q339 : (ji10) < (l0.length : Int) := oa; obtain ⟨ad339, e339, hx339_0, hx339_1⟩ := at_T33 HR0.out (ji10) p339 q339; obtain rfl : ad337 = ad339 := (by injection e339); have hn339_0 : ad337.block ≠ gb338 := Nat.ne_of_lt (cl hx339_0 GW338.out); have hn339_1 : ad337.block ≠ gb338 := Nat.ne_of_lt (cl hx339_0 GW338.out); replace hx339_0 := (HB.out.cell (World.block_lt_of_cell? w _ hx339_0)).trans hx339_0; replace hx339_1 := (HB.out.cell (World.block_lt_of_cell? w _ hx339_1)).trans hx339_1; replace hx339_0 := (cell_far (p := ⟨gb338, 0, none⟩) (nb hn339_0) (.int .i64 ((rd_T33 l0 x4_1).f0))).trans hx339_0; replace hx339_1 := (cell_far (p := ⟨gb338, 0, none⟩) (nb hn339_0) (.int .i64 ((rd_T33 l0 x4_1).f0))).trans hx339_1; replace hx339_0 := (cell_far (p := ⟨gb338, 1, none⟩) (nb hn339_1) (.int .i64 ((rd_T33 l0 x4_1).f1))).trans hx339_0; replace hx339_1 := (cell_far (p := ⟨gb338, 1, none⟩) (nb hn339_1) (.int .i64 ((rd_T33 l0 x4_1).f1))).trans hx339_1; clear hn339_0; clear hn339_1; replace p339 := eq_true p339; replace q339 := eq_true q339) | ((with_reducible refine gate_dst (N := 7) rfl ?_); refine bx_ 7 (cs := #[.int .i64 0, .int .i64 0]) (t := 33) ?_; intro gb340 hg w124 hbox hb; have n0_ := Aside0.mk (blk_below (bp BK338.out) hb); have n1_ := Aside0.mk (below_step (lb HB.out) hb); have n2_ := Aside0.mk (hbox); have n3_ := Aside0.mk ((by rw [hg]; exact (below_size (lb HB.out)) : w.heap.size ≤ gb340)); have n4_ := Aside0.mk ((by rw [hg]; exact (below_size (lb HB.out)) : w.heap.size ≤ gb340)); have n5_ := Aside0.mk ((by rw [hg]; exact Nat.ne_of_lt (blk_lt (bp BK338.out)) : gb338 ≠ gb340)); have n6_ := Aside0.mk ((by rw [hg]; exact Nat.ne_of_gt (blk_lt (bp BK338.out)) : gb340 ≠ gb338)); clear BK338; clear HB; have BK338 := n0_; have HB := n1_; have BK340 := n2_; have GW340 := n3_; have GE340 := n4_; have NB338_340 := n5_; have NB340_338 := n6_; clear n0_ n1_ n2_ n3_ n4_ n5_ n6_; clear hb hbox hg; have hnb125 := NB340_338.out; have hnc125 := NB338_340.out; have hcz126_0 : w124.cell? ⟨gb340, 0, none⟩ = some (.int .i64 0) := (blk_cell BK340.out 0).trans rfl; have hcz126_1 : w124.cell? ⟨gb340, 1, none⟩ = some (.int .i64 0) := (blk_cell BK340.out 1).trans rfl; have hfz126_0 := blk_frozen BK340.out 0; have hfz126_1 := blk_frozen BK340.out 1; have p341 : 0 ≤ (x5_2 : Int) := oa; have q341 : x5_2 < (l0.length : Int) := oa; obtain ⟨ad341, e341, hx341_0, hx341_1⟩ := at_T33 HR0.out x5_2 p341 q341; obtain rfl : ad337 = ad341 := (by injection e341); have hn341_0 : ad337.block ≠ gb340 := Nat.ne_of_lt (cl hx341_0 GW340.out); have hn341_1 : ad337.block ≠ gb340 := Nat.ne_of_lt (cl hx341_0 GW340.out); replace hx341_0 := (HB.out.cell (World.block_lt_of_cell? w _ hx341_0)).trans hx341_0; replace hx341_1 := (HB.out.cell (World.block_lt_of_cell? w _ hx341_1)).trans hx341_1; replace hx341_0 := (cell_far (p := ⟨gb340, 0, none⟩) (nb hn341_0) (.int .i64 ((rd_T33 l0 (ji10)).f0))).trans hx341_0; replace hx341_1 := (cell_far (p := ⟨gb340, 0, none⟩) (nb hn341_0) (.int .i64 ((rd_T33 l0 (ji10)).f0))).trans hx341_1; replace hx341_0 := (cell_far (p := ⟨gb340, 1, none⟩) (nb hn341_1) (.int .i64 ((rd_T33 l0 (ji10)).f1))).trans hx341_0; replace hx341_1 := (cell_far (p := ⟨gb340, 1, none⟩) (nb hn341_1) (.int .i64 ((rd_T33 l0 (ji10)).f1))).trans hx341_1; clear hn341_0; clear hn341_1; replace p341 := eq_true p341; replace q341 := eq_true q341) | ((with_reducible refine gate_dst (N := 8) rfl ?_); refine bx_ 8 (cs := #[.int .i64 0, .int .i64 0]) (t := 33) ?_; intro gb342 hg w127 hbox hb; have n0_ := Aside0.mk (blk_below (bf BK338.out) hb); have n1_ := Aside0.mk (blk_below (bp BK340.out) hb); have n2_ := Aside0.mk (below_step (lb HB.out) hb); have n3_ := Aside0.mk (hbox); have n4_ := Aside0.mk ((by rw [hg]; exact (below_size (lb HB.out)) : w.heap.size ≤ gb342)); have n5_ := Aside0.mk ((by rw [hg]; exact (below_size (lb HB.out)) : w.heap.size ≤ gb342)); have n6_ := Aside0.mk ((by rw [hg]; exact Nat.ne_of_lt (blk_lt (bf BK338.out)) : gb338 ≠ gb342)); have n7_ := Aside0.mk ((by rw [hg]; exact Nat.ne_of_gt (blk_lt (bf BK338.out)) : gb342 ≠ gb338)); have n8_ := Aside0.mk ((by rw [hg]; exact Nat.ne_of_lt (blk_lt (bp BK340.out)) : gb340 ≠ gb342)); have n9_ := Aside0.mk ((by rw [hg]; exact Nat.ne_of_gt (blk_lt (bp BK340.out)) : gb342 ≠ gb340)); clear BK338; clear BK340; clear HB; have BK338 := n0_; have BK340 := n1_; have HB := n2_; have BK342 := n3_; have GW342 := n4_; have GE342 := n5_; have NB338_342 := n6_; have NB342_338 := n7_; have NB340_342 := n8_; have NB342_340 := n9_; clear n0_ n1_ n2_ n3_ n4_ n5_ n6_ n7_ n8_ n9_; clear hb hbox hg; have hnb128 := NB342_338.out; have hnc128 := NB338_342.out; have hnb129 := NB342_340.out; have hnc129 := NB340_342.out; have hcz130_0 : w127.cell? ⟨gb342, 0, none⟩ = some (.int .i64 0) := (blk_cell BK342.out 0).trans rfl; have hcz130_1 : w127.cell? ⟨gb342, 1, none⟩ = some (.int .i64 0) := (blk_cell BK342.out 1).trans rfl; have hfz130_0 := blk_frozen BK342.out 0; have hfz130_1 := blk_frozen BK342.out 1; have p343 : 0 ≤ ((ji15) : Int) := oa; have q343 : (ji15) < (l0.length : Int) := oa; obtain ⟨ad343, e343, hx343_0, hx343_1⟩ := at_T33 HR0.out (ji15) p343 q343; obtain rfl : ad337 = ad343 := (by injection e343); have hn343_0 : ad337.block ≠ gb342 := Nat.ne_of_lt (cl hx343_0 GW342.out); have hn343_1 : ad337.block ≠ gb342 := Nat.ne_of_lt (cl hx343_0 GW342.out); replace hx343_0 := (HB.out.cell (World.block_lt_of_cell? w _ hx343_0)).trans hx343_0; replace hx343_1 := (HB.out.cell (World.block_lt_of_cell? w _ hx343_1)).trans hx343_1; replace hx343_0 := (cell_far (p := ⟨gb342, 0, none⟩) (nb hn343_0) (.int .i64 ((rd_T33 l0 x5_2).f0))).trans hx343_0; replace hx343_1 := (cell_far (p := ⟨gb342, 0, none⟩) (nb hn343_0) (.int .i64 ((rd_T33 l0 x5_2).f0))).trans hx343_1; replace hx343_0 := (cell_far (p := ⟨gb342, 1, none⟩) (nb hn343_1) (.int .i64 ((rd_T33 l0 x5_2).f1))).trans hx343_0; replace hx343_1 := (cell_far (p := ⟨gb342, 1, none⟩) (nb hn343_1) (.int .i64 ((rd_T33 l0 x5_2).f1))).trans hx343_1; clear hn343_0; clear hn343_1; replace p343 := eq_true p343; replace q343 := eq_true q343) | ((with_reducible refine gate_dst (N := 9) rfl ?_); refine bx_ 9 (cs := #[.int .i64 0, .int .i64 0]) (t := 33) ?_; intro gb344 hg w131 hbox hb; have n0_ := Aside0.mk (blk_below (bf BK338.out) hb); have n1_ := Aside0.mk (blk_below (bf BK340.out) hb); have n2_ := Aside0.mk (blk_below (bp BK342.out) hb); have n3_ := Aside0.mk (below_step (lb HB.out) hb); have n4_ := Aside0.mk (hbox); have n5_ := Aside0.mk ((by rw [hg]; exact (below_size (lb HB.out)) : w.heap.size ≤ gb344)); have n6_ := Aside0.mk ((by rw [hg]; exact (below_size (lb HB.out)) : w.heap.size ≤ gb344)); have n7_ := Aside0.mk ((by rw [hg]; exact Nat.ne_of_lt (blk_lt (bf BK338.out)) : gb338 ≠ gb344)); have n8_ := Aside0.mk ((by rw [hg]; exact Nat.ne_of_gt (blk_lt (bf BK338.out)) : gb344 ≠ gb338)); have n9_ := Aside0.mk ((by rw [hg]; exact Nat.ne_of_lt (blk_lt (bf BK340.out)) : gb340 ≠ gb344)); have n10_ := Aside0.mk ((by rw [hg]; exact Nat.ne_of_gt (blk_lt (bf BK340.out)) : gb344 ≠ gb340)); have n11_ := Aside0.mk ((by rw [hg]; exact Nat.ne_of_lt (blk_lt (bp BK342.out)) : gb342 ≠ gb344)); have n12_ := Aside0.mk ((by rw [hg]; exact Nat.ne_of_gt (blk_lt (bp BK342.out)) : gb344 ≠ gb342)); clear BK338; clear BK340; clear BK342; clear HB; have BK338 := n0_; have BK340 := n1_; have BK342 := n2_; have HB := n3_; have BK344 := n4_; have GW344 := n5_; have GE344 := n6_; have NB338_344 := n7_; have NB344_338 := n8_; have NB340_344 := n9_; have NB344_340 := n10_; have NB342_344 := n11_; have NB344_342 := n12_; clear n0_ n1_ n2_ n3_ n4_ n5_ n6_ n7_ n8_ n9_ n10_ n11_ n12_; clear hb hbox hg; have hnb132 := NB344_338.out; have hnc132 := NB338_344.out; have hnb133 := NB344_340.out; have hnc133 := NB340_344.out; have hnb134 := NB344_342.out; have hnc134 := NB342_344.out; have hcz135_0 : w131.cell? ⟨gb344, 0, none⟩ = some (.int .i64 0) := (blk_cell BK344.out 0).trans rfl; have hcz135_1 : w131.cell? ⟨gb344, 1, none⟩ = some (.int .i64 0) := (blk_cell BK344.out 1).trans rfl; have hfz135_0 := blk_frozen BK344.out 0; have hfz135_1 := blk_frozen BK344.out 1; have hcz136_0 : w131.cell? ⟨gb342, 0, none⟩ = some (.int .i64 ((rd_T33 l0 x5_2).f0)) := (blk_cell BK342.out 0).trans rfl; have hcz136_1 : w131.cell? ⟨gb342, 1, none⟩ = some (.int .i64 ((rd_T33 l0 x5_2).f1)) := (blk_cell BK342.out 1).trans rfl; have hfz136_0 := blk_frozen BK342.out 0; have hfz136_1 := blk_frozen BK342.out 1; have hcz137_0 : w131.cell? ⟨gb340, 0, none⟩ = some (.int .i64 ((rd_T33 l0 (ji10)).f0)) := (blk_cell BK340.out 0).trans rfl; have hcz137_1 : w131.cell? ⟨gb340, 1, none⟩ = some (.int .i64 ((rd_T33 l0 (ji10)).f1)) := (blk_cell BK340.out 1).trans rfl; have hfz137_0 := blk_frozen BK340.out 0; have hfz137_1 := blk_frozen BK340.out 1) | ((with_reducible refine gate_callee (f := 87) rfl ?_); refine goesL_ (some 89) rfl rfl Try.func87 (by kernel_rfl) rfl #[.agg #[.int .i64 ((rd_T33 l0 x5_2).f0), .int .i64 ((rd_T33 l0 x5_2).f1)], .agg #[.int .i64 ((rd_T33 l0 (ji15)).f0), .int .i64 ((rd_T33 l0 (ji15)).f1)], .agg #[.int .i64 ((rd_T33 l0 (ji10)).f0), .int .i64 ((rd_T33 l0 (ji10)).f1)]] rfl (by (try simp only [List.map_toArray, List.map_cons, List.map_nil]); first | done | (simp only [hji10, hji15]; rfl) | rfl | (simp only [List.length_drop, List.length_take]; rfl)) ?_; (with_reducible refine (spec_l2On.calls ((rd_T33 l0 x5_2).f0) ((rd_T33 l0 x5_2).f1) ((rd_T33 l0 (ji15)).f0) ((rd_T33 l0 (ji15)).f1) ((rd_T33 l0 (ji10)).f0) ((rd_T33 l0 (ji10)).f1) true _ A120.out).mono ?_); rintro e w138 ⟨rfl, hb⟩; refine ⟨_, rfl, ?_⟩; have n0_ := Aside0.mk (blk_below (bf BK338.out) hb); have n1_ := Aside0.mk (blk_below (bf BK340.out) hb); have n2_ := Aside0.mk (blk_below (bf BK342.out) hb); have n3_ := Aside0.mk (blk_below (bp BK344.out) hb); have n4_ := Aside0.mk (below_step (lb HB.out) hb); clear BK338; clear BK340; clear BK342; clear BK344; clear HB; have BK338 := n0_; have BK340 := n1_; have BK342 := n2_; have BK344 := n3_; have HB := n4_; clear n0_ n1_ n2_ n3_ n4_; (try clear hb); (try clear hb2); (try clear hk); (try clear hi)))
                    go_ret
                    exact ⟨by first | rfl | (simp [errW_none, errW_some] <;> rfl) | (simp only [← hji10, ← hji15]; first | rfl | (simp [errW_none, errW_some] <;> rfl)) | (simp [*, errW_none, errW_some] <;> rfl), lb HB.out⟩
                   ·replace c121 := Bool.eq_false_iff.mpr c121
                    subst c121
                    have H1 : ((spec_l2On.f ((rd_T33 l0 x4_1).f0) ((rd_T33 l0 x4_1).f1) ((rd_T33 l0 (ji10)).f0) ((rd_T33 l0 (ji10)).f1) ((rd_T33 l0 x5_2).f0) ((rd_T33 l0 x5_2).f1)).bind fun t348 => (if t348 = true then (some false) else (spec_PolyValid.l1 k2 l0 (l0.length : Int) x4_1 (wrap64 (x5_2 + 1))))) = some r := by rw [if_neg (show ¬ (false = true) by decide)] at H; exact H
                    clear H
                    have H := H1
                    clear H1
                    replace H := Option.bind_eq_some_iff.mp H
                    obtain ⟨t348, A1390, H⟩ := H
                    replace H : (if t348 = true then (some false) else (spec_PolyValid.l1 k2 l0 (l0.length : Int) x4_1 (wrap64 (x5_2 + 1)))) = some r := H
                    have A139 := Aside0.mk A1390
                    clear A1390
                    by_cases c140 : t348 = true
                    ·subst c140
                     have H1 : (some false) = some r := by rw [if_pos rfl] at H; exact H
                     clear H
                     have H := H1
                     clear H1
                     obtain rfl := Option.some.inj H
                     have p337 : 0 ≤ (x4_1 : Int) := oa
                     have q337 : x4_1 < (l0.length : Int) := oa
                     obtain ⟨ad337, e337, hx337_0, hx337_1⟩ := at_T33 HR0.out x4_1 p337 q337
                     cases e337
                     replace hx337_0 := (HB.out.cell (World.block_lt_of_cell? w _ hx337_0)).trans hx337_0
                     replace hx337_1 := (HB.out.cell (World.block_lt_of_cell? w _ hx337_1)).trans hx337_1
                     replace p337 := eq_true p337
                     replace q337 := eq_true q337
                     go_wp2_with (first | ((with_reducible refine gate_dst (N := 6) rfl ?_); refine bx_ 6 (cs := #[.int .i64 0, .int .i64 0]) (t := 33) ?_; intro gb338 hg w141 hbox hb; have n0_ := Aside0.mk (below_step (lb HB.out) hb); have n1_ := Aside0.mk (hbox); have n2_ := Aside0.mk ((by rw [hg]; exact (below_size (lb HB.out)) : w.heap.size ≤ gb338)); have n3_ := Aside0.mk ((by rw [hg]; exact (below_size (lb HB.out)) : w.heap.size ≤ gb338)); clear HB; have HB := n0_; have BK338 := n1_; have GW338 := n2_; have GE338 := n3_; clear n0_ n1_ n2_ n3_; clear hb hbox hg; have hcz142_0 : w141.cell? ⟨gb338, 0, none⟩ = some (.int .i64 0) := (blk_cell BK338.out 0).trans rfl; have hcz142_1 : w141.cell? ⟨gb338, 1, none⟩ = some (.int .i64 0) := (blk_cell BK338.out 1).trans rfl; have hfz142_0 := blk_frozen BK338.out 0; have hfz142_1 := blk_frozen BK338.out 1; have p339 : 0 ≤ ((ji10) : Int) := oa; have q339 : (ji10) < (l0.length : Int) := oa; obtain ⟨ad339, e339, hx339_0, hx339_1⟩ := at_T33 HR0.out (ji10) p339 q339; obtain rfl : ad337 = ad339 := (by injection e339); have hn339_0 : ad337.block ≠ gb338 := Nat.ne_of_lt (cl hx339_0 GW338.out); have hn339_1 : ad337.block ≠ gb338 := Nat.ne_of_lt (cl hx339_0 GW338.out); replace hx339_0 := (HB.out.cell (World.block_lt_of_cell? w _ hx339_0)).trans hx339_0; replace hx339_1 := (HB.out.cell (World.block_lt_of_cell? w _ hx339_1)).trans hx339_1; replace hx339_0 := (cell_far (p := ⟨gb338, 0, none⟩) (nb hn339_0) (.int .i64 ((rd_T33 l0 x4_1).f0))).trans hx339_0; replace hx339_1 := (cell_far (p := ⟨gb338, 0, none⟩) (nb hn339_0) (.int .i64 ((rd_T33 l0 x4_1).f0))).trans hx339_1; replace hx339_0 := (cell_far (p := ⟨gb338, 1, none⟩) (nb hn339_1) (.int .i64 ((rd_T33 l0 x4_1).f1))).trans hx339_0; replace hx339_1 := (cell_far (p := ⟨gb338, 1, none⟩) (nb hn339_1) (.int .i64 ((rd_T33 l0 x4_1).f1))).trans hx339_1; clear hn339_0; clear hn339_1; replace p339 := eq_true p339; replace q339 := eq_true q339) | ((with_reducible refine gate_dst (N := 7) rfl ?_); refine bx_ 7 (cs := #[.int .i64 0, .int .i64 0]) (t := 33) ?_; intro gb340 hg w143 hbox hb; have n0_ := Aside0.mk (blk_below (bp BK338.out) hb); have n1_ := Aside0.mk (below_step (lb HB.out) hb); have n2_ := Aside0.mk (hbox); have n3_ := Aside0.mk ((by rw [hg]; exact (below_size (lb HB.out)) : w.heap.size ≤ gb340)); have n4_ := Aside0.mk ((by rw [hg]; exact (below_size (lb HB.out)) : w.heap.size ≤ gb340)); have n5_ := Aside0.mk ((by rw [hg]; exact Nat.ne_of_lt (blk_lt (bp BK338.out)) : gb338 ≠ gb340)); have n6_ := Aside0.mk ((by rw [hg]; exact Nat.ne_of_gt (blk_lt (bp BK338.out)) : gb340 ≠ gb338)); clear BK338; clear HB; have BK338 := n0_; have HB := n1_; have BK340 := n2_; have GW340 := n3_; have GE340 := n4_; have NB338_340 := n5_; have NB340_338 := n6_; clear n0_ n1_ n2_ n3_ n4_ n5_ n6_; clear hb hbox hg; have hnb144 := NB340_338.out; have hnc144 := NB338_340.out; have hcz145_0 : w143.cell? ⟨gb340, 0, none⟩ = some (.int .i64 0) := (blk_cell BK340.out 0).trans rfl; have hcz145_1 : w143.cell? ⟨gb340, 1, none⟩ = some (.int .i64 0) := (blk_cell BK340.out 1).trans rfl; have hfz145_0 := blk_frozen BK340.out 0; have hfz145_1 := blk_frozen BK340.out 1; have p341 : 0 ≤ (x5_2 : Int) := oa; have q341 : x5_2 < (l0.length : Int) := oa; obtain ⟨ad341, e341, hx341_0, hx341_1⟩ := at_T33 HR0.out x5_2 p341 q341; obtain rfl : ad337 = ad341 := (by injection e341); have hn341_0 : ad337.block ≠ gb340 := Nat.ne_of_lt (cl hx341_0 GW340.out); have hn341_1 : ad337.block ≠ gb340 := Nat.ne_of_lt (cl hx341_0 GW340.out); replace hx341_0 := (HB.out.cell (World.block_lt_of_cell? w _ hx341_0)).trans hx341_0; replace hx341_1 := (HB.out.cell (World.block_lt_of_cell? w _ hx341_1)).trans hx341_1; replace hx341_0 := (cell_far (p := ⟨gb340, 0, none⟩) (nb hn341_0) (.int .i64 ((rd_T33 l0 (ji10)).f0))).trans hx341_0; replace hx341_1 := (cell_far (p := ⟨gb340, 0, none⟩) (nb hn341_0) (.int .i64 ((rd_T33 l0 (ji10)).f0))).trans hx341_1; replace hx341_0 := (cell_far (p := ⟨gb340, 1, none⟩) (nb hn341_1) (.int .i64 ((rd_T33 l0 (ji10)).f1))).trans hx341_0; replace hx341_1 := (cell_far (p := ⟨gb340, 1, none⟩) (nb hn341_1) (.int .i64 ((rd_T33 l0 (ji10)).f1))).trans hx341_1; clear hn341_0; clear hn341_1; replace p341 := eq_true p341; replace q341 := eq_true q341) | ((with_reducible refine gate_dst (N := 8) rfl ?_); refine bx_ 8 (cs := #[.int .i64 0, .int .i64 0]) (t := 33) ?_; intro gb342 hg w146 hbox hb; have n0_ := Aside0.mk (blk_below (bf BK338.out) hb); have n1_ := Aside0.mk (blk_below (bp BK340.out) hb); have n2_ := Aside0.mk (below_step (lb HB.out) hb); have n3_ := Aside0.mk (hbox); have n4_ := Aside0.mk ((by rw [hg]; exact (below_size (lb HB.out)) : w.heap.size ≤ gb342)); have n5_ := Aside0.mk ((by rw [hg]; exact (below_size (lb HB.out)) : w.heap.size ≤ gb342)); have n6_ := Aside0.mk ((by rw [hg]; exact Nat.ne_of_lt (blk_lt (bf BK338.out)) : gb338 ≠ gb342)); have n7_ := Aside0.mk ((by rw [hg]; exact Nat.ne_of_gt (blk_lt (bf BK338.out)) : gb342 ≠ gb338)); have n8_ := Aside0.mk ((by rw [hg]; exact Nat.ne_of_lt (blk_lt (bp BK340.out)) : gb340 ≠ gb342)); have n9_ := Aside0.mk ((by rw [hg]; exact Nat.ne_of_gt (blk_lt (bp BK340.out)) : gb342 ≠ gb340)); clear BK338; clear BK340; clear HB; have BK338 := n0_; have BK340 := n1_; have HB := n2_; have BK342 := n3_; have GW342 := n4_; have GE342 := n5_; have NB338_342 := n6_; have NB342_338 := n7_; have NB340_342 := n8_; have NB342_340 := n9_; clear n0_ n1_ n2_ n3_ n4_ n5_ n6_ n7_ n8_ n9_; clear hb hbox hg; have hnb147 := NB342_338.out; have hnc147 := NB338_342.out; have hnb148 := NB342_340.out; have hnc148 := NB340_342.out; have hcz149_0 : w146.cell? ⟨gb342, 0, none⟩ = some (.int .i64 0) := (blk_cell BK342.out 0).trans rfl; have hcz149_1 : w146.cell? ⟨gb342, 1, none⟩ = some (.int .i64 0) := (blk_cell BK342.out 1).trans rfl; have hfz149_0 := blk_frozen BK342.out 0; have hfz149_1 := blk_frozen BK342.out 1; have p343 : 0 ≤ ((ji15) : Int) := oa; have q343 : (ji15) < (l0.length : Int) := oa; obtain ⟨ad343, e343, hx343_0, hx343_1⟩ := at_T33 HR0.out (ji15) p343 q343; obtain rfl : ad337 = ad343 := (by injection e343); have hn343_0 : ad337.block ≠ gb342 := Nat.ne_of_lt (cl hx343_0 GW342.out); have hn343_1 : ad337.block ≠ gb342 := Nat.ne_of_lt (cl hx343_0 GW342.out); replace hx343_0 := (HB.out.cell (World.block_lt_of_cell? w _ hx343_0)).trans hx343_0; replace hx343_1 := (HB.out.cell (World.block_lt_of_cell? w _ hx343_1)).trans hx343_1; replace hx343_0 := (cell_far (p := ⟨gb342, 0, none⟩) (nb hn343_0) (.int .i64 ((rd_T33 l0 x5_2).f0))).trans hx343_0; replace hx343_1 := (cell_far (p := ⟨gb342, 0, none⟩) (nb hn343_0) (.int .i64 ((rd_T33 l0 x5_2).f0))).trans hx343_1; replace hx343_0 := (cell_far (p := ⟨gb342, 1, none⟩) (nb hn343_1) (.int .i64 ((rd_T33 l0 x5_2).f1))).trans hx343_0; replace hx343_1 := (cell_far (p := ⟨gb342, 1, none⟩) (nb hn343_1) (.int .i64 ((rd_T33 l0 x5_2).f1))).trans hx343_1; clear hn343_0; clear hn343_1; replace p343 := eq_true p343; replace q343 := eq_true q343) | ((with_reducible refine gate_dst (N := 9) rfl ?_); refine bx_ 9 (cs := #[.int .i64 0, .int .i64 0]) (t := 33) ?_; intro gb344 hg w150 hbox hb; have n0_ := Aside0.mk (blk_below (bf BK338.out) hb); have n1_ := Aside0.mk (blk_below (bf BK340.out) hb); have n2_ := Aside0.mk (blk_below (bp BK342.out) hb); have n3_ := Aside0.mk (below_step (lb HB.out) hb); have n4_ := Aside0.mk (hbox); have n5_ := Aside0.mk ((by rw [hg]; exact (below_size (lb HB.out)) : w.heap.size ≤ gb344)); have n6_ := Aside0.mk ((by rw [hg]; exact (below_size (lb HB.out)) : w.heap.size ≤ gb344)); have n7_ := Aside0.mk ((by rw [hg]; exact Nat.ne_of_lt (blk_lt (bf BK338.out)) : gb338 ≠ gb344)); have n8_ := Aside0.mk ((by rw [hg]; exact Nat.ne_of_gt (blk_lt (bf BK338.out)) : gb344 ≠ gb338)); have n9_ := Aside0.mk ((by rw [hg]; exact Nat.ne_of_lt (blk_lt (bf BK340.out)) : gb340 ≠ gb344)); have n10_ := Aside0.mk ((by rw [hg]; exact Nat.ne_of_gt (blk_lt (bf BK340.out)) : gb344 ≠ gb340)); have n11_ := Aside0.mk ((by rw [hg]; exact Nat.ne_of_lt (blk_lt (bp BK342.out)) : gb342 ≠ gb344)); have n12_ := Aside0.mk ((by rw [hg]; exact Nat.ne_of_gt (blk_lt (bp BK342.out)) : gb344 ≠ gb342)); clear BK338; clear BK340; clear BK342; clear HB; have BK338 := n0_; have BK340 := n1_; have BK342 := n2_; have HB := n3_; have BK344 := n4_; have GW344 := n5_; have GE344 := n6_; have NB338_344 := n7_; have NB344_338 := n8_; have NB340_344 := n9_; have NB344_340 := n10_; have NB342_344 := n11_; have NB344_342 := n12_; clear n0_ n1_ n2_ n3_ n4_ n5_ n6_ n7_ n8_ n9_ n10_ n11_ n12_; clear hb hbox hg; have hnb151 := NB344_338.out; have hnc151 := NB338_344.out; have hnb152 := NB344_340.out; have hnc152 := NB340_344.out; have hnb153 := NB344_342.out; have hnc153 := NB342_344.out; have hcz154_0 : w150.cell? ⟨gb344, 0, none⟩ = some (.int .i64 0) := (blk_cell BK344.out 0).trans rfl; have hcz154_1 : w150.cell? ⟨gb344, 1, none⟩ = some (.int .i64 0) := (blk_cell BK344.out 1).trans rfl; have hfz154_0 := blk_frozen BK344.out 0; have hfz154_1 := blk_frozen BK344.out 1; have hcz155_0 : w150.cell? ⟨gb342, 0, none⟩ = some (.int .i64 ((rd_T33 l0 x5_2).f0)) := (blk_cell BK342.out 0).trans rfl; have hcz155_1 : w150.cell? ⟨gb342, 1, none⟩ = some (.int .i64 ((rd_T33 l0 x5_2).f1)) := (blk_cell BK342.out 1).trans rfl; have hfz155_0 := blk_frozen BK342.out 0; have hfz155_1 := blk_frozen BK342.out 1; have hcz156_0 : w150.cell? ⟨gb340, 0, none⟩ = some (.int .i64 ((rd_T33 l0 (ji10)).f0)) := (blk_cell BK340.out 0).trans rfl; have hcz156_1 : w150.cell? ⟨gb340, 1, none⟩ = some (.int .i64 ((rd_T33 l0 (ji10)).f1)) := (blk_cell BK340.out 1).trans rfl; have hfz156_0 := blk_frozen BK340.out 0; have hfz156_1 := blk_frozen BK340.out 1) | ((with_reducible refine gate_callee (f := 87) rfl ?_); refine goesL_ (some 89) rfl rfl Try.func87 (by kernel_rfl) rfl #[.agg #[.int .i64 ((rd_T33 l0 x5_2).f0), .int .i64 ((rd_T33 l0 x5_2).f1)], .agg #[.int .i64 ((rd_T33 l0 (ji15)).f0), .int .i64 ((rd_T33 l0 (ji15)).f1)], .agg #[.int .i64 ((rd_T33 l0 (ji10)).f0), .int .i64 ((rd_T33 l0 (ji10)).f1)]] rfl (by (try simp only [List.map_toArray, List.map_cons, List.map_nil]); first | done | (simp only [hji10, hji15]; rfl) | rfl | (simp only [List.length_drop, List.length_take]; rfl)) ?_; (with_reducible refine (spec_l2On.calls ((rd_T33 l0 x5_2).f0) ((rd_T33 l0 x5_2).f1) ((rd_T33 l0 (ji15)).f0) ((rd_T33 l0 (ji15)).f1) ((rd_T33 l0 (ji10)).f0) ((rd_T33 l0 (ji10)).f1) false _ A120.out).mono ?_); rintro e w157 ⟨rfl, hb⟩; refine ⟨_, rfl, ?_⟩; have n0_ := Aside0.mk (blk_below (bf BK338.out) hb); have n1_ := Aside0.mk (blk_below (bf BK340.out) hb); have n2_ := Aside0.mk (blk_below (bf BK342.out) hb); have n3_ := Aside0.mk (blk_below (bp BK344.out) hb); have n4_ := Aside0.mk (below_step (lb HB.out) hb); clear BK338; clear BK340; clear BK342; clear BK344; clear HB; have BK338 := n0_; have BK340 := n1_; have BK342 := n2_; have BK344 := n3_; have HB := n4_; clear n0_ n1_ n2_ n3_ n4_; (try clear hb); (try clear hb2); (try clear hk); (try clear hi); have hcz158_0 : w157.cell? ⟨gb338, 0, none⟩ = some (.int .i64 ((rd_T33 l0 x4_1).f0)) := (blk_cell BK338.out 0).trans rfl; have hcz158_1 : w157.cell? ⟨gb338, 1, none⟩ = some (.int .i64 ((rd_T33 l0 x4_1).f1)) := (blk_cell BK338.out 1).trans rfl; have hfz158_0 := blk_frozen BK338.out 0; have hfz158_1 := blk_frozen BK338.out 1; have hcz159_0 : w157.cell? ⟨gb340, 0, none⟩ = some (.int .i64 ((rd_T33 l0 (ji10)).f0)) := (blk_cell BK340.out 0).trans rfl; have hcz159_1 : w157.cell? ⟨gb340, 1, none⟩ = some (.int .i64 ((rd_T33 l0 (ji10)).f1)) := (blk_cell BK340.out 1).trans rfl; have hfz159_0 := blk_frozen BK340.out 0; have hfz159_1 := blk_frozen BK340.out 1; have hcz160_0 : w157.cell? ⟨gb342, 0, none⟩ = some (.int .i64 ((rd_T33 l0 x5_2).f0)) := (blk_cell BK342.out 0).trans rfl; have hcz160_1 : w157.cell? ⟨gb342, 1, none⟩ = some (.int .i64 ((rd_T33 l0 x5_2).f1)) := (blk_cell BK342.out 1).trans rfl; have hfz160_0 := blk_frozen BK342.out 0; have hfz160_1 := blk_frozen BK342.out 1) | (go_at_call 87; (with_reducible refine (spec_l2On.calls ((rd_T33 l0 x4_1).f0) ((rd_T33 l0 x4_1).f1) ((rd_T33 l0 (ji10)).f0) ((rd_T33 l0 (ji10)).f1) ((rd_T33 l0 x5_2).f0) ((rd_T33 l0 x5_2).f1) true _ A139.out).mono ?_); rintro e w161 ⟨rfl, hb⟩; have n0_ := Aside0.mk (blk_below (bf BK338.out) hb); have n1_ := Aside0.mk (blk_below (bf BK340.out) hb); have n2_ := Aside0.mk (blk_below (bf BK342.out) hb); have n3_ := Aside0.mk (blk_below (bf BK344.out) hb); have n4_ := Aside0.mk (below_step (lb HB.out) hb); clear BK338; clear BK340; clear BK342; clear BK344; clear HB; have BK338 := n0_; have BK340 := n1_; have BK342 := n2_; have BK344 := n3_; have HB := n4_; clear n0_ n1_ n2_ n3_ n4_; (try clear hb); (try clear hb2); (try clear hk); (try clear hi)))
                     go_ret
                     exact ⟨by first | rfl | (simp [errW_none, errW_some] <;> rfl) | (simp only [← hji10, ← hji15]; first | rfl | (simp [errW_none, errW_some] <;> rfl)) | (simp [*, errW_none, errW_some] <;> rfl), lb HB.out⟩
                    ·replace c140 := Bool.eq_false_iff.mpr c140
                     subst c140
                     have H1 : (spec_PolyValid.l1 k2 l0 (l0.length : Int) x4_1 (wrap64 (x5_2 + 1))) = some r := by rw [if_neg (show ¬ (false = true) by decide)] at H; exact H
                     clear H
                     have H := H1
                     clear H1
                     have H' := Aside0.mk H
                     clear H
                     have p337 : 0 ≤ (x4_1 : Int) := oa
                     have q337 : x4_1 < (l0.length : Int) := oa
                     obtain ⟨ad337, e337, hx337_0, hx337_1⟩ := at_T33 HR0.out x4_1 p337 q337
                     cases e337
                     replace hx337_0 := (HB.out.cell (World.block_lt_of_cell? w _ hx337_0)).trans hx337_0
                     replace hx337_1 := (HB.out.cell (World.block_lt_of_cell? w _ hx337_1)).trans hx337_1
                     replace p337 := eq_true p337
                     replace q337 := eq_true q337
                     go_wp2_with (first | ((with_reducible refine gate_dst (N := 6) rfl ?_); refine bx_ 6 (cs := #[.int .i64 0, .int .i64 0]) (t := 33) ?_; intro gb338 hg w162 hbox hb; have n0_ := Aside0.mk (below_step (lb HB.out) hb); have n1_ := Aside0.mk (hbox); have n2_ := Aside0.mk ((by rw [hg]; exact (below_size (lb HB.out)) : w.heap.size ≤ gb338)); have n3_ := Aside0.mk ((by rw [hg]; exact (below_size (lb HB.out)) : w.heap.size ≤ gb338)); clear HB; have HB := n0_; have BK338 := n1_; have GW338 := n2_; have GE338 := n3_; clear n0_ n1_ n2_ n3_; clear hb hbox hg; have hcz163_0 : w162.cell? ⟨gb338, 0, none⟩ = some (.int .i64 0) := (blk_cell BK338.out 0).trans rfl; have hcz163_1 : w162.cell? ⟨gb338, 1, none⟩ = some (.int .i64 0) := (blk_cell BK338.out 1).trans rfl; have hfz163_0 := blk_frozen BK338.out 0; have hfz163_1 := blk_frozen BK338.out 1; have p339 : 0 ≤ ((ji10) : Int) := oa; have q339 : (ji10) < (l0.length : Int) := oa; obtain ⟨ad339, e339, hx339_0, hx339_1⟩ := at_T33 HR0.out (ji10) p339 q339; obtain rfl : ad337 = ad339 := (by injection e339); have hn339_0 : ad337.block ≠ gb338 := Nat.ne_of_lt (cl hx339_0 GW338.out); have hn339_1 : ad337.block ≠ gb338 := Nat.ne_of_lt (cl hx339_0 GW338.out); replace hx339_0 := (HB.out.cell (World.block_lt_of_cell? w _ hx339_0)).trans hx339_0; replace hx339_1 := (HB.out.cell (World.block_lt_of_cell? w _ hx339_1)).trans hx339_1; replace hx339_0 := (cell_far (p := ⟨gb338, 0, none⟩) (nb hn339_0) (.int .i64 ((rd_T33 l0 x4_1).f0))).trans hx339_0; replace hx339_1 := (cell_far (p := ⟨gb338, 0, none⟩) (nb hn339_0) (.int .i64 ((rd_T33 l0 x4_1).f0))).trans hx339_1; replace hx339_0 := (cell_far (p := ⟨gb338, 1, none⟩) (nb hn339_1) (.int .i64 ((rd_T33 l0 x4_1).f1))).trans hx339_0; replace hx339_1 := (cell_far (p := ⟨gb338, 1, none⟩) (nb hn339_1) (.int .i64 ((rd_T33 l0 x4_1).f1))).trans hx339_1; clear hn339_0; clear hn339_1; replace p339 := eq_true p339; replace q339 := eq_true q339) | ((with_reducible refine gate_dst (N := 7) rfl ?_); refine bx_ 7 (cs := #[.int .i64 0, .int .i64 0]) (t := 33) ?_; intro gb340 hg w164 hbox hb; have n0_ := Aside0.mk (blk_below (bp BK338.out) hb); have n1_ := Aside0.mk (below_step (lb HB.out) hb); have n2_ := Aside0.mk (hbox); have n3_ := Aside0.mk ((by rw [hg]; exact (below_size (lb HB.out)) : w.heap.size ≤ gb340)); have n4_ := Aside0.mk ((by rw [hg]; exact (below_size (lb HB.out)) : w.heap.size ≤ gb340)); have n5_ := Aside0.mk ((by rw [hg]; exact Nat.ne_of_lt (blk_lt (bp BK338.out)) : gb338 ≠ gb340)); have n6_ := Aside0.mk ((by rw [hg]; exact Nat.ne_of_gt (blk_lt (bp BK338.out)) : gb340 ≠ gb338)); clear BK338; clear HB; have BK338 := n0_; have HB := n1_; have BK340 := n2_; have GW340 := n3_; have GE340 := n4_; have NB338_340 := n5_; have NB340_338 := n6_; clear n0_ n1_ n2_ n3_ n4_ n5_ n6_; clear hb hbox hg; have hnb165 := NB340_338.out; have hnc165 := NB338_340.out; have hcz166_0 : w164.cell? ⟨gb340, 0, none⟩ = some (.int .i64 0) := (blk_cell BK340.out 0).trans rfl; have hcz166_1 : w164.cell? ⟨gb340, 1, none⟩ = some (.int .i64 0) := (blk_cell BK340.out 1).trans rfl; have hfz166_0 := blk_frozen BK340.out 0; have hfz166_1 := blk_frozen BK340.out 1; have p341 : 0 ≤ (x5_2 : Int) := oa; have q341 : x5_2 < (l0.length : Int) := oa; obtain ⟨ad341, e341, hx341_0, hx341_1⟩ := at_T33 HR0.out x5_2 p341 q341; obtain rfl : ad337 = ad341 := (by injection e341); have hn341_0 : ad337.block ≠ gb340 := Nat.ne_of_lt (cl hx341_0 GW340.out); have hn341_1 : ad337.block ≠ gb340 := Nat.ne_of_lt (cl hx341_0 GW340.out); replace hx341_0 := (HB.out.cell (World.block_lt_of_cell? w _ hx341_0)).trans hx341_0; replace hx341_1 := (HB.out.cell (World.block_lt_of_cell? w _ hx341_1)).trans hx341_1; replace hx341_0 := (cell_far (p := ⟨gb340, 0, none⟩) (nb hn341_0) (.int .i64 ((rd_T33 l0 (ji10)).f0))).trans hx341_0; replace hx341_1 := (cell_far (p := ⟨gb340, 0, none⟩) (nb hn341_0) (.int .i64 ((rd_T33 l0 (ji10)).f0))).trans hx341_1; replace hx341_0 := (cell_far (p := ⟨gb340, 1, none⟩) (nb hn341_1) (.int .i64 ((rd_T33 l0 (ji10)).f1))).trans hx341_0; replace hx341_1 := (cell_far (p := ⟨gb340, 1, none⟩) (nb hn341_1) (.int .i64 ((rd_T33 l0 (ji10)).f1))).trans hx341_1; clear hn341_0; clear hn341_1; replace p341 := eq_true p341; replace q341 := eq_true q341) | ((with_reducible refine gate_dst (N := 8) rfl ?_); refine bx_ 8 (cs := #[.int .i64 0, .int .i64 0]) (t := 33) ?_; intro gb342 hg w167 hbox hb; have n0_ := Aside0.mk (blk_below (bf BK338.out) hb); have n1_ := Aside0.mk (blk_below (bp BK340.out) hb); have n2_ := Aside0.mk (below_step (lb HB.out) hb); have n3_ := Aside0.mk (hbox); have n4_ := Aside0.mk ((by rw [hg]; exact (below_size (lb HB.out)) : w.heap.size ≤ gb342)); have n5_ := Aside0.mk ((by rw [hg]; exact (below_size (lb HB.out)) : w.heap.size ≤ gb342)); have n6_ := Aside0.mk ((by rw [hg]; exact Nat.ne_of_lt (blk_lt (bf BK338.out)) : gb338 ≠ gb342)); have n7_ := Aside0.mk ((by rw [hg]; exact Nat.ne_of_gt (blk_lt (bf BK338.out)) : gb342 ≠ gb338)); have n8_ := Aside0.mk ((by rw [hg]; exact Nat.ne_of_lt (blk_lt (bp BK340.out)) : gb340 ≠ gb342)); have n9_ := Aside0.mk ((by rw [hg]; exact Nat.ne_of_gt (blk_lt (bp BK340.out)) : gb342 ≠ gb340)); clear BK338; clear BK340; clear HB; have BK338 := n0_; have BK340 := n1_; have HB := n2_; have BK342 := n3_; have GW342 := n4_; have GE342 := n5_; have NB338_342 := n6_; have NB342_338 := n7_; have NB340_342 := n8_; have NB342_340 := n9_; clear n0_ n1_ n2_ n3_ n4_ n5_ n6_ n7_ n8_ n9_; clear hb hbox hg; have hnb168 := NB342_338.out; have hnc168 := NB338_342.out; have hnb169 := NB342_340.out; have hnc169 := NB340_342.out; have hcz170_0 : w167.cell? ⟨gb342, 0, none⟩ = some (.int .i64 0) := (blk_cell BK342.out 0).trans rfl; have hcz170_1 : w167.cell? ⟨gb342, 1, none⟩ = some (.int .i64 0) := (blk_cell BK342.out 1).trans rfl; have hfz170_0 := blk_frozen BK342.out 0; have hfz170_1 := blk_frozen BK342.out 1; have p343 : 0 ≤ ((ji15) : Int) := oa; have q343 : (ji15) < (l0.length : Int) := oa; obtain ⟨ad343, e343, hx343_0, hx343_1⟩ := at_T33 HR0.out (ji15) p343 q343; obtain rfl : ad337 = ad343 := (by injection e343); have hn343_0 : ad337.block ≠ gb342 := Nat.ne_of_lt (cl hx343_0 GW342.out); have hn343_1 : ad337.block ≠ gb342 := Nat.ne_of_lt (cl hx343_0 GW342.out); replace hx343_0 := (HB.out.cell (World.block_lt_of_cell? w _ hx343_0)).trans hx343_0; replace hx343_1 := (HB.out.cell (World.block_lt_of_cell? w _ hx343_1)).trans hx343_1; replace hx343_0 := (cell_far (p := ⟨gb342, 0, none⟩) (nb hn343_0) (.int .i64 ((rd_T33 l0 x5_2).f0))).trans hx343_0; replace hx343_1 := (cell_far (p := ⟨gb342, 0, none⟩) (nb hn343_0) (.int .i64 ((rd_T33 l0 x5_2).f0))).trans hx343_1; replace hx343_0 := (cell_far (p := ⟨gb342, 1, none⟩) (nb hn343_1) (.int .i64 ((rd_T33 l0 x5_2).f1))).trans hx343_0; replace hx343_1 := (cell_far (p := ⟨gb342, 1, none⟩) (nb hn343_1) (.int .i64 ((rd_T33 l0 x5_2).f1))).trans hx343_1; clear hn343_0; clear hn343_1; replace p343 := eq_true p343; replace q343 := eq_true q343) | ((with_reducible refine gate_dst (N := 9) rfl ?_); refine bx_ 9 (cs := #[.int .i64 0, .int .i64 0]) (t := 33) ?_; intro gb344 hg w171 hbox hb; have n0_ := Aside0.mk (blk_below (bf BK338.out) hb); have n1_ := Aside0.mk (blk_below (bf BK340.out) hb); have n2_ := Aside0.mk (blk_below (bp BK342.out) hb); have n3_ := Aside0.mk (below_step (lb HB.out) hb); have n4_ := Aside0.mk (hbox); have n5_ := Aside0.mk ((by rw [hg]; exact (below_size (lb HB.out)) : w.heap.size ≤ gb344)); have n6_ := Aside0.mk ((by rw [hg]; exact (below_size (lb HB.out)) : w.heap.size ≤ gb344)); have n7_ := Aside0.mk ((by rw [hg]; exact Nat.ne_of_lt (blk_lt (bf BK338.out)) : gb338 ≠ gb344)); have n8_ := Aside0.mk ((by rw [hg]; exact Nat.ne_of_gt (blk_lt (bf BK338.out)) : gb344 ≠ gb338)); have n9_ := Aside0.mk ((by rw [hg]; exact Nat.ne_of_lt (blk_lt (bf BK340.out)) : gb340 ≠ gb344)); have n10_ := Aside0.mk ((by rw [hg]; exact Nat.ne_of_gt (blk_lt (bf BK340.out)) : gb344 ≠ gb340)); have n11_ := Aside0.mk ((by rw [hg]; exact Nat.ne_of_lt (blk_lt (bp BK342.out)) : gb342 ≠ gb344)); have n12_ := Aside0.mk ((by rw [hg]; exact Nat.ne_of_gt (blk_lt (bp BK342.out)) : gb344 ≠ gb342)); clear BK338; clear BK340; clear BK342; clear HB; have BK338 := n0_; have BK340 := n1_; have BK342 := n2_; have HB := n3_; have BK344 := n4_; have GW344 := n5_; have GE344 := n6_; have NB338_344 := n7_; have NB344_338 := n8_; have NB340_344 := n9_; have NB344_340 := n10_; have NB342_344 := n11_; have NB344_342 := n12_; clear n0_ n1_ n2_ n3_ n4_ n5_ n6_ n7_ n8_ n9_ n10_ n11_ n12_; clear hb hbox hg; have hnb172 := NB344_338.out; have hnc172 := NB338_344.out; have hnb173 := NB344_340.out; have hnc173 := NB340_344.out; have hnb174 := NB344_342.out; have hnc174 := NB342_344.out; have hcz175_0 : w171.cell? ⟨gb344, 0, none⟩ = some (.int .i64 0) := (blk_cell BK344.out 0).trans rfl; have hcz175_1 : w171.cell? ⟨gb344, 1, none⟩ = some (.int .i64 0) := (blk_cell BK344.out 1).trans rfl; have hfz175_0 := blk_frozen BK344.out 0; have hfz175_1 := blk_frozen BK344.out 1; have hcz176_0 : w171.cell? ⟨gb342, 0, none⟩ = some (.int .i64 ((rd_T33 l0 x5_2).f0)) := (blk_cell BK342.out 0).trans rfl; have hcz176_1 : w171.cell? ⟨gb342, 1, none⟩ = some (.int .i64 ((rd_T33 l0 x5_2).f1)) := (blk_cell BK342.out 1).trans rfl; have hfz176_0 := blk_frozen BK342.out 0; have hfz176_1 := blk_frozen BK342.out 1; have hcz177_0 : w171.cell? ⟨gb340, 0, none⟩ = some (.int .i64 ((rd_T33 l0 (ji10)).f0)) := (blk_cell BK340.out 0).trans rfl; have hcz177_1 : w171.cell? ⟨gb340, 1, none⟩ = some (.int .i64 ((rd_T33 l0 (ji10)).f1)) := (blk_cell BK340.out 1).trans rfl; have hfz177_0 := blk_frozen BK340.out 0; have hfz177_1 := blk_frozen BK340.out 1) | ((with_reducible refine gate_callee (f := 87) rfl ?_); refine goesL_ (some 89) rfl rfl Try.func87 (by kernel_rfl) rfl #[.agg #[.int .i64 ((rd_T33 l0 x5_2).f0), .int .i64 ((rd_T33 l0 x5_2).f1)], .agg #[.int .i64 ((rd_T33 l0 (ji15)).f0), .int .i64 ((rd_T33 l0 (ji15)).f1)], .agg #[.int .i64 ((rd_T33 l0 (ji10)).f0), .int .i64 ((rd_T33 l0 (ji10)).f1)]] rfl (by (try simp only [List.map_toArray, List.map_cons, List.map_nil]); first | done | (simp only [hji10, hji15]; rfl) | rfl | (simp only [List.length_drop, List.length_take]; rfl)) ?_; (with_reducible refine (spec_l2On.calls ((rd_T33 l0 x5_2).f0) ((rd_T33 l0 x5_2).f1) ((rd_T33 l0 (ji15)).f0) ((rd_T33 l0 (ji15)).f1) ((rd_T33 l0 (ji10)).f0) ((rd_T33 l0 (ji10)).f1) false _ A120.out).mono ?_); rintro e w178 ⟨rfl, hb⟩; refine ⟨_, rfl, ?_⟩; have n0_ := Aside0.mk (blk_below (bf BK338.out) hb); have n1_ := Aside0.mk (blk_below (bf BK340.out) hb); have n2_ := Aside0.mk (blk_below (bf BK342.out) hb); have n3_ := Aside0.mk (blk_below (bp BK344.out) hb); have n4_ := Aside0.mk (below_step (lb HB.out) hb); clear BK338; clear BK340; clear BK342; clear BK344; clear HB; have BK338 := n0_; have BK340 := n1_; have BK342 := n2_; have BK344 := n3_; have HB := n4_; clear n0_ n1_ n2_ n3_ n4_; (try clear hb); (try clear hb2); (try clear hk); (try clear hi); have hcz179_0 : w178.cell? ⟨gb338, 0, none⟩ = some (.int .i64 ((rd_T33 l0 x4_1).f0)) := (blk_cell BK338.out 0).trans rfl; have hcz179_1 : w178.cell? ⟨gb338, 1, none⟩ = some (.int .i64 ((rd_T33 l0 x4_1).f1)) := (blk_cell BK338.out 1).trans rfl; have hfz179_0 := blk_frozen BK338.out 0; have hfz179_1 := blk_frozen BK338.out 1; have hcz180_0 : w178.cell? ⟨gb340, 0, none⟩ = some (.int .i64 ((rd_T33 l0 (ji10)).f0)) := (blk_cell BK340.out 0).trans rfl; have hcz180_1 : w178.cell? ⟨gb340, 1, none⟩ = some (.int .i64 ((rd_T33 l0 (ji10)).f1)) := (blk_cell BK340.out 1).trans rfl; have hfz180_0 := blk_frozen BK340.out 0; have hfz180_1 := blk_frozen BK340.out 1; have hcz181_0 : w178.cell? ⟨gb342, 0, none⟩ = some (.int .i64 ((rd_T33 l0 x5_2).f0)) := (blk_cell BK342.out 0).trans rfl; have hcz181_1 : w178.cell? ⟨gb342, 1, none⟩ = some (.int .i64 ((rd_T33 l0 x5_2).f1)) := (blk_cell BK342.out 1).trans rfl; have hfz181_0 := blk_frozen BK342.out 0; have hfz181_1 := blk_frozen BK342.out 1) | (go_at_call 87; (with_reducible refine (spec_l2On.calls ((rd_T33 l0 x4_1).f0) ((rd_T33 l0 x4_1).f1) ((rd_T33 l0 (ji10)).f0) ((rd_T33 l0 (ji10)).f1) ((rd_T33 l0 x5_2).f0) ((rd_T33 l0 x5_2).f1) false _ A139.out).mono ?_); rintro e w182 ⟨rfl, hb⟩; have n0_ := Aside0.mk (blk_below (bf BK338.out) hb); have n1_ := Aside0.mk (blk_below (bf BK340.out) hb); have n2_ := Aside0.mk (blk_below (bf BK342.out) hb); have n3_ := Aside0.mk (blk_below (bf BK344.out) hb); have n4_ := Aside0.mk (below_step (lb HB.out) hb); clear BK338; clear BK340; clear BK342; clear BK344; clear HB; have BK338 := n0_; have BK340 := n1_; have BK342 := n2_; have BK344 := n3_; have HB := n4_; clear n0_ n1_ n2_ n3_ n4_; (try clear hb); (try clear hb2); (try clear hk); (try clear hi)))
                     go_roundg k2
                     case measure => have := HK1.out; have := HK2.out; omega
                     case rel => exact ⟨(wrap64 (x5_2 + 1)), (by first | rfl | (simp; done) | (simp [*]; done)), H', ⟨by have := HK1.out; have := HK2.out; omega⟩, ⟨lb HB.out⟩⟩
                  ·rw [if_neg c119] at H
                   have c119b0 : ((ji15) == x4_1) = false := beq_eq_false_iff_ne.mpr c119
                   have c119b1 : ((ji15) != x4_1) = true := bne_iff_ne.mpr c119
                   replace H := Option.bind_eq_some_iff.mp H
                   obtain ⟨t349, A1830, H⟩ := H
                   replace H : (if t349 = true then (some false) else (spec_PolyValid.l1 k2 l0 (l0.length : Int) x4_1 (wrap64 (x5_2 + 1)))) = some r := H
                   have A183 := Aside0.mk A1830
                   clear A1830
                   by_cases c184 : t349 = true
                   ·subst c184
                    have H1 : (some false) = some r := by rw [if_pos rfl] at H; exact H
                    clear H
                    have H := H1
                    clear H1
                    obtain rfl := Option.some.inj H
                    have p337 : 0 ≤ (x4_1 : Int) := oa
                    have q337 : x4_1 < (l0.length : Int) := oa
                    obtain ⟨ad337, e337, hx337_0, hx337_1⟩ := at_T33 HR0.out x4_1 p337 q337
                    cases e337
                    replace hx337_0 := (HB.out.cell (World.block_lt_of_cell? w _ hx337_0)).trans hx337_0
                    replace hx337_1 := (HB.out.cell (World.block_lt_of_cell? w _ hx337_1)).trans hx337_1
                    replace p337 := eq_true p337
                    replace q337 := eq_true q337
                    go_wp2_with (first | ((with_reducible refine gate_dst (N := 6) rfl ?_); refine bx_ 6 (cs := #[.int .i64 0, .int .i64 0]) (t := 33) ?_; intro gb338 hg w185 hbox hb; have n0_ := Aside0.mk (below_step (lb HB.out) hb); have n1_ := Aside0.mk (hbox); have n2_ := Aside0.mk ((by rw [hg]; exact (below_size (lb HB.out)) : w.heap.size ≤ gb338)); have n3_ := Aside0.mk ((by rw [hg]; exact (below_size (lb HB.out)) : w.heap.size ≤ gb338)); clear HB; have HB := n0_; have BK338 := n1_; have GW338 := n2_; have GE338 := n3_; clear n0_ n1_ n2_ n3_; clear hb hbox hg; have hcz186_0 : w185.cell? ⟨gb338, 0, none⟩ = some (.int .i64 0) := (blk_cell BK338.out 0).trans rfl; have hcz186_1 : w185.cell? ⟨gb338, 1, none⟩ = some (.int .i64 0) := (blk_cell BK338.out 1).trans rfl; have hfz186_0 := blk_frozen BK338.out 0; have hfz186_1 := blk_frozen BK338.out 1; have p339 : 0 ≤ ((ji10) : Int) := oa; have q339 : (ji10) < (l0.length : Int) := oa; obtain ⟨ad339, e339, hx339_0, hx339_1⟩ := at_T33 HR0.out (ji10) p339 q339; obtain rfl : ad337 = ad339 := (by injection e339); have hn339_0 : ad337.block ≠ gb338 := Nat.ne_of_lt (cl hx339_0 GW338.out); have hn339_1 : ad337.block ≠ gb338 := Nat.ne_of_lt (cl hx339_0 GW338.out); replace hx339_0 := (HB.out.cell (World.block_lt_of_cell? w _ hx339_0)).trans hx339_0; replace hx339_1 := (HB.out.cell (World.block_lt_of_cell? w _ hx339_1)).trans hx339_1; replace hx339_0 := (cell_far (p := ⟨gb338, 0, none⟩) (nb hn339_0) (.int .i64 ((rd_T33 l0 x4_1).f0))).trans hx339_0; replace hx339_1 := (cell_far (p := ⟨gb338, 0, none⟩) (nb hn339_0) (.int .i64 ((rd_T33 l0 x4_1).f0))).trans hx339_1; replace hx339_0 := (cell_far (p := ⟨gb338, 1, none⟩) (nb hn339_1) (.int .i64 ((rd_T33 l0 x4_1).f1))).trans hx339_0; replace hx339_1 := (cell_far (p := ⟨gb338, 1, none⟩) (nb hn339_1) (.int .i64 ((rd_T33 l0 x4_1).f1))).trans hx339_1; clear hn339_0; clear hn339_1; replace p339 := eq_true p339; replace q339 := eq_true q339) | ((with_reducible refine gate_dst (N := 7) rfl ?_); refine bx_ 7 (cs := #[.int .i64 0, .int .i64 0]) (t := 33) ?_; intro gb340 hg w187 hbox hb; have n0_ := Aside0.mk (blk_below (bp BK338.out) hb); have n1_ := Aside0.mk (below_step (lb HB.out) hb); have n2_ := Aside0.mk (hbox); have n3_ := Aside0.mk ((by rw [hg]; exact (below_size (lb HB.out)) : w.heap.size ≤ gb340)); have n4_ := Aside0.mk ((by rw [hg]; exact (below_size (lb HB.out)) : w.heap.size ≤ gb340)); have n5_ := Aside0.mk ((by rw [hg]; exact Nat.ne_of_lt (blk_lt (bp BK338.out)) : gb338 ≠ gb340)); have n6_ := Aside0.mk ((by rw [hg]; exact Nat.ne_of_gt (blk_lt (bp BK338.out)) : gb340 ≠ gb338)); clear BK338; clear HB; have BK338 := n0_; have HB := n1_; have BK340 := n2_; have GW340 := n3_; have GE340 := n4_; have NB338_340 := n5_; have NB340_338 := n6_; clear n0_ n1_ n2_ n3_ n4_ n5_ n6_; clear hb hbox hg; have hnb188 := NB340_338.out; have hnc188 := NB338_340.out; have hcz189_0 : w187.cell? ⟨gb340, 0, none⟩ = some (.int .i64 0) := (blk_cell BK340.out 0).trans rfl; have hcz189_1 : w187.cell? ⟨gb340, 1, none⟩ = some (.int .i64 0) := (blk_cell BK340.out 1).trans rfl; have hfz189_0 := blk_frozen BK340.out 0; have hfz189_1 := blk_frozen BK340.out 1; have p341 : 0 ≤ (x5_2 : Int) := oa; have q341 : x5_2 < (l0.length : Int) := oa; obtain ⟨ad341, e341, hx341_0, hx341_1⟩ := at_T33 HR0.out x5_2 p341 q341; obtain rfl : ad337 = ad341 := (by injection e341); have hn341_0 : ad337.block ≠ gb340 := Nat.ne_of_lt (cl hx341_0 GW340.out); have hn341_1 : ad337.block ≠ gb340 := Nat.ne_of_lt (cl hx341_0 GW340.out); replace hx341_0 := (HB.out.cell (World.block_lt_of_cell? w _ hx341_0)).trans hx341_0; replace hx341_1 := (HB.out.cell (World.block_lt_of_cell? w _ hx341_1)).trans hx341_1; replace hx341_0 := (cell_far (p := ⟨gb340, 0, none⟩) (nb hn341_0) (.int .i64 ((rd_T33 l0 (ji10)).f0))).trans hx341_0; replace hx341_1 := (cell_far (p := ⟨gb340, 0, none⟩) (nb hn341_0) (.int .i64 ((rd_T33 l0 (ji10)).f0))).trans hx341_1; replace hx341_0 := (cell_far (p := ⟨gb340, 1, none⟩) (nb hn341_1) (.int .i64 ((rd_T33 l0 (ji10)).f1))).trans hx341_0; replace hx341_1 := (cell_far (p := ⟨gb340, 1, none⟩) (nb hn341_1) (.int .i64 ((rd_T33 l0 (ji10)).f1))).trans hx341_1; clear hn341_0; clear hn341_1; replace p341 := eq_true p341; replace q341 := eq_true q341) | ((with_reducible refine gate_dst (N := 8) rfl ?_); refine bx_ 8 (cs := #[.int .i64 0, .int .i64 0]) (t := 33) ?_; intro gb342 hg w190 hbox hb; have n0_ := Aside0.mk (blk_below (bf BK338.out) hb); have n1_ := Aside0.mk (blk_below (bp BK340.out) hb); have n2_ := Aside0.mk (below_step (lb HB.out) hb); have n3_ := Aside0.mk (hbox); have n4_ := Aside0.mk ((by rw [hg]; exact (below_size (lb HB.out)) : w.heap.size ≤ gb342)); have n5_ := Aside0.mk ((by rw [hg]; exact (below_size (lb HB.out)) : w.heap.size ≤ gb342)); have n6_ := Aside0.mk ((by rw [hg]; exact Nat.ne_of_lt (blk_lt (bf BK338.out)) : gb338 ≠ gb342)); have n7_ := Aside0.mk ((by rw [hg]; exact Nat.ne_of_gt (blk_lt (bf BK338.out)) : gb342 ≠ gb338)); have n8_ := Aside0.mk ((by rw [hg]; exact Nat.ne_of_lt (blk_lt (bp BK340.out)) : gb340 ≠ gb342)); have n9_ := Aside0.mk ((by rw [hg]; exact Nat.ne_of_gt (blk_lt (bp BK340.out)) : gb342 ≠ gb340)); clear BK338; clear BK340; clear HB; have BK338 := n0_; have BK340 := n1_; have HB := n2_; have BK342 := n3_; have GW342 := n4_; have GE342 := n5_; have NB338_342 := n6_; have NB342_338 := n7_; have NB340_342 := n8_; have NB342_340 := n9_; clear n0_ n1_ n2_ n3_ n4_ n5_ n6_ n7_ n8_ n9_; clear hb hbox hg; have hnb191 := NB342_338.out; have hnc191 := NB338_342.out; have hnb192 := NB342_340.out; have hnc192 := NB340_342.out; have hcz193_0 : w190.cell? ⟨gb342, 0, none⟩ = some (.int .i64 0) := (blk_cell BK342.out 0).trans rfl; have hcz193_1 : w190.cell? ⟨gb342, 1, none⟩ = some (.int .i64 0) := (blk_cell BK342.out 1).trans rfl; have hfz193_0 := blk_frozen BK342.out 0; have hfz193_1 := blk_frozen BK342.out 1; have p343 : 0 ≤ ((ji15) : Int) := oa; have q343 : (ji15) < (l0.length : Int) := oa; obtain ⟨ad343, e343, hx343_0, hx343_1⟩ := at_T33 HR0.out (ji15) p343 q343; obtain rfl : ad337 = ad343 := (by injection e343); have hn343_0 : ad337.block ≠ gb342 := Nat.ne_of_lt (cl hx343_0 GW342.out); have hn343_1 : ad337.block ≠ gb342 := Nat.ne_of_lt (cl hx343_0 GW342.out); replace hx343_0 := (HB.out.cell (World.block_lt_of_cell? w _ hx343_0)).trans hx343_0; replace hx343_1 := (HB.out.cell (World.block_lt_of_cell? w _ hx343_1)).trans hx343_1; replace hx343_0 := (cell_far (p := ⟨gb342, 0, none⟩) (nb hn343_0) (.int .i64 ((rd_T33 l0 x5_2).f0))).trans hx343_0; replace hx343_1 := (cell_far (p := ⟨gb342, 0, none⟩) (nb hn343_0) (.int .i64 ((rd_T33 l0 x5_2).f0))).trans hx343_1; replace hx343_0 := (cell_far (p := ⟨gb342, 1, none⟩) (nb hn343_1) (.int .i64 ((rd_T33 l0 x5_2).f1))).trans hx343_0; replace hx343_1 := (cell_far (p := ⟨gb342, 1, none⟩) (nb hn343_1) (.int .i64 ((rd_T33 l0 x5_2).f1))).trans hx343_1; clear hn343_0; clear hn343_1; replace p343 := eq_true p343; replace q343 := eq_true q343) | ((with_reducible refine gate_dst (N := 9) rfl ?_); refine bx_ 9 (cs := #[.int .i64 0, .int .i64 0]) (t := 33) ?_; intro gb344 hg w194 hbox hb; have n0_ := Aside0.mk (blk_below (bf BK338.out) hb); have n1_ := Aside0.mk (blk_below (bf BK340.out) hb); have n2_ := Aside0.mk (blk_below (bp BK342.out) hb); have n3_ := Aside0.mk (below_step (lb HB.out) hb); have n4_ := Aside0.mk (hbox); have n5_ := Aside0.mk ((by rw [hg]; exact (below_size (lb HB.out)) : w.heap.size ≤ gb344)); have n6_ := Aside0.mk ((by rw [hg]; exact (below_size (lb HB.out)) : w.heap.size ≤ gb344)); have n7_ := Aside0.mk ((by rw [hg]; exact Nat.ne_of_lt (blk_lt (bf BK338.out)) : gb338 ≠ gb344)); have n8_ := Aside0.mk ((by rw [hg]; exact Nat.ne_of_gt (blk_lt (bf BK338.out)) : gb344 ≠ gb338)); have n9_ := Aside0.mk ((by rw [hg]; exact Nat.ne_of_lt (blk_lt (bf BK340.out)) : gb340 ≠ gb344)); have n10_ := Aside0.mk ((by rw [hg]; exact Nat.ne_of_gt (blk_lt (bf BK340.out)) : gb344 ≠ gb340)); have n11_ := Aside0.mk ((by rw [hg]; exact Nat.ne_of_lt (blk_lt (bp BK342.out)) : gb342 ≠ gb344)); have n12_ := Aside0.mk ((by rw [hg]; exact Nat.ne_of_gt (blk_lt (bp BK342.out)) : gb344 ≠ gb342)); clear BK338; clear BK340; clear BK342; clear HB; have BK338 := n0_; have BK340 := n1_; have BK342 := n2_; have HB := n3_; have BK344 := n4_; have GW344 := n5_; have GE344 := n6_; have NB338_344 := n7_; have NB344_338 := n8_; have NB340_344 := n9_; have NB344_340 := n10_; have NB342_344 := n11_; have NB344_342 := n12_; clear n0_ n1_ n2_ n3_ n4_ n5_ n6_ n7_ n8_ n9_ n10_ n11_ n12_; clear hb hbox hg; have hnb195 := NB344_338.out; have hnc195 := NB338_344.out; have hnb196 := NB344_340.out; have hnc196 := NB340_344.out; have hnb197 := NB344_342.out; have hnc197 := NB342_344.out; have hcz198_0 : w194.cell? ⟨gb344, 0, none⟩ = some (.int .i64 0) := (blk_cell BK344.out 0).trans rfl; have hcz198_1 : w194.cell? ⟨gb344, 1, none⟩ = some (.int .i64 0) := (blk_cell BK344.out 1).trans rfl; have hfz198_0 := blk_frozen BK344.out 0; have hfz198_1 := blk_frozen BK344.out 1; have hcz199_0 : w194.cell? ⟨gb338, 0, none⟩ = some (.int .i64 ((rd_T33 l0 x4_1).f0)) := (blk_cell BK338.out 0).trans rfl; have hcz199_1 : w194.cell? ⟨gb338, 1, none⟩ = some (.int .i64 ((rd_T33 l0 x4_1).f1)) := (blk_cell BK338.out 1).trans rfl; have hfz199_0 := blk_frozen BK338.out 0; have hfz199_1 := blk_frozen BK338.out 1; have hcz200_0 : w194.cell? ⟨gb340, 0, none⟩ = some (.int .i64 ((rd_T33 l0 (ji10)).f0)) := (blk_cell BK340.out 0).trans rfl; have hcz200_1 : w194.cell? ⟨gb340, 1, none⟩ = some (.int .i64 ((rd_T33 l0 (ji10)).f1)) := (blk_cell BK340.out 1).trans rfl; have hfz200_0 := blk_frozen BK340.out 0; have hfz200_1 := blk_frozen BK340.out 1; have hcz201_0 : w194.cell? ⟨gb342, 0, none⟩ = some (.int .i64 ((rd_T33 l0 x5_2).f0)) := (blk_cell BK342.out 0).trans rfl; have hcz201_1 : w194.cell? ⟨gb342, 1, none⟩ = some (.int .i64 ((rd_T33 l0 x5_2).f1)) := (blk_cell BK342.out 1).trans rfl; have hfz201_0 := blk_frozen BK342.out 0; have hfz201_1 := blk_frozen BK342.out 1) | ((with_reducible refine gate_callee (f := 62) rfl ?_); refine goesL_ (some 53) rfl rfl Try.func62 (by kernel_rfl) rfl #[.agg #[.int .i64 ((rd_T33 l0 x4_1).f0), .int .i64 ((rd_T33 l0 x4_1).f1)], .agg #[.int .i64 ((rd_T33 l0 (ji10)).f0), .int .i64 ((rd_T33 l0 (ji10)).f1)], .agg #[.int .i64 ((rd_T33 l0 x5_2).f0), .int .i64 ((rd_T33 l0 x5_2).f1)], .agg #[.int .i64 ((rd_T33 l0 (ji15)).f0), .int .i64 ((rd_T33 l0 (ji15)).f1)]] rfl (by (try simp only [List.map_toArray, List.map_cons, List.map_nil]); first | done | (simp only [hji10, hji15]; rfl) | rfl | (simp only [List.length_drop, List.length_take]; rfl)) ?_; (with_reducible refine (spec_l31Meet.calls k2 ((rd_T33 l0 x4_1).f0) ((rd_T33 l0 x4_1).f1) ((rd_T33 l0 (ji10)).f0) ((rd_T33 l0 (ji10)).f1) ((rd_T33 l0 x5_2).f0) ((rd_T33 l0 x5_2).f1) ((rd_T33 l0 (ji15)).f0) ((rd_T33 l0 (ji15)).f1) true _ A183.out).mono ?_); rintro e w202 ⟨rfl, hb⟩; refine ⟨_, rfl, ?_⟩; have n0_ := Aside0.mk (blk_below (bf BK338.out) hb); have n1_ := Aside0.mk (blk_below (bf BK340.out) hb); have n2_ := Aside0.mk (blk_below (bf BK342.out) hb); have n3_ := Aside0.mk (blk_below (bp BK344.out) hb); have n4_ := Aside0.mk (below_step (lb HB.out) hb); clear BK338; clear BK340; clear BK342; clear BK344; clear HB; have BK338 := n0_; have BK340 := n1_; have BK342 := n2_; have BK344 := n3_; have HB := n4_; clear n0_ n1_ n2_ n3_ n4_; (try clear hb); (try clear hb2); (try clear hk); (try clear hi)))
                    go_ret
                    exact ⟨by first | rfl | (simp [errW_none, errW_some] <;> rfl) | (simp only [← hji10, ← hji15]; first | rfl | (simp [errW_none, errW_some] <;> rfl)) | (simp [*, errW_none, errW_some] <;> rfl), lb HB.out⟩
                   ·replace c184 := Bool.eq_false_iff.mpr c184
                    subst c184
                    have H1 : (spec_PolyValid.l1 k2 l0 (l0.length : Int) x4_1 (wrap64 (x5_2 + 1))) = some r := by rw [if_neg (show ¬ (false = true) by decide)] at H; exact H
                    clear H
                    have H := H1
                    clear H1
                    have H' := Aside0.mk H
                    clear H
                    have p337 : 0 ≤ (x4_1 : Int) := oa
                    have q337 : x4_1 < (l0.length : Int) := oa
                    obtain ⟨ad337, e337, hx337_0, hx337_1⟩ := at_T33 HR0.out x4_1 p337 q337
                    cases e337
                    replace hx337_0 := (HB.out.cell (World.block_lt_of_cell? w _ hx337_0)).trans hx337_0
                    replace hx337_1 := (HB.out.cell (World.block_lt_of_cell? w _ hx337_1)).trans hx337_1
                    replace p337 := eq_true p337
                    replace q337 := eq_true q337
                    go_wp2_with (first | ((with_reducible refine gate_dst (N := 6) rfl ?_); refine bx_ 6 (cs := #[.int .i64 0, .int .i64 0]) (t := 33) ?_; intro gb338 hg w203 hbox hb; have n0_ := Aside0.mk (below_step (lb HB.out) hb); have n1_ := Aside0.mk (hbox); have n2_ := Aside0.mk ((by rw [hg]; exact (below_size (lb HB.out)) : w.heap.size ≤ gb338)); have n3_ := Aside0.mk ((by rw [hg]; exact (below_size (lb HB.out)) : w.heap.size ≤ gb338)); clear HB; have HB := n0_; have BK338 := n1_; have GW338 := n2_; have GE338 := n3_; clear n0_ n1_ n2_ n3_; clear hb hbox hg; have hcz204_0 : w203.cell? ⟨gb338, 0, none⟩ = some (.int .i64 0) := (blk_cell BK338.out 0).trans rfl; have hcz204_1 : w203.cell? ⟨gb338, 1, none⟩ = some (.int .i64 0) := (blk_cell BK338.out 1).trans rfl; have hfz204_0 := blk_frozen BK338.out 0; have hfz204_1 := blk_frozen BK338.out 1; have p339 : 0 ≤ ((ji10) : Int) := oa; have q339 : (ji10) < (l0.length : Int) := oa; obtain ⟨ad339, e339, hx339_0, hx339_1⟩ := at_T33 HR0.out (ji10) p339 q339; obtain rfl : ad337 = ad339 := (by injection e339); have hn339_0 : ad337.block ≠ gb338 := Nat.ne_of_lt (cl hx339_0 GW338.out); have hn339_1 : ad337.block ≠ gb338 := Nat.ne_of_lt (cl hx339_0 GW338.out); replace hx339_0 := (HB.out.cell (World.block_lt_of_cell? w _ hx339_0)).trans hx339_0; replace hx339_1 := (HB.out.cell (World.block_lt_of_cell? w _ hx339_1)).trans hx339_1; replace hx339_0 := (cell_far (p := ⟨gb338, 0, none⟩) (nb hn339_0) (.int .i64 ((rd_T33 l0 x4_1).f0))).trans hx339_0; replace hx339_1 := (cell_far (p := ⟨gb338, 0, none⟩) (nb hn339_0) (.int .i64 ((rd_T33 l0 x4_1).f0))).trans hx339_1; replace hx339_0 := (cell_far (p := ⟨gb338, 1, none⟩) (nb hn339_1) (.int .i64 ((rd_T33 l0 x4_1).f1))).trans hx339_0; replace hx339_1 := (cell_far (p := ⟨gb338, 1, none⟩) (nb hn339_1) (.int .i64 ((rd_T33 l0 x4_1).f1))).trans hx339_1; clear hn339_0; clear hn339_1; replace p339 := eq_true p339; replace q339 := eq_true q339) | ((with_reducible refine gate_dst (N := 7) rfl ?_); refine bx_ 7 (cs := #[.int .i64 0, .int .i64 0]) (t := 33) ?_; intro gb340 hg w205 hbox hb; have n0_ := Aside0.mk (blk_below (bp BK338.out) hb); have n1_ := Aside0.mk (below_step (lb HB.out) hb); have n2_ := Aside0.mk (hbox); have n3_ := Aside0.mk ((by rw [hg]; exact (below_size (lb HB.out)) : w.heap.size ≤ gb340)); have n4_ := Aside0.mk ((by rw [hg]; exact (below_size (lb HB.out)) : w.heap.size ≤ gb340)); have n5_ := Aside0.mk ((by rw [hg]; exact Nat.ne_of_lt (blk_lt (bp BK338.out)) : gb338 ≠ gb340)); have n6_ := Aside0.mk ((by rw [hg]; exact Nat.ne_of_gt (blk_lt (bp BK338.out)) : gb340 ≠ gb338)); clear BK338; clear HB; have BK338 := n0_; have HB := n1_; have BK340 := n2_; have GW340 := n3_; have GE340 := n4_; have NB338_340 := n5_; have NB340_338 := n6_; clear n0_ n1_ n2_ n3_ n4_ n5_ n6_; clear hb hbox hg; have hnb206 := NB340_338.out; have hnc206 := NB338_340.out; have hcz207_0 : w205.cell? ⟨gb340, 0, none⟩ = some (.int .i64 0) := (blk_cell BK340.out 0).trans rfl; have hcz207_1 : w205.cell? ⟨gb340, 1, none⟩ = some (.int .i64 0) := (blk_cell BK340.out 1).trans rfl; have hfz207_0 := blk_frozen BK340.out 0; have hfz207_1 := blk_frozen BK340.out 1; have p341 : 0 ≤ (x5_2 : Int) := oa; have q341 : x5_2 < (l0.length : Int) := oa; obtain ⟨ad341, e341, hx341_0, hx341_1⟩ := at_T33 HR0.out x5_2 p341 q341; obtain rfl : ad337 = ad341 := (by injection e341); have hn341_0 : ad337.block ≠ gb340 := Nat.ne_of_lt (cl hx341_0 GW340.out); have hn341_1 : ad337.block ≠ gb340 := Nat.ne_of_lt (cl hx341_0 GW340.out); replace hx341_0 := (HB.out.cell (World.block_lt_of_cell? w _ hx341_0)).trans hx341_0; replace hx341_1 := (HB.out.cell (World.block_lt_of_cell? w _ hx341_1)).trans hx341_1; replace hx341_0 := (cell_far (p := ⟨gb340, 0, none⟩) (nb hn341_0) (.int .i64 ((rd_T33 l0 (ji10)).f0))).trans hx341_0; replace hx341_1 := (cell_far (p := ⟨gb340, 0, none⟩) (nb hn341_0) (.int .i64 ((rd_T33 l0 (ji10)).f0))).trans hx341_1; replace hx341_0 := (cell_far (p := ⟨gb340, 1, none⟩) (nb hn341_1) (.int .i64 ((rd_T33 l0 (ji10)).f1))).trans hx341_0; replace hx341_1 := (cell_far (p := ⟨gb340, 1, none⟩) (nb hn341_1) (.int .i64 ((rd_T33 l0 (ji10)).f1))).trans hx341_1; clear hn341_0; clear hn341_1; replace p341 := eq_true p341; replace q341 := eq_true q341) | ((with_reducible refine gate_dst (N := 8) rfl ?_); refine bx_ 8 (cs := #[.int .i64 0, .int .i64 0]) (t := 33) ?_; intro gb342 hg w208 hbox hb; have n0_ := Aside0.mk (blk_below (bf BK338.out) hb); have n1_ := Aside0.mk (blk_below (bp BK340.out) hb); have n2_ := Aside0.mk (below_step (lb HB.out) hb); have n3_ := Aside0.mk (hbox); have n4_ := Aside0.mk ((by rw [hg]; exact (below_size (lb HB.out)) : w.heap.size ≤ gb342)); have n5_ := Aside0.mk ((by rw [hg]; exact (below_size (lb HB.out)) : w.heap.size ≤ gb342)); have n6_ := Aside0.mk ((by rw [hg]; exact Nat.ne_of_lt (blk_lt (bf BK338.out)) : gb338 ≠ gb342)); have n7_ := Aside0.mk ((by rw [hg]; exact Nat.ne_of_gt (blk_lt (bf BK338.out)) : gb342 ≠ gb338)); have n8_ := Aside0.mk ((by rw [hg]; exact Nat.ne_of_lt (blk_lt (bp BK340.out)) : gb340 ≠ gb342)); have n9_ := Aside0.mk ((by rw [hg]; exact Nat.ne_of_gt (blk_lt (bp BK340.out)) : gb342 ≠ gb340)); clear BK338; clear BK340; clear HB; have BK338 := n0_; have BK340 := n1_; have HB := n2_; have BK342 := n3_; have GW342 := n4_; have GE342 := n5_; have NB338_342 := n6_; have NB342_338 := n7_; have NB340_342 := n8_; have NB342_340 := n9_; clear n0_ n1_ n2_ n3_ n4_ n5_ n6_ n7_ n8_ n9_; clear hb hbox hg; have hnb209 := NB342_338.out; have hnc209 := NB338_342.out; have hnb210 := NB342_340.out; have hnc210 := NB340_342.out; have hcz211_0 : w208.cell? ⟨gb342, 0, none⟩ = some (.int .i64 0) := (blk_cell BK342.out 0).trans rfl; have hcz211_1 : w208.cell? ⟨gb342, 1, none⟩ = some (.int .i64 0) := (blk_cell BK342.out 1).trans rfl; have hfz211_0 := blk_frozen BK342.out 0; have hfz211_1 := blk_frozen BK342.out 1; have p343 : 0 ≤ ((ji15) : Int) := oa; have q343 : (ji15) < (l0.length : Int) := oa; obtain ⟨ad343, e343, hx343_0, hx343_1⟩ := at_T33 HR0.out (ji15) p343 q343; obtain rfl : ad337 = ad343 := (by injection e343); have hn343_0 : ad337.block ≠ gb342 := Nat.ne_of_lt (cl hx343_0 GW342.out); have hn343_1 : ad337.block ≠ gb342 := Nat.ne_of_lt (cl hx343_0 GW342.out); replace hx343_0 := (HB.out.cell (World.block_lt_of_cell? w _ hx343_0)).trans hx343_0; replace hx343_1 := (HB.out.cell (World.block_lt_of_cell? w _ hx343_1)).trans hx343_1; replace hx343_0 := (cell_far (p := ⟨gb342, 0, none⟩) (nb hn343_0) (.int .i64 ((rd_T33 l0 x5_2).f0))).trans hx343_0; replace hx343_1 := (cell_far (p := ⟨gb342, 0, none⟩) (nb hn343_0) (.int .i64 ((rd_T33 l0 x5_2).f0))).trans hx343_1; replace hx343_0 := (cell_far (p := ⟨gb342, 1, none⟩) (nb hn343_1) (.int .i64 ((rd_T33 l0 x5_2).f1))).trans hx343_0; replace hx343_1 := (cell_far (p := ⟨gb342, 1, none⟩) (nb hn343_1) (.int .i64 ((rd_T33 l0 x5_2).f1))).trans hx343_1; clear hn343_0; clear hn343_1; replace p343 := eq_true p343; replace q343 := eq_true q343) | ((with_reducible refine gate_dst (N := 9) rfl ?_); refine bx_ 9 (cs := #[.int .i64 0, .int .i64 0]) (t := 33) ?_; intro gb344 hg w212 hbox hb; have n0_ := Aside0.mk (blk_below (bf BK338.out) hb); have n1_ := Aside0.mk (blk_below (bf BK340.out) hb); have n2_ := Aside0.mk (blk_below (bp BK342.out) hb); have n3_ := Aside0.mk (below_step (lb HB.out) hb); have n4_ := Aside0.mk (hbox); have n5_ := Aside0.mk ((by rw [hg]; exact (below_size (lb HB.out)) : w.heap.size ≤ gb344)); have n6_ := Aside0.mk ((by rw [hg]; exact (below_size (lb HB.out)) : w.heap.size ≤ gb344)); have n7_ := Aside0.mk ((by rw [hg]; exact Nat.ne_of_lt (blk_lt (bf BK338.out)) : gb338 ≠ gb344)); have n8_ := Aside0.mk ((by rw [hg]; exact Nat.ne_of_gt (blk_lt (bf BK338.out)) : gb344 ≠ gb338)); have n9_ := Aside0.mk ((by rw [hg]; exact Nat.ne_of_lt (blk_lt (bf BK340.out)) : gb340 ≠ gb344)); have n10_ := Aside0.mk ((by rw [hg]; exact Nat.ne_of_gt (blk_lt (bf BK340.out)) : gb344 ≠ gb340)); have n11_ := Aside0.mk ((by rw [hg]; exact Nat.ne_of_lt (blk_lt (bp BK342.out)) : gb342 ≠ gb344)); have n12_ := Aside0.mk ((by rw [hg]; exact Nat.ne_of_gt (blk_lt (bp BK342.out)) : gb344 ≠ gb342)); clear BK338; clear BK340; clear BK342; clear HB; have BK338 := n0_; have BK340 := n1_; have BK342 := n2_; have HB := n3_; have BK344 := n4_; have GW344 := n5_; have GE344 := n6_; have NB338_344 := n7_; have NB344_338 := n8_; have NB340_344 := n9_; have NB344_340 := n10_; have NB342_344 := n11_; have NB344_342 := n12_; clear n0_ n1_ n2_ n3_ n4_ n5_ n6_ n7_ n8_ n9_ n10_ n11_ n12_; clear hb hbox hg; have hnb213 := NB344_338.out; have hnc213 := NB338_344.out; have hnb214 := NB344_340.out; have hnc214 := NB340_344.out; have hnb215 := NB344_342.out; have hnc215 := NB342_344.out; have hcz216_0 : w212.cell? ⟨gb344, 0, none⟩ = some (.int .i64 0) := (blk_cell BK344.out 0).trans rfl; have hcz216_1 : w212.cell? ⟨gb344, 1, none⟩ = some (.int .i64 0) := (blk_cell BK344.out 1).trans rfl; have hfz216_0 := blk_frozen BK344.out 0; have hfz216_1 := blk_frozen BK344.out 1; have hcz217_0 : w212.cell? ⟨gb338, 0, none⟩ = some (.int .i64 ((rd_T33 l0 x4_1).f0)) := (blk_cell BK338.out 0).trans rfl; have hcz217_1 : w212.cell? ⟨gb338, 1, none⟩ = some (.int .i64 ((rd_T33 l0 x4_1).f1)) := (blk_cell BK338.out 1).trans rfl; have hfz217_0 := blk_frozen BK338.out 0; have hfz217_1 := blk_frozen BK338.out 1; have hcz218_0 : w212.cell? ⟨gb340, 0, none⟩ = some (.int .i64 ((rd_T33 l0 (ji10)).f0)) := (blk_cell BK340.out 0).trans rfl; have hcz218_1 : w212.cell? ⟨gb340, 1, none⟩ = some (.int .i64 ((rd_T33 l0 (ji10)).f1)) := (blk_cell BK340.out 1).trans rfl; have hfz218_0 := blk_frozen BK340.out 0; have hfz218_1 := blk_frozen BK340.out 1; have hcz219_0 : w212.cell? ⟨gb342, 0, none⟩ = some (.int .i64 ((rd_T33 l0 x5_2).f0)) := (blk_cell BK342.out 0).trans rfl; have hcz219_1 : w212.cell? ⟨gb342, 1, none⟩ = some (.int .i64 ((rd_T33 l0 x5_2).f1)) := (blk_cell BK342.out 1).trans rfl; have hfz219_0 := blk_frozen BK342.out 0; have hfz219_1 := blk_frozen BK342.out 1) | ((with_reducible refine gate_callee (f := 62) rfl ?_); refine goesL_ (some 53) rfl rfl Try.func62 (by kernel_rfl) rfl #[.agg #[.int .i64 ((rd_T33 l0 x4_1).f0), .int .i64 ((rd_T33 l0 x4_1).f1)], .agg #[.int .i64 ((rd_T33 l0 (ji10)).f0), .int .i64 ((rd_T33 l0 (ji10)).f1)], .agg #[.int .i64 ((rd_T33 l0 x5_2).f0), .int .i64 ((rd_T33 l0 x5_2).f1)], .agg #[.int .i64 ((rd_T33 l0 (ji15)).f0), .int .i64 ((rd_T33 l0 (ji15)).f1)]] rfl (by (try simp only [List.map_toArray, List.map_cons, List.map_nil]); first | done | (simp only [hji10, hji15]; rfl) | rfl | (simp only [List.length_drop, List.length_take]; rfl)) ?_; (with_reducible refine (spec_l31Meet.calls k2 ((rd_T33 l0 x4_1).f0) ((rd_T33 l0 x4_1).f1) ((rd_T33 l0 (ji10)).f0) ((rd_T33 l0 (ji10)).f1) ((rd_T33 l0 x5_2).f0) ((rd_T33 l0 x5_2).f1) ((rd_T33 l0 (ji15)).f0) ((rd_T33 l0 (ji15)).f1) false _ A183.out).mono ?_); rintro e w220 ⟨rfl, hb⟩; refine ⟨_, rfl, ?_⟩; have n0_ := Aside0.mk (blk_below (bf BK338.out) hb); have n1_ := Aside0.mk (blk_below (bf BK340.out) hb); have n2_ := Aside0.mk (blk_below (bf BK342.out) hb); have n3_ := Aside0.mk (blk_below (bp BK344.out) hb); have n4_ := Aside0.mk (below_step (lb HB.out) hb); clear BK338; clear BK340; clear BK342; clear BK344; clear HB; have BK338 := n0_; have BK340 := n1_; have BK342 := n2_; have BK344 := n3_; have HB := n4_; clear n0_ n1_ n2_ n3_ n4_; (try clear hb); (try clear hb2); (try clear hk); (try clear hi)))
                    go_roundg k2
                    case measure => have := HK1.out; have := HK2.out; omega
                    case rel => exact ⟨(wrap64 (x5_2 + 1)), (by first | rfl | (simp; done) | (simp [*]; done)), H', ⟨by have := HK1.out; have := HK2.out; omega⟩, ⟨lb HB.out⟩⟩
                ·rw [if_neg c17] at H
                 exact absurd H (by simp)
               ·rw [if_neg c16] at H
                exact absurd H (by simp)
              ·rw [if_neg c14] at H
               exact absurd H (by simp)
             ·rw [if_neg c13] at H
              exact absurd H (by simp)
            ·rw [if_neg c12] at H
             exact absurd H (by simp)
           ·rw [if_neg c11] at H
            exact absurd H (by simp)
         ·rw [if_neg c8] at H
          exact absurd H (by simp)
        ·rw [if_neg c7] at H
         exact absurd H (by simp)
       ·rw [if_neg c6] at H
        have c6b0 : decide (x5_2 < (l0.length : Int)) = false := decide_eq_false c6
        clear c6
        have H' := Aside0.mk H
        clear H
        go_wp2
        go_roundg k2
        case measure => have := HK1.out; have := HK2.out; omega
        case rel => exact ⟨(wrap64 (x4_1 + 1)), (by first | rfl | (simp; done) | (simp [*]; done)), H', ⟨by have := HK1.out; have := HK2.out; omega⟩, ⟨lb HB.out⟩⟩
    ·rw [if_neg c5] at H
     have c5b0 : decide (x4_1 < (l0.length : Int)) = false := decide_eq_false c5
     clear c5
     obtain rfl := Option.some.inj H
     go_wp2
     go_ret
     exact ⟨er, lb HB.out⟩
 ·replace c3 := Bool.eq_false_iff.mpr c3
  subst c3
  have H1 : (some false) = some r := by rw [if_neg (show ¬ (false = true) by decide)] at H; exact H
  clear H
  have H := H1
  clear H1
  obtain rfl := Option.some.inj H
  go_enter Try.func66, Try.ntmps66
  go_wp2_with (first | ((with_reducible refine gate_callee (f := 88) rfl ?_); refine goesL_ (some 11) rfl rfl Try.func88 (by kernel_rfl) rfl #[.slice A0 l0.length c0] rfl al ?_; (with_reducible refine (spec_l31Points.calls k _ _ l0 false _ ?side1 ?side2 A2.out).mono ?_); (case side1 => repeat (first | exact HR0.out | (with_reducible refine Kd.C_alloc ?_ _) | (with_reducible refine Kd.C_drewN ?_ _) | (with_reducible refine Kd.C_drew ?_))); (case side2 => exact HC0.out); rintro e w221 ⟨rfl, hb⟩; refine ⟨_, rfl, ?_⟩; have n0_ := Aside0.mk (below_step (lb HB.out) hb); clear HB; have HB := n0_; clear n0_; (try clear hb); (try clear hb2); (try clear hk); (try clear hi)))
  go_ret
  exact ⟨er, lb HB.out⟩
def spec_ParcelValid.f (k : Nat) (l0 : List (S33)) : Option (Bool) := (spec_PolyValid.f k l0).bind fun t350 => (if t350 = true then ((spec_l31Area.f k l0).bind fun t351 => (some (decide (t351 > 0)))) else (some false))
theorem spec_ParcelValid.mono : ∀ a0 k, LeO (spec_ParcelValid.f k a0) (spec_ParcelValid.f (k + 1) a0) := by
 intro a0 k
 unfold spec_ParcelValid.f
 repeat' first
   | (with_reducible exact spec_PolyValid.mono _ _)
   | (with_reducible exact spec_l31Area.mono _ _)
   | (with_reducible exact LeO.refl _)
   | (with_reducible exact LeO.none _)
   | (with_reducible refine LeO.ite ?_ ?_)
   | (with_reducible refine LeO.bind ?_ (fun _ => ?_))
   | exact spec_PolyValid.mono _ _
   | exact spec_l31Area.mono _ _
   | exact LeO.none _
   | refine LeO.ite ?_ ?_
   | refine LeO.bind ?_ (fun _ => ?_)
set_option maxHeartbeats 8000000 in
set_option maxRecDepth 100000 in
theorem spec_ParcelValid.calls (k : Nat) (A0 : Option Addr) (c0 : Nat) (l0 : List (S33)) (r : Bool) (w : World) (hr0 : Kd.C k33 w A0 l0.length l0) (hc0 : l0.length ≤ c0) (h : spec_ParcelValid.f k l0 = some r) :
  Calls Try.prog 35 #[.slice A0 l0.length c0] w fun e w' => e = .returned (.bool r) ∧ Below w.heap.size w w' := by
 have HR0 := Aside0.mk hr0
 have HC0 := Aside0.mk hc0
 clear hr0 hc0
 have HB := Aside0.mk (Below.refl w.heap.size w)
 have H : ((spec_PolyValid.f k l0).bind fun t350 => (if t350 = true then ((spec_l31Area.f k l0).bind fun t351 => (some (decide (t351 > 0)))) else (some false))) = some r := h
 clear h
 replace H := Option.bind_eq_some_iff.mp H
 obtain ⟨t350, A20, H⟩ := H
 replace H : (if t350 = true then ((spec_l31Area.f k l0).bind fun t351 => (some (decide (t351 > 0)))) else (some false)) = some r := H
 have A2 := Aside0.mk A20
 clear A20
 by_cases c3 : t350 = true
 ·subst c3
  have H1 : ((spec_l31Area.f k l0).bind fun t351 => (some (decide (t351 > 0)))) = some r := by rw [if_pos rfl] at H; exact H
  clear H
  have H := H1
  clear H1
  replace H := Option.bind_eq_some_iff.mp H
  obtain ⟨t351, A40, H⟩ := H
  replace H : (some (decide (t351 > 0))) = some r := H
  have A4 := Aside0.mk A40
  clear A40
  obtain rfl := Option.some.inj H
  go_enter Try.func35, Try.ntmps35
  go_wp2_with (first | ((with_reducible refine gate_callee (f := 66) rfl ?_); refine goesL_ (some 4) rfl rfl Try.func66 (by kernel_rfl) rfl #[.slice A0 l0.length c0] rfl al ?_; (with_reducible refine (spec_PolyValid.calls k _ _ l0 true _ ?side1 ?side2 A2.out).mono ?_); (case side1 => repeat (first | exact HR0.out | (with_reducible refine Kd.C_alloc ?_ _) | (with_reducible refine Kd.C_drewN ?_ _) | (with_reducible refine Kd.C_drew ?_))); (case side2 => exact HC0.out); rintro e w5 ⟨rfl, hb⟩; refine ⟨_, rfl, ?_⟩; have n0_ := Aside0.mk (below_step (lb HB.out) hb); clear HB; have HB := n0_; clear n0_; (try clear hb); (try clear hb2); (try clear hk); (try clear hi)) | (go_at_call 50; (with_reducible refine (spec_l31Area.calls k _ _ l0 t351 _ ?side1 ?side2 A4.out).mono ?_); (case side1 => exact cm (Kd.C_below HR0.out HB.out)); (case side2 => exact HC0.out); rintro e w6 ⟨rfl, hb⟩; have n0_ := Aside0.mk (below_step (lb HB.out) hb); clear HB; have HB := n0_; clear n0_; (try clear hb); (try clear hb2); (try clear hk); (try clear hi)))
  go_ret
  exact ⟨er, lb HB.out⟩
 ·replace c3 := Bool.eq_false_iff.mpr c3
  subst c3
  have H1 : (some false) = some r := by rw [if_neg (show ¬ (false = true) by decide)] at H; exact H
  clear H
  have H := H1
  clear H1
  obtain rfl := Option.some.inj H
  go_enter Try.func35, Try.ntmps35
  go_wp2_with (first | ((with_reducible refine gate_callee (f := 66) rfl ?_); refine goesL_ (some 4) rfl rfl Try.func66 (by kernel_rfl) rfl #[.slice A0 l0.length c0] rfl al ?_; (with_reducible refine (spec_PolyValid.calls k _ _ l0 false _ ?side1 ?side2 A2.out).mono ?_); (case side1 => repeat (first | exact HR0.out | (with_reducible refine Kd.C_alloc ?_ _) | (with_reducible refine Kd.C_drewN ?_ _) | (with_reducible refine Kd.C_drew ?_))); (case side2 => exact HC0.out); rintro e w7 ⟨rfl, hb⟩; refine ⟨_, rfl, ?_⟩; have n0_ := Aside0.mk (below_step (lb HB.out) hb); clear HB; have HB := n0_; clear n0_; (try clear hb); (try clear hb2); (try clear hk); (try clear hi)))
  go_ret
  exact ⟨er, lb HB.out⟩
def spec_ParcelSplit.j0 : Nat → List (S33) → Int → Int → Bool → Option ((List (S33)) × (List (S33)) × Bool)
 | 0, _, _, _, _ => none
 | k + 1, x0, x1, x2, x28 => if x28 = true then (some ((([] : List (S33))), (([] : List (S33))), false)) else ((some (([] : List (S33)) : List (S33))).bind fun y361 => (if 0 ≤ x1 then (if x1 ≤ (wrap64 (x2 + 1)) then (if (wrap64 (x2 + 1)) ≤ (x0.length : Int) then ((some ((x0.take ((wrap64 (x2 + 1)) : Int).toNat).drop (x1 : Int).toNat : List (S33))).bind fun y364 => (if y361.length + y364.length < 8796093022208 then ((some (y361 ++ y364 : List (S33))).bind fun y368 => ((some (([] : List (S33)) : List (S33))).bind fun y371 => (if 0 ≤ x2 then (if x2 ≤ (x0.length : Int) then ((some (x0.drop (x2 : Int).toNat : List (S33))).bind fun y374 => (if y371.length + y374.length < 8796093022208 then ((some (y371 ++ y374 : List (S33))).bind fun y378 => (if 0 ≤ (wrap64 (x1 + 1)) then (if (wrap64 (x1 + 1)) ≤ (x0.length : Int) then ((some (x0.take ((wrap64 (x1 + 1)) : Int).toNat : List (S33))).bind fun y381 => (if y378.length + y381.length < 8796093022208 then ((some (y378 ++ y381 : List (S33))).bind fun y385 => ((spec_ParcelValid.f k y368).bind fun t388 => (if t388 = true then ((spec_ParcelValid.f k y385).bind fun t389 => (if t389 = true then (some (y368, y385, true)) else (some ((([] : List (S33))), (([] : List (S33))), false)))) else (some ((([] : List (S33))), (([] : List (S33))), false))))) else (none))) else (none)) else (none))) else (none))) else (none)) else (none)))) else (none))) else (none)) else (none)) else (none)))
def spec_ParcelSplit.f (k : Nat) (l0 : List (S33)) (a1 : Int) (a2 : Int) : Option ((List (S33)) × (List (S33)) × Bool) := (spec_ParcelValid.f k l0).bind fun t352 => (if t352 = true then ((spec_l6In.f a2 0 (wrap64 ((l0.length : Int) - 1))).bind fun t353 => (if t353 = true then ((spec_l6In.f a1 0 (wrap64 (a2 - 1))).bind fun t354 => (spec_ParcelSplit.j0 k l0 a1 a2 (!t354))) else (spec_ParcelSplit.j0 k l0 a1 a2 true))) else (spec_ParcelSplit.j0 k l0 a1 a2 true))
theorem spec_ParcelSplit.mono_l : ∀ k, (∀ y0 y1 y2 y3, LeO (spec_ParcelSplit.j0 k y0 y1 y2 y3) (spec_ParcelSplit.j0 (k + 1) y0 y1 y2 y3))
 | 0 => fun _ _ _ _ r h => by simp [spec_ParcelSplit.j0] at h
 | k + 1 => by
  have ih0 := spec_ParcelSplit.mono_l k
  ·intro y0 y1 y2 y3
   unfold spec_ParcelSplit.j0
   repeat' first
   | (with_reducible exact ih0 _ _ _ _)
   | (with_reducible exact spec_ParcelValid.mono _ _)
   | (with_reducible exact LeO.refl _)
   | (with_reducible exact LeO.none _)
   | (with_reducible refine LeO.ite ?_ ?_)
   | (with_reducible refine LeO.bind ?_ (fun _ => ?_))
   | exact ih0 _ _ _ _
   | exact spec_ParcelValid.mono _ _
   | exact LeO.none _
   | refine LeO.ite ?_ ?_
   | refine LeO.bind ?_ (fun _ => ?_)
theorem spec_ParcelSplit.mono : ∀ a0 a1 a2 k, LeO (spec_ParcelSplit.f k a0 a1 a2) (spec_ParcelSplit.f (k + 1) a0 a1 a2) := by
 intro a0 a1 a2 k
 have ih0 := spec_ParcelSplit.mono_l k
 unfold spec_ParcelSplit.f
 repeat' first
   | (with_reducible exact ih0 _ _ _ _)
   | (with_reducible exact spec_ParcelValid.mono _ _)
   | (with_reducible exact LeO.refl _)
   | (with_reducible exact LeO.none _)
   | (with_reducible refine LeO.ite ?_ ?_)
   | (with_reducible refine LeO.bind ?_ (fun _ => ?_))
   | exact ih0 _ _ _ _
   | exact spec_ParcelValid.mono _ _
   | exact LeO.none _
   | refine LeO.ite ?_ ?_
   | refine LeO.bind ?_ (fun _ => ?_)
def spec_ParcelSplit.T4 : Bool × List (List Nat × List Nat) := (true,[([],[]),([],[]),([],[]),([1,2],[1,2]),([0,3],[0,3]),([],[]),([],[]),([6],[6]),([5,7],[5,7]),([4,8,4],[4,8]),([9,9,0,1,2,3,4,5,6,7,8,9],[9])])
def spec_ParcelSplit.B4 : List Nat := [0,0,0,6,15,0,0,64,224,511,1023]
theorem spec_ParcelSplit.tab4 : rtab .any (opsOf Try.f9 4) = spec_ParcelSplit.T4 := by kernel_rfl
theorem spec_ParcelSplit.bits4 : waitsOk spec_ParcelSplit.T4.2 spec_ParcelSplit.B4 = true := by kernel_rfl
set_option maxHeartbeats 8000000 in
set_option maxRecDepth 100000 in
theorem spec_ParcelSplit.calls (k : Nat) (A0 : Option Addr) (c0 : Nat) (l0 : List (S33)) (a1 : Int) (a2 : Int) (r1 : List (S33)) (r2 : List (S33)) (r3 : Bool) (w : World) (hr0 : Kd.C k33 w A0 l0.length l0) (hc0 : l0.length ≤ c0) (h : spec_ParcelSplit.f k l0 a1 a2 = some (r1, r2, r3)) :
  Calls Try.prog 9 #[.slice A0 l0.length c0, .int .i64 a1, .int .i64 a2] w fun e w' => ∃ v0_ v1_ : Value, e = .returned (.tuple #[v0_, v1_, .bool r3]) ∧ Kd.R k33 33 w' w.heap.size (fun k_ => some k_ ≠ (v1_ : Value).ownBlock) v0_ r1 ∧ Kd.R k33 33 w' w.heap.size (fun k_ => some k_ ≠ (v0_ : Value).ownBlock) v1_ r2 ∧ Below w.heap.size w w' := by
 have HR0 := Aside0.mk hr0
 have HC0 := Aside0.mk hc0
 clear hr0 hc0
 have HB := Aside0.mk (Below.refl w.heap.size w)
 have H : ((spec_ParcelValid.f k l0).bind fun t352 => (if t352 = true then ((spec_l6In.f a2 0 (wrap64 ((l0.length : Int) - 1))).bind fun t353 => (if t353 = true then ((spec_l6In.f a1 0 (wrap64 (a2 - 1))).bind fun t354 => (spec_ParcelSplit.j0 k l0 a1 a2 (!t354))) else (spec_ParcelSplit.j0 k l0 a1 a2 true))) else (spec_ParcelSplit.j0 k l0 a1 a2 true))) = some (r1, r2, r3) := h
 clear h
 have HC4 := Aside0.mk H
 clear H
 go_enter Try.func9, Try.ntmps9
 go_upto_region 1 with (fail)
 go_cut [28] (fun v28 wc => ∃ (kq : Nat) (x28_3 : Bool), v28 = .bool x28_3 ∧ Aside0 (spec_ParcelSplit.j0 kq l0 a1 a2 x28_3 = some (r1, r2, r3)) ∧ Aside0 (kq ≤ k) ∧ Aside0 (Below w.heap.size w wc))
 case first =>
  have H := HC4.out
  clear HC4
  replace H := Option.bind_eq_some_iff.mp H
  obtain ⟨t352, A50, H⟩ := H
  replace H : (if t352 = true then ((spec_l6In.f a2 0 (wrap64 ((l0.length : Int) - 1))).bind fun t353 => (if t353 = true then ((spec_l6In.f a1 0 (wrap64 (a2 - 1))).bind fun t354 => (spec_ParcelSplit.j0 k l0 a1 a2 (!t354))) else (spec_ParcelSplit.j0 k l0 a1 a2 true))) else (spec_ParcelSplit.j0 k l0 a1 a2 true)) = some (r1, r2, r3) := H
  have A5 := Aside0.mk A50
  clear A50
  by_cases c6 : t352 = true
  ·subst c6
   have H1 : ((spec_l6In.f a2 0 (wrap64 ((l0.length : Int) - 1))).bind fun t353 => (if t353 = true then ((spec_l6In.f a1 0 (wrap64 (a2 - 1))).bind fun t354 => (spec_ParcelSplit.j0 k l0 a1 a2 (!t354))) else (spec_ParcelSplit.j0 k l0 a1 a2 true))) = some (r1, r2, r3) := by rw [if_pos rfl] at H; exact H
   clear H
   have H := H1
   clear H1
   replace H := Option.bind_eq_some_iff.mp H
   obtain ⟨t353, A70, H⟩ := H
   replace H : (if t353 = true then ((spec_l6In.f a1 0 (wrap64 (a2 - 1))).bind fun t354 => (spec_ParcelSplit.j0 k l0 a1 a2 (!t354))) else (spec_ParcelSplit.j0 k l0 a1 a2 true)) = some (r1, r2, r3) := H
   have A7 := Aside0.mk A70
   clear A70
   by_cases c8 : t353 = true
   ·subst c8
    have H1 : ((spec_l6In.f a1 0 (wrap64 (a2 - 1))).bind fun t354 => (spec_ParcelSplit.j0 k l0 a1 a2 (!t354))) = some (r1, r2, r3) := by rw [if_pos rfl] at H; exact H
    clear H
    have H := H1
    clear H1
    replace H := Option.bind_eq_some_iff.mp H
    obtain ⟨t354, A90, H⟩ := H
    replace H : (spec_ParcelSplit.j0 k l0 a1 a2 (!t354)) = some (r1, r2, r3) := H
    have A9 := Aside0.mk A90
    clear A90
    have H' := Aside0.mk H
    clear H
    go_wp2_with (first | ((with_reducible refine gate_callee (f := 35) rfl ?_); refine goesL_ (some 12) rfl rfl Try.func35 (by kernel_rfl) rfl #[.slice A0 l0.length c0] rfl al ?_; (with_reducible refine (spec_ParcelValid.calls k _ _ l0 true _ ?side1 ?side2 A5.out).mono ?_); (case side1 => exact cm (Kd.C_below HR0.out HB.out)); (case side2 => exact HC0.out); rintro e w10 ⟨rfl, hb⟩; refine ⟨_, rfl, ?_⟩; have n0_ := Aside0.mk (below_step (lb HB.out) hb); clear HB; have HB := n0_; clear n0_; (try clear hb); (try clear hb2); (try clear hk); (try clear hi)) | (go_at_call 36; (with_reducible refine (spec_l6In.calls a2 0 (wrap64 ((l0.length : Int) - 1)) true _ A7.out).mono ?_); rintro e w' ⟨rfl, ⟨nd, rfl⟩⟩) | (go_at_call 36; (with_reducible refine (spec_l6In.calls a1 0 (wrap64 (a2 - 1)) t354 _ A9.out).mono ?_); rintro e w' ⟨rfl, ⟨nd, rfl⟩⟩))
    go_meet
    case rel => exact ⟨_, (!t354), (by first | rfl | (simp; done) | (simp [*]; done)), H', ⟨by first | omega | exact Nat.le_refl _⟩, ⟨lb HB.out⟩⟩
   ·replace c8 := Bool.eq_false_iff.mpr c8
    subst c8
    have H1 : (spec_ParcelSplit.j0 k l0 a1 a2 true) = some (r1, r2, r3) := by rw [if_neg (show ¬ (false = true) by decide)] at H; exact H
    clear H
    have H := H1
    clear H1
    have H' := Aside0.mk H
    clear H
    go_wp2_with (first | ((with_reducible refine gate_callee (f := 35) rfl ?_); refine goesL_ (some 12) rfl rfl Try.func35 (by kernel_rfl) rfl #[.slice A0 l0.length c0] rfl al ?_; (with_reducible refine (spec_ParcelValid.calls k _ _ l0 true _ ?side1 ?side2 A5.out).mono ?_); (case side1 => exact cm (Kd.C_below HR0.out HB.out)); (case side2 => exact HC0.out); rintro e w11 ⟨rfl, hb⟩; refine ⟨_, rfl, ?_⟩; have n0_ := Aside0.mk (below_step (lb HB.out) hb); clear HB; have HB := n0_; clear n0_; (try clear hb); (try clear hb2); (try clear hk); (try clear hi)) | (go_at_call 36; (with_reducible refine (spec_l6In.calls a2 0 (wrap64 ((l0.length : Int) - 1)) false _ A7.out).mono ?_); rintro e w' ⟨rfl, ⟨nd, rfl⟩⟩))
    go_meet
    case rel => exact ⟨_, (true), (by first | rfl | (simp; done) | (simp [*]; done)), H', ⟨by first | omega | exact Nat.le_refl _⟩, ⟨lb HB.out⟩⟩
  ·replace c6 := Bool.eq_false_iff.mpr c6
   subst c6
   have H1 : (spec_ParcelSplit.j0 k l0 a1 a2 true) = some (r1, r2, r3) := by rw [if_neg (show ¬ (false = true) by decide)] at H; exact H
   clear H
   have H := H1
   clear H1
   have H' := Aside0.mk H
   clear H
   go_wp2_with (first | ((with_reducible refine gate_callee (f := 35) rfl ?_); refine goesL_ (some 12) rfl rfl Try.func35 (by kernel_rfl) rfl #[.slice A0 l0.length c0] rfl al ?_; (with_reducible refine (spec_ParcelValid.calls k _ _ l0 false _ ?side1 ?side2 A5.out).mono ?_); (case side1 => exact cm (Kd.C_below HR0.out HB.out)); (case side2 => exact HC0.out); rintro e w12 ⟨rfl, hb⟩; refine ⟨_, rfl, ?_⟩; have n0_ := Aside0.mk (below_step (lb HB.out) hb); clear HB; have HB := n0_; clear n0_; (try clear hb); (try clear hb2); (try clear hk); (try clear hi)))
   go_meet
   case rel => exact ⟨_, (true), (by first | rfl | (simp; done) | (simp [*]; done)), H', ⟨by first | omega | exact Nat.le_refl _⟩, ⟨lb HB.out⟩⟩
 case rest =>
  clear HC4
  try clear p2
  try clear c3
  try clear c6
  try clear p6
  try clear c8
  try clear c9
  obtain ⟨kq, x28_3, rfl, HA, HJ3, HB⟩ := hcut
  cases kq with
  | zero => exact absurd HA.out (by simp [spec_ParcelSplit.j0])
  | succ kj3 =>
   have H := HA.out
   clear HA
   simp only [spec_ParcelSplit.j0] at H
   by_cases c13 : x28_3 = true
   ·subst c13
    have H1 : (some ((([] : List (S33))), (([] : List (S33))), false)) = some (r1, r2, r3) := by rw [if_pos rfl] at H; exact H
    clear H
    have H := H1
    clear H1
    obtain ⟨y355, hy355⟩ : ∃ y_ : List (S33), y_ = (([] : List (S33))) := ⟨_, rfl⟩
    replace H : (some (y355, (([] : List (S33))), false)) = some (r1, r2, r3) := by first | (rw [hy355]; with_reducible exact H) | (have H2_ := (Option.bind_some _ _).symm.trans H; rw [hy355]; with_reducible exact H2_) | (have H2_ := (Option.bind_some _ _).symm.trans H; with_reducible exact H2_) | with_reducible exact H | (rw [hy355]; exact H) | exact H
    have Ny355 := Aside0.mk hy355
    clear hy355
    obtain ⟨y358, hy358⟩ : ∃ y_ : List (S33), y_ = (([] : List (S33))) := ⟨_, rfl⟩
    replace H : (some (y355, y358, false)) = some (r1, r2, r3) := by first | (rw [hy358]; with_reducible exact H) | (have H2_ := (Option.bind_some _ _).symm.trans H; rw [hy358]; with_reducible exact H2_) | (have H2_ := (Option.bind_some _ _).symm.trans H; with_reducible exact H2_) | with_reducible exact H | (rw [hy358]; exact H) | exact H
    have Ny358 := Aside0.mk hy358
    clear hy358
    simp only [Option.some.injEq, Prod.mk.injEq] at H
    obtain ⟨rfl, rfl, rfl⟩ := H
    go_wp2_with (first | ((with_reducible refine gate_dst (N := 29) rfl ?_); (try (refine gate_guard (by rfl) ?_; dsimp only)); refine Kd.R_lit k33 _ 33 ?hg (N := 29) ?hd (xs := ([] : List (S33))) (inner := []) (ok := fun _ => True) (okp := fun _ => True) ?hr ?hp (fun _ hk => hk) trivial (Below.refl _ _) (Nat.le_refl _) (by simp) ?_; (case hd => rfl); (case hg => rfl); (case hr => first | (go_simp; done) | (go_simp; rfl)); (case hp => exact (Reps.none _ _)); intro v356 w14 ho15 hb hg_ hnew_; clear hg_ hnew_; (first | rw [← Ny355.out] at ho15 | (simp only [Int.reduceToNat] at ho15; rw [← Ny355.out] at ho15)); have n0_ := Aside0.mk (Kd.R_lower ho15 (below_size (lb HB.out))); have n1_ := Aside0.mk (below_step (lb HB.out) hb); clear HB; have HO357 := n0_; have HB := n1_; clear n0_ n1_; clear hb ho15) | ((with_reducible refine gate_dst (N := 30) rfl ?_); (try (refine gate_guard (by rfl) ?_; dsimp only)); refine Kd.R_lit k33 _ 33 ?hg (N := 30) ?hd (xs := ([] : List (S33))) (inner := []) (ok := fun _ => True) (okp := fun _ => True) ?hr ?hp (fun _ hk => hk) trivial (Below.refl _ _) (Nat.le_refl _) (by simp) ?_; (case hd => rfl); (case hg => rfl); (case hr => first | (go_simp; done) | (go_simp; rfl)); (case hp => exact (Reps.none _ _)); intro v359 w16 ho17 hb hg_ hnew_; clear hg_ hnew_; (first | rw [← Ny358.out] at ho17 | (simp only [Int.reduceToNat] at ho17; rw [← Ny358.out] at ho17)); have n0_ := Aside0.mk (Kd.R_elder' (rm HO357.out) (Kd.R_base ho17) hb); have n1_ := Aside0.mk (Kd.R_lower (Kd.R_new' ho17 (Kd.R_lt (rm HO357.out))) (below_size (lb HB.out))); have n2_ := Aside0.mk (below_step (lb HB.out) hb); clear HO357; clear HB; have HO357 := n0_; have HO360 := n1_; have HB := n2_; clear n0_ n1_ n2_; clear hb ho17))
    go_ret3
    exact ⟨_, _, er, rm (Kd.R_mono HO357.out (fun _ hk => by first | exact hk.2 | exact trivial)), rm (Kd.R_mono HO360.out (fun _ hk => by first | exact hk.2 | exact trivial)), lb HB.out⟩
   ·replace c13 := Bool.eq_false_iff.mpr c13
    subst c13
    have H1 : ((some (([] : List (S33)) : List (S33))).bind fun y361 => (if 0 ≤ a1 then (if a1 ≤ (wrap64 (a2 + 1)) then (if (wrap64 (a2 + 1)) ≤ (l0.length : Int) then ((some ((l0.take ((wrap64 (a2 + 1)) : Int).toNat).drop (a1 : Int).toNat : List (S33))).bind fun y364 => (if y361.length + y364.length < 8796093022208 then ((some (y361 ++ y364 : List (S33))).bind fun y368 => ((some (([] : List (S33)) : List (S33))).bind fun y371 => (if 0 ≤ a2 then (if a2 ≤ (l0.length : Int) then ((some (l0.drop (a2 : Int).toNat : List (S33))).bind fun y374 => (if y371.length + y374.length < 8796093022208 then ((some (y371 ++ y374 : List (S33))).bind fun y378 => (if 0 ≤ (wrap64 (a1 + 1)) then (if (wrap64 (a1 + 1)) ≤ (l0.length : Int) then ((some (l0.take ((wrap64 (a1 + 1)) : Int).toNat : List (S33))).bind fun y381 => (if y378.length + y381.length < 8796093022208 then ((some (y378 ++ y381 : List (S33))).bind fun y385 => ((spec_ParcelValid.f kj3 y368).bind fun t388 => (if t388 = true then ((spec_ParcelValid.f kj3 y385).bind fun t389 => (if t389 = true then (some (y368, y385, true)) else (some ((([] : List (S33))), (([] : List (S33))), false)))) else (some ((([] : List (S33))), (([] : List (S33))), false))))) else (none))) else (none)) else (none))) else (none))) else (none)) else (none)))) else (none))) else (none)) else (none)) else (none))) = some (r1, r2, r3) := by rw [if_neg (show ¬ (false = true) by decide)] at H; exact H
    clear H
    have H := H1
    clear H1
    obtain ⟨y361, hy361⟩ : ∃ y_ : List (S33), y_ = (([] : List (S33))) := ⟨_, rfl⟩
    replace H : (if 0 ≤ a1 then (if a1 ≤ (wrap64 (a2 + 1)) then (if (wrap64 (a2 + 1)) ≤ (l0.length : Int) then ((some ((l0.take ((wrap64 (a2 + 1)) : Int).toNat).drop (a1 : Int).toNat : List (S33))).bind fun y364 => (if y361.length + y364.length < 8796093022208 then ((some (y361 ++ y364 : List (S33))).bind fun y368 => ((some (([] : List (S33)) : List (S33))).bind fun y371 => (if 0 ≤ a2 then (if a2 ≤ (l0.length : Int) then ((some (l0.drop (a2 : Int).toNat : List (S33))).bind fun y374 => (if y371.length + y374.length < 8796093022208 then ((some (y371 ++ y374 : List (S33))).bind fun y378 => (if 0 ≤ (wrap64 (a1 + 1)) then (if (wrap64 (a1 + 1)) ≤ (l0.length : Int) then ((some (l0.take ((wrap64 (a1 + 1)) : Int).toNat : List (S33))).bind fun y381 => (if y378.length + y381.length < 8796093022208 then ((some (y378 ++ y381 : List (S33))).bind fun y385 => ((spec_ParcelValid.f kj3 y368).bind fun t388 => (if t388 = true then ((spec_ParcelValid.f kj3 y385).bind fun t389 => (if t389 = true then (some (y368, y385, true)) else (some ((([] : List (S33))), (([] : List (S33))), false)))) else (some ((([] : List (S33))), (([] : List (S33))), false))))) else (none))) else (none)) else (none))) else (none))) else (none)) else (none)))) else (none))) else (none)) else (none)) else (none)) = some (r1, r2, r3) := by first | (rw [hy361]; with_reducible exact H) | (have H2_ := (Option.bind_some _ _).symm.trans H; rw [hy361]; with_reducible exact H2_) | (have H2_ := (Option.bind_some _ _).symm.trans H; with_reducible exact H2_) | with_reducible exact H | (rw [hy361]; exact H) | exact H
    have Ny361 := Aside0.mk hy361
    clear hy361
    by_cases c18 : 0 ≤ a1
    ·rw [if_pos c18] at H
     have c18b0 := eq_true c18
     have c18b1 : decide (0 ≤ a1) = true := decide_eq_true c18
     clear c18
     by_cases c19 : a1 ≤ (wrap64 (a2 + 1))
     ·rw [if_pos c19] at H
      have c19b0 := eq_true c19
      have c19b1 : decide (a1 ≤ (wrap64 (a2 + 1))) = true := decide_eq_true c19
      by_cases c20 : (wrap64 (a2 + 1)) ≤ (l0.length : Int)
      ·rw [if_pos c20] at H
       have c20b0 := eq_true c20
       have c20b1 : decide ((wrap64 (a2 + 1)) ≤ (l0.length : Int)) = true := decide_eq_true c20
       obtain ⟨y364, hy364⟩ : ∃ y_ : List (S33), y_ = ((l0.take ((wrap64 (a2 + 1)) : Int).toNat).drop (a1 : Int).toNat) := ⟨_, rfl⟩
       replace H : (if y361.length + y364.length < 8796093022208 then ((some (y361 ++ y364 : List (S33))).bind fun y368 => ((some (([] : List (S33)) : List (S33))).bind fun y371 => (if 0 ≤ a2 then (if a2 ≤ (l0.length : Int) then ((some (l0.drop (a2 : Int).toNat : List (S33))).bind fun y374 => (if y371.length + y374.length < 8796093022208 then ((some (y371 ++ y374 : List (S33))).bind fun y378 => (if 0 ≤ (wrap64 (a1 + 1)) then (if (wrap64 (a1 + 1)) ≤ (l0.length : Int) then ((some (l0.take ((wrap64 (a1 + 1)) : Int).toNat : List (S33))).bind fun y381 => (if y378.length + y381.length < 8796093022208 then ((some (y378 ++ y381 : List (S33))).bind fun y385 => ((spec_ParcelValid.f kj3 y368).bind fun t388 => (if t388 = true then ((spec_ParcelValid.f kj3 y385).bind fun t389 => (if t389 = true then (some (y368, y385, true)) else (some ((([] : List (S33))), (([] : List (S33))), false)))) else (some ((([] : List (S33))), (([] : List (S33))), false))))) else (none))) else (none)) else (none))) else (none))) else (none)) else (none)))) else (none)) = some (r1, r2, r3) := by first | (rw [hy364]; with_reducible exact H) | (have H2_ := (Option.bind_some _ _).symm.trans H; rw [hy364]; with_reducible exact H2_) | (have H2_ := (Option.bind_some _ _).symm.trans H; with_reducible exact H2_) | with_reducible exact H | (rw [hy364]; exact H) | exact H
       have Ny364 := Aside0.mk hy364
       clear hy364
       by_cases c21 : y361.length + y364.length < 8796093022208
       ·rw [if_pos c21] at H
        have LMc21 := Aside0.mk c21
        clear c21
        obtain ⟨y368, hy368⟩ : ∃ y_ : List (S33), y_ = (y361 ++ y364) := ⟨_, rfl⟩
        replace H : ((some (([] : List (S33)) : List (S33))).bind fun y371 => (if 0 ≤ a2 then (if a2 ≤ (l0.length : Int) then ((some (l0.drop (a2 : Int).toNat : List (S33))).bind fun y374 => (if y371.length + y374.length < 8796093022208 then ((some (y371 ++ y374 : List (S33))).bind fun y378 => (if 0 ≤ (wrap64 (a1 + 1)) then (if (wrap64 (a1 + 1)) ≤ (l0.length : Int) then ((some (l0.take ((wrap64 (a1 + 1)) : Int).toNat : List (S33))).bind fun y381 => (if y378.length + y381.length < 8796093022208 then ((some (y378 ++ y381 : List (S33))).bind fun y385 => ((spec_ParcelValid.f kj3 y368).bind fun t388 => (if t388 = true then ((spec_ParcelValid.f kj3 y385).bind fun t389 => (if t389 = true then (some (y368, y385, true)) else (some ((([] : List (S33))), (([] : List (S33))), false)))) else (some ((([] : List (S33))), (([] : List (S33))), false))))) else (none))) else (none)) else (none))) else (none))) else (none)) else (none))) = some (r1, r2, r3) := by first | (rw [hy368]; with_reducible exact H) | (have H2_ := (Option.bind_some _ _).symm.trans H; rw [hy368]; with_reducible exact H2_) | (have H2_ := (Option.bind_some _ _).symm.trans H; with_reducible exact H2_) | with_reducible exact H | (rw [hy368]; exact H) | exact H
        have Ny368 := Aside0.mk hy368
        clear hy368
        obtain ⟨y371, hy371⟩ : ∃ y_ : List (S33), y_ = (([] : List (S33))) := ⟨_, rfl⟩
        replace H : (if 0 ≤ a2 then (if a2 ≤ (l0.length : Int) then ((some (l0.drop (a2 : Int).toNat : List (S33))).bind fun y374 => (if y371.length + y374.length < 8796093022208 then ((some (y371 ++ y374 : List (S33))).bind fun y378 => (if 0 ≤ (wrap64 (a1 + 1)) then (if (wrap64 (a1 + 1)) ≤ (l0.length : Int) then ((some (l0.take ((wrap64 (a1 + 1)) : Int).toNat : List (S33))).bind fun y381 => (if y378.length + y381.length < 8796093022208 then ((some (y378 ++ y381 : List (S33))).bind fun y385 => ((spec_ParcelValid.f kj3 y368).bind fun t388 => (if t388 = true then ((spec_ParcelValid.f kj3 y385).bind fun t389 => (if t389 = true then (some (y368, y385, true)) else (some ((([] : List (S33))), (([] : List (S33))), false)))) else (some ((([] : List (S33))), (([] : List (S33))), false))))) else (none))) else (none)) else (none))) else (none))) else (none)) else (none)) = some (r1, r2, r3) := by first | (rw [hy371]; with_reducible exact H) | (have H2_ := (Option.bind_some _ _).symm.trans H; rw [hy371]; with_reducible exact H2_) | (have H2_ := (Option.bind_some _ _).symm.trans H; with_reducible exact H2_) | with_reducible exact H | (rw [hy371]; exact H) | exact H
        have Ny371 := Aside0.mk hy371
        clear hy371
        by_cases c22 : 0 ≤ a2
        ·rw [if_pos c22] at H
         have c22b0 := eq_true c22
         have c22b1 : decide (0 ≤ a2) = true := decide_eq_true c22
         clear c22
         by_cases c23 : a2 ≤ (l0.length : Int)
         ·rw [if_pos c23] at H
          have c23b0 := eq_true c23
          have c23b1 : decide (a2 ≤ (l0.length : Int)) = true := decide_eq_true c23
          clear c23
          obtain ⟨y374, hy374⟩ : ∃ y_ : List (S33), y_ = (l0.drop (a2 : Int).toNat) := ⟨_, rfl⟩
          replace H : (if y371.length + y374.length < 8796093022208 then ((some (y371 ++ y374 : List (S33))).bind fun y378 => (if 0 ≤ (wrap64 (a1 + 1)) then (if (wrap64 (a1 + 1)) ≤ (l0.length : Int) then ((some (l0.take ((wrap64 (a1 + 1)) : Int).toNat : List (S33))).bind fun y381 => (if y378.length + y381.length < 8796093022208 then ((some (y378 ++ y381 : List (S33))).bind fun y385 => ((spec_ParcelValid.f kj3 y368).bind fun t388 => (if t388 = true then ((spec_ParcelValid.f kj3 y385).bind fun t389 => (if t389 = true then (some (y368, y385, true)) else (some ((([] : List (S33))), (([] : List (S33))), false)))) else (some ((([] : List (S33))), (([] : List (S33))), false))))) else (none))) else (none)) else (none))) else (none)) = some (r1, r2, r3) := by first | (rw [hy374]; with_reducible exact H) | (have H2_ := (Option.bind_some _ _).symm.trans H; rw [hy374]; with_reducible exact H2_) | (have H2_ := (Option.bind_some _ _).symm.trans H; with_reducible exact H2_) | with_reducible exact H | (rw [hy374]; exact H) | exact H
          have Ny374 := Aside0.mk hy374
          clear hy374
          by_cases c24 : y371.length + y374.length < 8796093022208
          ·rw [if_pos c24] at H
           have LMc24 := Aside0.mk c24
           clear c24
           obtain ⟨y378, hy378⟩ : ∃ y_ : List (S33), y_ = (y371 ++ y374) := ⟨_, rfl⟩
           replace H : (if 0 ≤ (wrap64 (a1 + 1)) then (if (wrap64 (a1 + 1)) ≤ (l0.length : Int) then ((some (l0.take ((wrap64 (a1 + 1)) : Int).toNat : List (S33))).bind fun y381 => (if y378.length + y381.length < 8796093022208 then ((some (y378 ++ y381 : List (S33))).bind fun y385 => ((spec_ParcelValid.f kj3 y368).bind fun t388 => (if t388 = true then ((spec_ParcelValid.f kj3 y385).bind fun t389 => (if t389 = true then (some (y368, y385, true)) else (some ((([] : List (S33))), (([] : List (S33))), false)))) else (some ((([] : List (S33))), (([] : List (S33))), false))))) else (none))) else (none)) else (none)) = some (r1, r2, r3) := by first | (rw [hy378]; with_reducible exact H) | (have H2_ := (Option.bind_some _ _).symm.trans H; rw [hy378]; with_reducible exact H2_) | (have H2_ := (Option.bind_some _ _).symm.trans H; with_reducible exact H2_) | with_reducible exact H | (rw [hy378]; exact H) | exact H
           have Ny378 := Aside0.mk hy378
           clear hy378
           obtain ⟨ji25, hji25⟩ : ∃ j_ : Int, (wrap64 (a1 + 1)) = j_ := ⟨_, rfl⟩
           replace H : (if 0 ≤ (ji25) then (if (ji25) ≤ (l0.length : Int) then ((some (l0.take ((ji25) : Int).toNat : List (S33))).bind fun y381 => (if y378.length + y381.length < 8796093022208 then ((some (y378 ++ y381 : List (S33))).bind fun y385 => ((spec_ParcelValid.f kj3 y368).bind fun t388 => (if t388 = true then ((spec_ParcelValid.f kj3 y385).bind fun t389 => (if t389 = true then (some (y368, y385, true)) else (some ((([] : List (S33))), (([] : List (S33))), false)))) else (some ((([] : List (S33))), (([] : List (S33))), false))))) else (none))) else (none)) else (none)) = some (r1, r2, r3) := by first | (rw [hji25] at H; exact H) | (simp only [hji25] at H ⊢; exact H)
           have hji25w : (IntKind.i64.wrap (a1 + 1)) = ji25 := (i64_w _).trans hji25
           by_cases c26 : 0 ≤ (ji25)
           ·rw [if_pos c26] at H
            have c26b0 := eq_true c26
            have c26b1 : decide (0 ≤ (ji25)) = true := decide_eq_true c26
            clear c26
            by_cases c27 : (ji25) ≤ (l0.length : Int)
            ·rw [if_pos c27] at H
             have c27b0 := eq_true c27
             have c27b1 : decide ((ji25) ≤ (l0.length : Int)) = true := decide_eq_true c27
             clear c27
             obtain ⟨y381, hy381⟩ : ∃ y_ : List (S33), y_ = (l0.take ((ji25) : Int).toNat) := ⟨_, rfl⟩
             replace H : (if y378.length + y381.length < 8796093022208 then ((some (y378 ++ y381 : List (S33))).bind fun y385 => ((spec_ParcelValid.f kj3 y368).bind fun t388 => (if t388 = true then ((spec_ParcelValid.f kj3 y385).bind fun t389 => (if t389 = true then (some (y368, y385, true)) else (some ((([] : List (S33))), (([] : List (S33))), false)))) else (some ((([] : List (S33))), (([] : List (S33))), false))))) else (none)) = some (r1, r2, r3) := by first | (rw [hy381]; with_reducible exact H) | (have H2_ := (Option.bind_some _ _).symm.trans H; rw [hy381]; with_reducible exact H2_) | (have H2_ := (Option.bind_some _ _).symm.trans H; with_reducible exact H2_) | with_reducible exact H | (rw [hy381]; exact H) | exact H
             have Ny381 := Aside0.mk hy381
             clear hy381
             by_cases c28 : y378.length + y381.length < 8796093022208
             ·rw [if_pos c28] at H
              have LMc28 := Aside0.mk c28
              clear c28
              obtain ⟨y385, hy385⟩ : ∃ y_ : List (S33), y_ = (y378 ++ y381) := ⟨_, rfl⟩
              replace H : ((spec_ParcelValid.f kj3 y368).bind fun t388 => (if t388 = true then ((spec_ParcelValid.f kj3 y385).bind fun t389 => (if t389 = true then (some (y368, y385, true)) else (some ((([] : List (S33))), (([] : List (S33))), false)))) else (some ((([] : List (S33))), (([] : List (S33))), false)))) = some (r1, r2, r3) := by first | (rw [hy385]; with_reducible exact H) | (have H2_ := (Option.bind_some _ _).symm.trans H; rw [hy385]; with_reducible exact H2_) | (have H2_ := (Option.bind_some _ _).symm.trans H; with_reducible exact H2_) | with_reducible exact H | (rw [hy385]; exact H) | exact H
              have Ny385 := Aside0.mk hy385
              clear hy385
              replace H := Option.bind_eq_some_iff.mp H
              obtain ⟨t388, A290, H⟩ := H
              replace H : (if t388 = true then ((spec_ParcelValid.f kj3 y385).bind fun t389 => (if t389 = true then (some (y368, y385, true)) else (some ((([] : List (S33))), (([] : List (S33))), false)))) else (some ((([] : List (S33))), (([] : List (S33))), false))) = some (r1, r2, r3) := H
              have A29 := Aside0.mk A290
              clear A290
              by_cases c30 : t388 = true
              ·subst c30
               have H1 : ((spec_ParcelValid.f kj3 y385).bind fun t389 => (if t389 = true then (some (y368, y385, true)) else (some ((([] : List (S33))), (([] : List (S33))), false)))) = some (r1, r2, r3) := by rw [if_pos rfl] at H; exact H
               clear H
               have H := H1
               clear H1
               replace H := Option.bind_eq_some_iff.mp H
               obtain ⟨t389, A310, H⟩ := H
               replace H : (if t389 = true then (some (y368, y385, true)) else (some ((([] : List (S33))), (([] : List (S33))), false))) = some (r1, r2, r3) := H
               have A31 := Aside0.mk A310
               clear A310
               by_cases c32 : t389 = true
               ·subst c32
                have H1 : (some (y368, y385, true)) = some (r1, r2, r3) := by rw [if_pos rfl] at H; exact H
                clear H
                have H := H1
                clear H1
                simp only [Option.some.injEq, Prod.mk.injEq] at H
                obtain ⟨rfl, rfl, rfl⟩ := H
                try go_wp2_with (first | ((with_reducible refine gate_dst (N := 31) rfl ?_); (try (refine gate_guard (by rfl) ?_; dsimp only)); refine Kd.R_lit k33 _ 33 ?hg (N := 31) ?hd (xs := ([] : List (S33))) (inner := []) (ok := fun _ => True) (okp := fun _ => True) ?hr ?hp (fun _ hk => hk) trivial (Below.refl _ _) (Nat.le_refl _) (by simp) ?_; (case hd => rfl); (case hg => rfl); (case hr => first | (go_simp; done) | (go_simp; rfl)); (case hp => exact (Reps.none _ _)); intro v362 w33 ho34 hb hg_ hnew_; clear hg_ hnew_; (first | rw [← Ny361.out] at ho34 | (simp only [Int.reduceToNat] at ho34; rw [← Ny361.out] at ho34)); have n0_ := Aside0.mk (Kd.R_lower ho34 (below_size (lb HB.out))); have n1_ := Aside0.mk (below_step (lb HB.out) hb); clear HB; have HO363 := n0_; have HB := n1_; clear n0_ n1_; clear hb ho34; have q35 : ((wrap64 (a2 + 1)) : Int) ≤ ((l0.length : Int) : Int) := oa; obtain ⟨i035, hi035, _, hsz35, _⟩ := info_parts info33; have hroom35 : l0.length ≤ c0 := HC0.out; have hC35 : Kd.C k33 _ A0 l0.length l0 := HR0.out; have ql35 : (a1 : Int) ≤ ((wrap64 (a2 + 1)) : Int) := oa; have q035 : (0 : Int) ≤ (a1 : Int) := oa; have hcut35 := cut_mid (P := Try.prog) 23 33 .i64 .i64 Try.underlying23 hi035 2 hsz35 A0 l0.length c0 a1 (wrap64 (a2 + 1)) q035 ql35 q35 hroom35; have hr35 := Kd.C_mid (lo := (a1 : Int).toNat) (hi := ((wrap64 (a2 + 1)) : Int).toNat) (c := c0) hC35 (by omega) (by omega) hroom35; obtain ⟨A35, hA35⟩ : ∃ A1, A1 = (if c0 = (a1 : Int).toNat then A0 else (A0 : Option Addr).map (·.add ((a1 : Int).toNat * 2))) := ⟨_, rfl⟩; obtain ⟨c35, hc35⟩ : ∃ c1, c1 = c0 - (a1 : Int).toNat := ⟨_, rfl⟩; have hy35 : y364.length = ((wrap64 (a2 + 1)) : Int).toNat - (a1 : Int).toNat := (by rw [Ny364.out, List.length_drop, List.length_take] <;> omega); rw [show ((l0).take ((wrap64 (a2 + 1)) : Int).toNat).drop (a1 : Int).toNat = y364 from Ny364.out.symm] at hr35; replace hr35 : Kd.C k33 _ A35 y364.length y364 := (by rw [hA35]; exact hr35); rw [← hy35, ← hA35, ← hc35] at hcut35; have HR367 := Aside0.mk hr35; have HC367 := Aside0.mk (show y364.length ≤ c35 from by rw [hy35, hc35]; exact Nat.sub_le_sub_right (Nat.le_trans (by omega) hroom35) _); clear hr35 hC35 hroom35 hi035 hsz35 hc35; have KY35 := Aside0.mk hy35; have KA35 := Aside0.mk hA35; clear hy35 hA35; replace q35 := eq_true q35) | ((with_reducible refine gate_builtin (b := .append) (xs := #[.tmp 31, .tmp 36]) rfl ?_); (try (refine gate_guard (by rfl) ?_; dsimp only)); at_builtin; refine Kd.R_append_rows k33 (w0 := w) w.heap.size rfl (.tmp 31) (.tmp 36) 23 33 (.agg #[(.int .i64 0), (.int .i64 0)]) 16 rfl Try.underlying23 info33 rfl (by decide) (by omega) v362 y361 y364 _ _ _ (fun _ => True) (fun _ => False) rfl rfl ?aO ?aR (fun _ _ h => h) (fun _ h => h.elim) ?aF ?aB ?aS ?aL ?_; (case aR => exact cm (Kd.C_below HR367.out HB.out)); (case aB => exact (lb HB.out)); (case aF => exact (fun _ _ => trivial)); (case aO => exact (rm HO363.out)); (case aS => exact (below_size (lb HB.out))); (case aL => have := LMc21.out; omega); intro v369 w36 ho hb hg hat; rw [← Ny368.out] at ho; have n0_ := Aside0.mk (hb); have n1_ := Aside0.mk (ho); clear HB; clear HO363; have HB := n0_; have HO370 := n1_; clear n0_ n1_; clear ho hb hg hat))
                have n0_ := Aside0.mk (Kd.R_drew HO370.out)
                have n1_ := Aside0.mk (below_drew1 HB.out)
                clear HO370 HB
                have HO370 := n0_
                have HB := n1_
                clear n0_ n1_
                have q38 : (a2 : Int) ≤ ((l0.length : Int) : Int) := oa
                obtain ⟨i038, hi038, _, hsz38, _⟩ := info_parts info33
                have hroom38 : l0.length ≤ c0 := HC0.out
                have hC38 : Kd.C k33 _ A0 l0.length l0 := HR0.out
                have q038 : (0 : Int) ≤ (a2 : Int) := oa
                have hcut38 := cut_from (P := Try.prog) 23 33 .i64 Try.underlying23 hi038 2 hsz38 A0 l0.length c0 a2 q038 q38
                have hr38 := Kd.C_drop (m := (a2 : Int).toNat) (c := c0) hC38 (by omega) hroom38
                obtain ⟨A38, hA38⟩ : ∃ A1, A1 = (if c0 = (a2 : Int).toNat then A0 else (A0 : Option Addr).map (·.add ((a2 : Int).toNat * 2))) := ⟨_, rfl⟩
                obtain ⟨c38, hc38⟩ : ∃ c1, c1 = c0 - (a2 : Int).toNat := ⟨_, rfl⟩
                have hy38 : y374.length = l0.length - (a2 : Int).toNat := (by rw [Ny374.out, List.length_drop] <;> omega)
                rw [show (l0).drop (a2 : Int).toNat = y374 from Ny374.out.symm] at hr38
                replace hr38 : Kd.C k33 _ A38 y374.length y374 := (by rw [hA38]; exact hr38)
                rw [← hy38, ← hA38, ← hc38] at hcut38
                have HR377 := Aside0.mk hr38
                have HC377 := Aside0.mk (show y374.length ≤ c38 from by rw [hy38, hc38]; exact Nat.sub_le_sub_right hroom38 _)
                clear hr38 hC38 hroom38 hi038 hsz38 hc38
                have KY38 := Aside0.mk hy38
                have KA38 := Aside0.mk hA38
                clear hy38 hA38
                replace q38 := eq_true q38
                have q39 : ((ji25) : Int) ≤ ((l0.length : Int) : Int) := oa
                obtain ⟨i039, hi039, _, hsz39, _⟩ := info_parts info33
                have hroom39 : l0.length ≤ c0 := HC0.out
                have hC39 : Kd.C k33 _ A0 l0.length l0 := HR0.out
                have hcut39 := cut_to (P := Try.prog) 23 33 .i64 Try.underlying23 hi039 A0 l0.length c0 (ji25) oa q39 hroom39
                have hr39 := Kd.C_take (m := ((ji25) : Int).toNat) hC39 (by omega)
                have hy39 : y381.length = ((ji25) : Int).toNat := (by rw [Ny381.out, List.length_take]; omega)
                rw [← Ny381.out] at hr39
                rw [← hy39] at hcut39
                have HR384 := Aside0.mk hr39
                have HC384 := Aside0.mk (show y381.length ≤ c0 from by omega)
                clear hr39 hC39 hroom39 hi039 hsz39
                have KY39 := Aside0.mk hy39
                clear hy39
                replace q39 := eq_true q39
                refine start_ (n := 11) (S := fun w' => True) (ds := []) #[false,false,false,false,false,false,false,false,false,false,false] (by kernel_rfl) rfl rfl trivial (fun hHeld => ?_); refine with_tabW spec_ParcelSplit.tab4 spec_ParcelSplit.bits4 (fun HT_ HW_ => ?_)
                generalize w36.drew = w37 at HO370 HB HR377 HR384 hHeld ⊢
                refine pq_ 1 (some 39) ?_
                refine pq_ 2 (some 40) ?_
                refine pq_ 3 (some 41) ?_
                refine pq_ 5 (some 43) ?_
                refine pq_ 6 (some 44) ?_
                refine pq_ 7 (some 45) ?_
                refine pq_ 8 (some 46) ?_
                refine one_ (i := 0) (N := some 38) #[true,true,true,true,false,true,true,true,true,false,false] rfl rfl (one_of HT_.out (by kernel_rfl)) (by decide) (fun K hK => ?_)
                refine Kd.R_lit_step k33 _ 33 ?hg (N := 38) ?hd (xs := ([] : List (S33))) (inner := []) (ok := fun _ => True) (okp := fun _ => True) ?hr ?hp (fun _ hk => hk) trivial (Below.refl _ _) (Nat.le_refl _) (by simp) ?_; (case hd => rfl); (case hg => rfl); (case hr => first | (go_simp; done) | (go_simp; rfl)); (case hp => exact (Reps.none _ _))
                intro v372 w40 ho41 hb hg_ hnew_
                clear hg_ hnew_
                (first | rw [← Ny371.out] at ho41 | (simp only [Int.reduceToNat] at ho41; rw [← Ny371.out] at ho41))
                have n0_ := Aside0.mk (Kd.R_elder' (rm HO370.out) (Kd.R_base ho41) hb)
                have n1_ := Aside0.mk (Kd.R_lower (Kd.R_new' ho41 (Kd.R_lt (rm HO370.out))) (below_size (lb HB.out)))
                have n2_ := Aside0.mk (below_step (lb HB.out) hb)
                clear HO370 HB
                have HO370 := n0_
                have HO373 := n1_
                have HB := n2_
                clear n0_ n1_ n2_ hb ho41
                refine hK.out _ _ trivial (fun hHeld => ?_)
                clear hK K
                refine norm_ (a' := ?_) ?_ ?_
                rotate_left
                ·show Act.put _ (some 38) _ = _
                 simp only [Act.put, List.setIfInBounds_toArray, List.set_cons_zero, List.set_cons_succ, i64_w, i32_w]
                 rfl
                refine one_ (i := 4) (N := some 42) #[true,true,true,true,true,true,true,true,true,false,false] rfl rfl (one_of HT_.out (by kernel_rfl)) (by decide) (fun K hK => ?_)
                refine Kd.R_append_rows_step k33 (w0 := w) w.heap.size (by rfl) (.tmp 38) (.tmp 41) 23 33 (.agg #[(.int .i64 0), (.int .i64 0)]) 16 rfl Try.underlying23 info33 rfl (by decide) (by omega) v372 y371 y374 _ _ _ (fun k_ => some k_ ≠ (v369 : Value).ownBlock) (fun _ => False) rfl rfl ?aO ?aR (fun _ _ h => h) (fun _ h => h.elim) ?aF ?aB ?aS ?aL ?_
                (case aR => exact cm (Kd.C_below HR377.out HB.out))
                (case aB => exact (lb HB.out))
                (case aF => exact (fun k_ hk => Kd.fresh' (Kd.R_lt (rm HO370.out)) k_ hk))
                (case aO => exact (by (with_reducible repeat (first | apply Kd.R_alloc | apply Kd.R_drewN | apply Kd.R_drew)); exact Kd.R_mono HO373.out (fun _ hk => by first | exact hk.2 | exact trivial)))
                (case aS => exact (below_size (lb HB.out)))
                (case aL => have := LMc24.out; omega)
                intro v379 w42 ho hb hg hat
                rw [← Ny378.out] at ho
                have n0_ := Aside0.mk (Kd.R_after (ok := (fun _ => True)) (rm HO370.out) hg hat)
                have n1_ := Aside0.mk (hb)
                have n2_ := Aside0.mk (ho)
                clear HO370 HB HO373
                have HO370 := n0_
                have HB := n1_
                have HO380 := n2_
                clear n0_ n1_ n2_ ho hb hg hat
                refine hK.out _ _ trivial (fun hHeld => ?_)
                clear hK K
                refine norm_ (a' := ?_) ?_ ?_
                rotate_left
                ·show Act.put _ (some 42) _ = _
                 simp only [Act.put, List.setIfInBounds_toArray, List.set_cons_zero, List.set_cons_succ, i64_w, i32_w]
                 rfl
                refine one_ (i := 9) (N := some 47) #[true,true,true,true,true,true,true,true,true,true,false] rfl rfl (one_of HT_.out (by kernel_rfl)) (by decide) (fun K hK => ?_)
                refine Kd.R_append_rows_step k33 (w0 := w) w.heap.size (by rfl) (.tmp 42) (.tmp 46) 23 33 (.agg #[(.int .i64 0), (.int .i64 0)]) 16 rfl Try.underlying23 info33 rfl (by decide) (by omega) v379 y378 y381 _ _ _ (fun k_ => some k_ ≠ (v369 : Value).ownBlock) (fun _ => False) rfl rfl ?aO ?aR (fun _ _ h => h) (fun _ h => h.elim) ?aF ?aB ?aS ?aL ?_
                (case aR => exact cm (Kd.C_below HR384.out HB.out))
                (case aB => exact (lb HB.out))
                (case aF => exact (fun k_ hk => Kd.fresh' (Kd.R_lt (rm HO370.out)) k_ hk))
                (case aO => exact (rm HO380.out))
                (case aS => exact (below_size (lb HB.out)))
                (case aL => have := LMc28.out; omega)
                intro v386 w43 ho hb hg hat
                rw [← Ny385.out] at ho
                have n0_ := Aside0.mk (Kd.R_after (ok := (fun _ => True)) (rm HO370.out) hg hat)
                have n1_ := Aside0.mk (hb)
                have n2_ := Aside0.mk (ho)
                clear HO370 HB HO380
                have HO370 := n0_
                have HB := n1_
                have HO387 := n2_
                clear n0_ n1_ n2_ ho hb hg hat
                refine hK.out _ _ trivial (fun hHeld => ?_)
                clear hK K
                refine norm_ (a' := ?_) ?_ ?_
                rotate_left
                ·show Act.put _ (some 47) _ = _
                 simp only [Act.put, List.setIfInBounds_toArray, List.set_cons_zero, List.set_cons_succ, i64_w, i32_w]
                 rfl
                refine pq_ 10 (some 10) ?_
                refine done_ (done_of HT_.out (by kernel_rfl)) ?_
                obtain ⟨Ao44, co44, eo44⟩ := Kd.R_slice HO370.out
                subst eo44
                try go_wp2_with (first | ((with_reducible refine gate_callee (f := 35) rfl ?_); refine goesL_ (some 49) rfl rfl Try.func35 (by kernel_rfl) rfl #[.slice Ao44 y368.length co44] rfl al ?_; (with_reducible refine (spec_ParcelValid.calls kj3 _ _ y368 true _ ?side1 ?side2 A29.out).mono ?_); (case side1 => exact cm (Kd.R_reads' HO370.out).2.2); (case side2 => exact (Kd.R_reads' HO370.out).2.1); rintro e w45 ⟨rfl, hb⟩; refine ⟨_, rfl, ?_⟩; have n0_ := Aside0.mk (Kd.R_below (rm HO370.out) hb); have n1_ := Aside0.mk (Kd.R_below (rm HO387.out) hb); have n2_ := Aside0.mk (below_step (lb HB.out) hb); clear HO370; clear HO387; clear HB; have HO370 := n0_; have HO387 := n1_; have HB := n2_; clear n0_ n1_ n2_; (try clear hb); (try clear hb2); (try clear hk); (try clear hi); obtain ⟨Ao46, co46, eo46⟩ := Kd.R_slice HO387.out; subst eo46) | (go_at_call 35; (with_reducible refine (spec_ParcelValid.calls kj3 _ _ y385 true _ ?side1 ?side2 A31.out).mono ?_); (case side1 => exact cm (Kd.R_reads' HO387.out).2.2); (case side2 => exact (Kd.R_reads' HO387.out).2.1); rintro e w47 ⟨rfl, hb⟩; have n0_ := Aside0.mk (Kd.R_below (rm HO370.out) hb); have n1_ := Aside0.mk (Kd.R_below (rm HO387.out) hb); have n2_ := Aside0.mk (below_step (lb HB.out) hb); clear HO370; clear HO387; clear HB; have HO370 := n0_; have HO387 := n1_; have HB := n2_; clear n0_ n1_ n2_; (try clear hb); (try clear hb2); (try clear hk); (try clear hi)))
                go_ret3
                exact ⟨_, _, by first | rfl | (simp [errW_none, errW_some] <;> rfl) | (simp only [← hji25]; first | rfl | (simp [errW_none, errW_some] <;> rfl)) | (simp [*, errW_none, errW_some] <;> rfl), rm (Kd.R_mono HO370.out (fun _ hk => by first | exact hk.2 | exact trivial)), rm HO387.out, lb HB.out⟩
               ·replace c32 := Bool.eq_false_iff.mpr c32
                subst c32
                have H1 : (some ((([] : List (S33))), (([] : List (S33))), false)) = some (r1, r2, r3) := by rw [if_neg (show ¬ (false = true) by decide)] at H; exact H
                clear H
                have H := H1
                clear H1
                obtain ⟨y390, hy390⟩ : ∃ y_ : List (S33), y_ = (([] : List (S33))) := ⟨_, rfl⟩
                replace H : (some (y390, (([] : List (S33))), false)) = some (r1, r2, r3) := by first | (rw [hy390]; with_reducible exact H) | (have H2_ := (Option.bind_some _ _).symm.trans H; rw [hy390]; with_reducible exact H2_) | (have H2_ := (Option.bind_some _ _).symm.trans H; with_reducible exact H2_) | with_reducible exact H | (rw [hy390]; exact H) | exact H
                have Ny390 := Aside0.mk hy390
                clear hy390
                obtain ⟨y393, hy393⟩ : ∃ y_ : List (S33), y_ = (([] : List (S33))) := ⟨_, rfl⟩
                replace H : (some (y390, y393, false)) = some (r1, r2, r3) := by first | (rw [hy393]; with_reducible exact H) | (have H2_ := (Option.bind_some _ _).symm.trans H; rw [hy393]; with_reducible exact H2_) | (have H2_ := (Option.bind_some _ _).symm.trans H; with_reducible exact H2_) | with_reducible exact H | (rw [hy393]; exact H) | exact H
                have Ny393 := Aside0.mk hy393
                clear hy393
                simp only [Option.some.injEq, Prod.mk.injEq] at H
                obtain ⟨rfl, rfl, rfl⟩ := H
                try go_wp2_with (first | ((with_reducible refine gate_dst (N := 31) rfl ?_); (try (refine gate_guard (by rfl) ?_; dsimp only)); refine Kd.R_lit k33 _ 33 ?hg (N := 31) ?hd (xs := ([] : List (S33))) (inner := []) (ok := fun _ => True) (okp := fun _ => True) ?hr ?hp (fun _ hk => hk) trivial (Below.refl _ _) (Nat.le_refl _) (by simp) ?_; (case hd => rfl); (case hg => rfl); (case hr => first | (go_simp; done) | (go_simp; rfl)); (case hp => exact (Reps.none _ _)); intro v362 w48 ho49 hb hg_ hnew_; clear hg_ hnew_; (first | rw [← Ny361.out] at ho49 | (simp only [Int.reduceToNat] at ho49; rw [← Ny361.out] at ho49)); have n0_ := Aside0.mk (Kd.R_lower ho49 (below_size (lb HB.out))); have n1_ := Aside0.mk (below_step (lb HB.out) hb); clear HB; have HO363 := n0_; have HB := n1_; clear n0_ n1_; clear hb ho49; have q50 : ((wrap64 (a2 + 1)) : Int) ≤ ((l0.length : Int) : Int) := oa; obtain ⟨i050, hi050, _, hsz50, _⟩ := info_parts info33; have hroom50 : l0.length ≤ c0 := HC0.out; have hC50 : Kd.C k33 _ A0 l0.length l0 := HR0.out; have ql50 : (a1 : Int) ≤ ((wrap64 (a2 + 1)) : Int) := oa; have q050 : (0 : Int) ≤ (a1 : Int) := oa; have hcut50 := cut_mid (P := Try.prog) 23 33 .i64 .i64 Try.underlying23 hi050 2 hsz50 A0 l0.length c0 a1 (wrap64 (a2 + 1)) q050 ql50 q50 hroom50; have hr50 := Kd.C_mid (lo := (a1 : Int).toNat) (hi := ((wrap64 (a2 + 1)) : Int).toNat) (c := c0) hC50 (by omega) (by omega) hroom50; obtain ⟨A50, hA50⟩ : ∃ A1, A1 = (if c0 = (a1 : Int).toNat then A0 else (A0 : Option Addr).map (·.add ((a1 : Int).toNat * 2))) := ⟨_, rfl⟩; obtain ⟨c50, hc50⟩ : ∃ c1, c1 = c0 - (a1 : Int).toNat := ⟨_, rfl⟩; have hy50 : y364.length = ((wrap64 (a2 + 1)) : Int).toNat - (a1 : Int).toNat := (by rw [Ny364.out, List.length_drop, List.length_take] <;> omega); rw [show ((l0).take ((wrap64 (a2 + 1)) : Int).toNat).drop (a1 : Int).toNat = y364 from Ny364.out.symm] at hr50; replace hr50 : Kd.C k33 _ A50 y364.length y364 := (by rw [hA50]; exact hr50); rw [← hy50, ← hA50, ← hc50] at hcut50; have HR367 := Aside0.mk hr50; have HC367 := Aside0.mk (show y364.length ≤ c50 from by rw [hy50, hc50]; exact Nat.sub_le_sub_right (Nat.le_trans (by omega) hroom50) _); clear hr50 hC50 hroom50 hi050 hsz50 hc50; have KY50 := Aside0.mk hy50; have KA50 := Aside0.mk hA50; clear hy50 hA50; replace q50 := eq_true q50) | ((with_reducible refine gate_builtin (b := .append) (xs := #[.tmp 31, .tmp 36]) rfl ?_); (try (refine gate_guard (by rfl) ?_; dsimp only)); at_builtin; refine Kd.R_append_rows k33 (w0 := w) w.heap.size rfl (.tmp 31) (.tmp 36) 23 33 (.agg #[(.int .i64 0), (.int .i64 0)]) 16 rfl Try.underlying23 info33 rfl (by decide) (by omega) v362 y361 y364 _ _ _ (fun _ => True) (fun _ => False) rfl rfl ?aO ?aR (fun _ _ h => h) (fun _ h => h.elim) ?aF ?aB ?aS ?aL ?_; (case aR => exact cm (Kd.C_below HR367.out HB.out)); (case aB => exact (lb HB.out)); (case aF => exact (fun _ _ => trivial)); (case aO => exact (rm HO363.out)); (case aS => exact (below_size (lb HB.out))); (case aL => have := LMc21.out; omega); intro v369 w51 ho hb hg hat; rw [← Ny368.out] at ho; have n0_ := Aside0.mk (hb); have n1_ := Aside0.mk (ho); clear HB; clear HO363; have HB := n0_; have HO370 := n1_; clear n0_ n1_; clear ho hb hg hat))
                have n0_ := Aside0.mk (Kd.R_drew HO370.out)
                have n1_ := Aside0.mk (below_drew1 HB.out)
                clear HO370 HB
                have HO370 := n0_
                have HB := n1_
                clear n0_ n1_
                have q53 : (a2 : Int) ≤ ((l0.length : Int) : Int) := oa
                obtain ⟨i053, hi053, _, hsz53, _⟩ := info_parts info33
                have hroom53 : l0.length ≤ c0 := HC0.out
                have hC53 : Kd.C k33 _ A0 l0.length l0 := HR0.out
                have q053 : (0 : Int) ≤ (a2 : Int) := oa
                have hcut53 := cut_from (P := Try.prog) 23 33 .i64 Try.underlying23 hi053 2 hsz53 A0 l0.length c0 a2 q053 q53
                have hr53 := Kd.C_drop (m := (a2 : Int).toNat) (c := c0) hC53 (by omega) hroom53
                obtain ⟨A53, hA53⟩ : ∃ A1, A1 = (if c0 = (a2 : Int).toNat then A0 else (A0 : Option Addr).map (·.add ((a2 : Int).toNat * 2))) := ⟨_, rfl⟩
                obtain ⟨c53, hc53⟩ : ∃ c1, c1 = c0 - (a2 : Int).toNat := ⟨_, rfl⟩
                have hy53 : y374.length = l0.length - (a2 : Int).toNat := (by rw [Ny374.out, List.length_drop] <;> omega)
                rw [show (l0).drop (a2 : Int).toNat = y374 from Ny374.out.symm] at hr53
                replace hr53 : Kd.C k33 _ A53 y374.length y374 := (by rw [hA53]; exact hr53)
                rw [← hy53, ← hA53, ← hc53] at hcut53
                have HR377 := Aside0.mk hr53
                have HC377 := Aside0.mk (show y374.length ≤ c53 from by rw [hy53, hc53]; exact Nat.sub_le_sub_right hroom53 _)
                clear hr53 hC53 hroom53 hi053 hsz53 hc53
                have KY53 := Aside0.mk hy53
                have KA53 := Aside0.mk hA53
                clear hy53 hA53
                replace q53 := eq_true q53
                have q54 : ((ji25) : Int) ≤ ((l0.length : Int) : Int) := oa
                obtain ⟨i054, hi054, _, hsz54, _⟩ := info_parts info33
                have hroom54 : l0.length ≤ c0 := HC0.out
                have hC54 : Kd.C k33 _ A0 l0.length l0 := HR0.out
                have hcut54 := cut_to (P := Try.prog) 23 33 .i64 Try.underlying23 hi054 A0 l0.length c0 (ji25) oa q54 hroom54
                have hr54 := Kd.C_take (m := ((ji25) : Int).toNat) hC54 (by omega)
                have hy54 : y381.length = ((ji25) : Int).toNat := (by rw [Ny381.out, List.length_take]; omega)
                rw [← Ny381.out] at hr54
                rw [← hy54] at hcut54
                have HR384 := Aside0.mk hr54
                have HC384 := Aside0.mk (show y381.length ≤ c0 from by omega)
                clear hr54 hC54 hroom54 hi054 hsz54
                have KY54 := Aside0.mk hy54
                clear hy54
                replace q54 := eq_true q54
                refine start_ (n := 11) (S := fun w' => True) (ds := []) #[false,false,false,false,false,false,false,false,false,false,false] (by kernel_rfl) rfl rfl trivial (fun hHeld => ?_); refine with_tabW spec_ParcelSplit.tab4 spec_ParcelSplit.bits4 (fun HT_ HW_ => ?_)
                generalize w51.drew = w52 at HO370 HB HR377 HR384 hHeld ⊢
                refine pq_ 1 (some 39) ?_
                refine pq_ 2 (some 40) ?_
                refine pq_ 3 (some 41) ?_
                refine pq_ 5 (some 43) ?_
                refine pq_ 6 (some 44) ?_
                refine pq_ 7 (some 45) ?_
                refine pq_ 8 (some 46) ?_
                refine one_ (i := 0) (N := some 38) #[true,true,true,true,false,true,true,true,true,false,false] rfl rfl (one_of HT_.out (by kernel_rfl)) (by decide) (fun K hK => ?_)
                refine Kd.R_lit_step k33 _ 33 ?hg (N := 38) ?hd (xs := ([] : List (S33))) (inner := []) (ok := fun _ => True) (okp := fun _ => True) ?hr ?hp (fun _ hk => hk) trivial (Below.refl _ _) (Nat.le_refl _) (by simp) ?_; (case hd => rfl); (case hg => rfl); (case hr => first | (go_simp; done) | (go_simp; rfl)); (case hp => exact (Reps.none _ _))
                intro v372 w55 ho56 hb hg_ hnew_
                clear hg_ hnew_
                (first | rw [← Ny371.out] at ho56 | (simp only [Int.reduceToNat] at ho56; rw [← Ny371.out] at ho56))
                have n0_ := Aside0.mk (Kd.R_elder' (rm HO370.out) (Kd.R_base ho56) hb)
                have n1_ := Aside0.mk (Kd.R_lower (Kd.R_new' ho56 (Kd.R_lt (rm HO370.out))) (below_size (lb HB.out)))
                have n2_ := Aside0.mk (below_step (lb HB.out) hb)
                clear HO370 HB
                have HO370 := n0_
                have HO373 := n1_
                have HB := n2_
                clear n0_ n1_ n2_ hb ho56
                refine hK.out _ _ trivial (fun hHeld => ?_)
                clear hK K
                refine norm_ (a' := ?_) ?_ ?_
                rotate_left
                ·show Act.put _ (some 38) _ = _
                 simp only [Act.put, List.setIfInBounds_toArray, List.set_cons_zero, List.set_cons_succ, i64_w, i32_w]
                 rfl
                refine one_ (i := 4) (N := some 42) #[true,true,true,true,true,true,true,true,true,false,false] rfl rfl (one_of HT_.out (by kernel_rfl)) (by decide) (fun K hK => ?_)
                refine Kd.R_append_rows_step k33 (w0 := w) w.heap.size (by rfl) (.tmp 38) (.tmp 41) 23 33 (.agg #[(.int .i64 0), (.int .i64 0)]) 16 rfl Try.underlying23 info33 rfl (by decide) (by omega) v372 y371 y374 _ _ _ (fun k_ => some k_ ≠ (v369 : Value).ownBlock) (fun _ => False) rfl rfl ?aO ?aR (fun _ _ h => h) (fun _ h => h.elim) ?aF ?aB ?aS ?aL ?_
                (case aR => exact cm (Kd.C_below HR377.out HB.out))
                (case aB => exact (lb HB.out))
                (case aF => exact (fun k_ hk => Kd.fresh' (Kd.R_lt (rm HO370.out)) k_ hk))
                (case aO => exact (by (with_reducible repeat (first | apply Kd.R_alloc | apply Kd.R_drewN | apply Kd.R_drew)); exact Kd.R_mono HO373.out (fun _ hk => by first | exact hk.2 | exact trivial)))
                (case aS => exact (below_size (lb HB.out)))
                (case aL => have := LMc24.out; omega)
                intro v379 w57 ho hb hg hat
                rw [← Ny378.out] at ho
                have n0_ := Aside0.mk (Kd.R_after (ok := (fun _ => True)) (rm HO370.out) hg hat)
                have n1_ := Aside0.mk (hb)
                have n2_ := Aside0.mk (ho)
                clear HO370 HB HO373
                have HO370 := n0_
                have HB := n1_
                have HO380 := n2_
                clear n0_ n1_ n2_ ho hb hg hat
                refine hK.out _ _ trivial (fun hHeld => ?_)
                clear hK K
                refine norm_ (a' := ?_) ?_ ?_
                rotate_left
                ·show Act.put _ (some 42) _ = _
                 simp only [Act.put, List.setIfInBounds_toArray, List.set_cons_zero, List.set_cons_succ, i64_w, i32_w]
                 rfl
                refine one_ (i := 9) (N := some 47) #[true,true,true,true,true,true,true,true,true,true,false] rfl rfl (one_of HT_.out (by kernel_rfl)) (by decide) (fun K hK => ?_)
                refine Kd.R_append_rows_step k33 (w0 := w) w.heap.size (by rfl) (.tmp 42) (.tmp 46) 23 33 (.agg #[(.int .i64 0), (.int .i64 0)]) 16 rfl Try.underlying23 info33 rfl (by decide) (by omega) v379 y378 y381 _ _ _ (fun k_ => some k_ ≠ (v369 : Value).ownBlock) (fun _ => False) rfl rfl ?aO ?aR (fun _ _ h => h) (fun _ h => h.elim) ?aF ?aB ?aS ?aL ?_
                (case aR => exact cm (Kd.C_below HR384.out HB.out))
                (case aB => exact (lb HB.out))
                (case aF => exact (fun k_ hk => Kd.fresh' (Kd.R_lt (rm HO370.out)) k_ hk))
                (case aO => exact (rm HO380.out))
                (case aS => exact (below_size (lb HB.out)))
                (case aL => have := LMc28.out; omega)
                intro v386 w58 ho hb hg hat
                rw [← Ny385.out] at ho
                have n0_ := Aside0.mk (Kd.R_after (ok := (fun _ => True)) (rm HO370.out) hg hat)
                have n1_ := Aside0.mk (hb)
                have n2_ := Aside0.mk (ho)
                clear HO370 HB HO380
                have HO370 := n0_
                have HB := n1_
                have HO387 := n2_
                clear n0_ n1_ n2_ ho hb hg hat
                refine hK.out _ _ trivial (fun hHeld => ?_)
                clear hK K
                refine norm_ (a' := ?_) ?_ ?_
                rotate_left
                ·show Act.put _ (some 47) _ = _
                 simp only [Act.put, List.setIfInBounds_toArray, List.set_cons_zero, List.set_cons_succ, i64_w, i32_w]
                 rfl
                refine pq_ 10 (some 10) ?_
                refine done_ (done_of HT_.out (by kernel_rfl)) ?_
                obtain ⟨Ao59, co59, eo59⟩ := Kd.R_slice HO370.out
                subst eo59
                try go_wp2_with (first | ((with_reducible refine gate_callee (f := 35) rfl ?_); refine goesL_ (some 49) rfl rfl Try.func35 (by kernel_rfl) rfl #[.slice Ao59 y368.length co59] rfl al ?_; (with_reducible refine (spec_ParcelValid.calls kj3 _ _ y368 true _ ?side1 ?side2 A29.out).mono ?_); (case side1 => exact cm (Kd.R_reads' HO370.out).2.2); (case side2 => exact (Kd.R_reads' HO370.out).2.1); rintro e w60 ⟨rfl, hb⟩; refine ⟨_, rfl, ?_⟩; have n0_ := Aside0.mk (Kd.R_below (rm HO370.out) hb); have n1_ := Aside0.mk (Kd.R_below (rm HO387.out) hb); have n2_ := Aside0.mk (below_step (lb HB.out) hb); clear HO370; clear HO387; clear HB; have HO370 := n0_; have HO387 := n1_; have HB := n2_; clear n0_ n1_ n2_; (try clear hb); (try clear hb2); (try clear hk); (try clear hi); obtain ⟨Ao61, co61, eo61⟩ := Kd.R_slice HO387.out; subst eo61) | (go_at_call 35; (with_reducible refine (spec_ParcelValid.calls kj3 _ _ y385 false _ ?side1 ?side2 A31.out).mono ?_); (case side1 => exact cm (Kd.R_reads' HO387.out).2.2); (case side2 => exact (Kd.R_reads' HO387.out).2.1); rintro e w62 ⟨rfl, hb⟩; have n0_ := Aside0.mk (Kd.R_below (rm HO370.out) hb); have n1_ := Aside0.mk (Kd.R_below (rm HO387.out) hb); have n2_ := Aside0.mk (below_step (lb HB.out) hb); clear HO370; clear HO387; clear HB; have HO370 := n0_; have HO387 := n1_; have HB := n2_; clear n0_ n1_ n2_; (try clear hb); (try clear hb2); (try clear hk); (try clear hi)) | ((with_reducible refine gate_dst (N := 56) rfl ?_); (try (refine gate_guard (by rfl) ?_; dsimp only)); refine Kd.R_lit k33 _ 33 ?hg (N := 56) ?hd (xs := ([] : List (S33))) (inner := []) (ok := fun _ => True) (okp := fun _ => True) ?hr ?hp (fun _ hk => hk) trivial (Below.refl _ _) (Nat.le_refl _) (by simp) ?_; (case hd => rfl); (case hg => rfl); (case hr => first | (go_simp; done) | (go_simp; rfl)); (case hp => exact (Reps.none _ _)); intro v391 w63 ho64 hb hg_ hnew_; clear hg_ hnew_; (first | rw [← Ny390.out] at ho64 | (simp only [Int.reduceToNat] at ho64; rw [← Ny390.out] at ho64)); have n0_ := Aside0.mk (Kd.R_elder' (rm HO370.out) (Kd.R_base ho64) hb); have n1_ := Aside0.mk (Kd.R_elder' (rm HO387.out) (Kd.R_base ho64) hb); have n2_ := Aside0.mk (Kd.R_lower (Kd.R_new' (Kd.R_new' ho64 (Kd.R_lt (rm HO370.out))) (Kd.R_lt (rm HO387.out))) (below_size (lb HB.out))); have n3_ := Aside0.mk (below_step (lb HB.out) hb); clear HO370; clear HO387; clear HB; have HO370 := n0_; have HO387 := n1_; have HO392 := n2_; have HB := n3_; clear n0_ n1_ n2_ n3_; clear hb ho64) | ((with_reducible refine gate_dst (N := 57) rfl ?_); (try (refine gate_guard (by rfl) ?_; dsimp only)); refine Kd.R_lit k33 _ 33 ?hg (N := 57) ?hd (xs := ([] : List (S33))) (inner := []) (ok := fun _ => True) (okp := fun _ => True) ?hr ?hp (fun _ hk => hk) trivial (Below.refl _ _) (Nat.le_refl _) (by simp) ?_; (case hd => rfl); (case hg => rfl); (case hr => first | (go_simp; done) | (go_simp; rfl)); (case hp => exact (Reps.none _ _)); intro v394 w65 ho66 hb hg_ hnew_; clear hg_ hnew_; (first | rw [← Ny393.out] at ho66 | (simp only [Int.reduceToNat] at ho66; rw [← Ny393.out] at ho66)); have n0_ := Aside0.mk (Kd.R_elder' (rm HO370.out) (Kd.R_base ho66) hb); have n1_ := Aside0.mk (Kd.R_elder' (rm HO387.out) (Kd.R_base ho66) hb); have n2_ := Aside0.mk (Kd.R_elder' (rm HO392.out) (Kd.R_base ho66) hb); have n3_ := Aside0.mk (Kd.R_lower (Kd.R_new' (Kd.R_new' (Kd.R_new' ho66 (Kd.R_lt (rm HO370.out))) (Kd.R_lt (rm HO387.out))) (Kd.R_lt (rm HO392.out))) (below_size (lb HB.out))); have n4_ := Aside0.mk (below_step (lb HB.out) hb); clear HO370; clear HO387; clear HO392; clear HB; have HO370 := n0_; have HO387 := n1_; have HO392 := n2_; have HO395 := n3_; have HB := n4_; clear n0_ n1_ n2_ n3_ n4_; clear hb ho66))
                go_ret3
                exact ⟨_, _, by first | rfl | (simp [errW_none, errW_some] <;> rfl) | (simp only [← hji25]; first | rfl | (simp [errW_none, errW_some] <;> rfl)) | (simp [*, errW_none, errW_some] <;> rfl), rm (Kd.R_mono HO392.out (fun _ hk => by first | exact hk.2 | exact trivial)), rm (Kd.R_mono HO395.out (fun _ hk => by first | exact hk.2 | exact trivial)), lb HB.out⟩
              ·replace c30 := Bool.eq_false_iff.mpr c30
               subst c30
               have H1 : (some ((([] : List (S33))), (([] : List (S33))), false)) = some (r1, r2, r3) := by rw [if_neg (show ¬ (false = true) by decide)] at H; exact H
               clear H
               have H := H1
               clear H1
               obtain ⟨y396, hy396⟩ : ∃ y_ : List (S33), y_ = (([] : List (S33))) := ⟨_, rfl⟩
               replace H : (some (y396, (([] : List (S33))), false)) = some (r1, r2, r3) := by first | (rw [hy396]; with_reducible exact H) | (have H2_ := (Option.bind_some _ _).symm.trans H; rw [hy396]; with_reducible exact H2_) | (have H2_ := (Option.bind_some _ _).symm.trans H; with_reducible exact H2_) | with_reducible exact H | (rw [hy396]; exact H) | exact H
               have Ny396 := Aside0.mk hy396
               clear hy396
               obtain ⟨y399, hy399⟩ : ∃ y_ : List (S33), y_ = (([] : List (S33))) := ⟨_, rfl⟩
               replace H : (some (y396, y399, false)) = some (r1, r2, r3) := by first | (rw [hy399]; with_reducible exact H) | (have H2_ := (Option.bind_some _ _).symm.trans H; rw [hy399]; with_reducible exact H2_) | (have H2_ := (Option.bind_some _ _).symm.trans H; with_reducible exact H2_) | with_reducible exact H | (rw [hy399]; exact H) | exact H
               have Ny399 := Aside0.mk hy399
               clear hy399
               simp only [Option.some.injEq, Prod.mk.injEq] at H
               obtain ⟨rfl, rfl, rfl⟩ := H
               try go_wp2_with (first | ((with_reducible refine gate_dst (N := 31) rfl ?_); (try (refine gate_guard (by rfl) ?_; dsimp only)); refine Kd.R_lit k33 _ 33 ?hg (N := 31) ?hd (xs := ([] : List (S33))) (inner := []) (ok := fun _ => True) (okp := fun _ => True) ?hr ?hp (fun _ hk => hk) trivial (Below.refl _ _) (Nat.le_refl _) (by simp) ?_; (case hd => rfl); (case hg => rfl); (case hr => first | (go_simp; done) | (go_simp; rfl)); (case hp => exact (Reps.none _ _)); intro v362 w67 ho68 hb hg_ hnew_; clear hg_ hnew_; (first | rw [← Ny361.out] at ho68 | (simp only [Int.reduceToNat] at ho68; rw [← Ny361.out] at ho68)); have n0_ := Aside0.mk (Kd.R_lower ho68 (below_size (lb HB.out))); have n1_ := Aside0.mk (below_step (lb HB.out) hb); clear HB; have HO363 := n0_; have HB := n1_; clear n0_ n1_; clear hb ho68; have q69 : ((wrap64 (a2 + 1)) : Int) ≤ ((l0.length : Int) : Int) := oa; obtain ⟨i069, hi069, _, hsz69, _⟩ := info_parts info33; have hroom69 : l0.length ≤ c0 := HC0.out; have hC69 : Kd.C k33 _ A0 l0.length l0 := HR0.out; have ql69 : (a1 : Int) ≤ ((wrap64 (a2 + 1)) : Int) := oa; have q069 : (0 : Int) ≤ (a1 : Int) := oa; have hcut69 := cut_mid (P := Try.prog) 23 33 .i64 .i64 Try.underlying23 hi069 2 hsz69 A0 l0.length c0 a1 (wrap64 (a2 + 1)) q069 ql69 q69 hroom69; have hr69 := Kd.C_mid (lo := (a1 : Int).toNat) (hi := ((wrap64 (a2 + 1)) : Int).toNat) (c := c0) hC69 (by omega) (by omega) hroom69; obtain ⟨A69, hA69⟩ : ∃ A1, A1 = (if c0 = (a1 : Int).toNat then A0 else (A0 : Option Addr).map (·.add ((a1 : Int).toNat * 2))) := ⟨_, rfl⟩; obtain ⟨c69, hc69⟩ : ∃ c1, c1 = c0 - (a1 : Int).toNat := ⟨_, rfl⟩; have hy69 : y364.length = ((wrap64 (a2 + 1)) : Int).toNat - (a1 : Int).toNat := (by rw [Ny364.out, List.length_drop, List.length_take] <;> omega); rw [show ((l0).take ((wrap64 (a2 + 1)) : Int).toNat).drop (a1 : Int).toNat = y364 from Ny364.out.symm] at hr69; replace hr69 : Kd.C k33 _ A69 y364.length y364 := (by rw [hA69]; exact hr69); rw [← hy69, ← hA69, ← hc69] at hcut69; have HR367 := Aside0.mk hr69; have HC367 := Aside0.mk (show y364.length ≤ c69 from by rw [hy69, hc69]; exact Nat.sub_le_sub_right (Nat.le_trans (by omega) hroom69) _); clear hr69 hC69 hroom69 hi069 hsz69 hc69; have KY69 := Aside0.mk hy69; have KA69 := Aside0.mk hA69; clear hy69 hA69; replace q69 := eq_true q69) | ((with_reducible refine gate_builtin (b := .append) (xs := #[.tmp 31, .tmp 36]) rfl ?_); (try (refine gate_guard (by rfl) ?_; dsimp only)); at_builtin; refine Kd.R_append_rows k33 (w0 := w) w.heap.size rfl (.tmp 31) (.tmp 36) 23 33 (.agg #[(.int .i64 0), (.int .i64 0)]) 16 rfl Try.underlying23 info33 rfl (by decide) (by omega) v362 y361 y364 _ _ _ (fun _ => True) (fun _ => False) rfl rfl ?aO ?aR (fun _ _ h => h) (fun _ h => h.elim) ?aF ?aB ?aS ?aL ?_; (case aR => exact cm (Kd.C_below HR367.out HB.out)); (case aB => exact (lb HB.out)); (case aF => exact (fun _ _ => trivial)); (case aO => exact (rm HO363.out)); (case aS => exact (below_size (lb HB.out))); (case aL => have := LMc21.out; omega); intro v369 w70 ho hb hg hat; rw [← Ny368.out] at ho; have n0_ := Aside0.mk (hb); have n1_ := Aside0.mk (ho); clear HB; clear HO363; have HB := n0_; have HO370 := n1_; clear n0_ n1_; clear ho hb hg hat))
               have n0_ := Aside0.mk (Kd.R_drew HO370.out)
               have n1_ := Aside0.mk (below_drew1 HB.out)
               clear HO370 HB
               have HO370 := n0_
               have HB := n1_
               clear n0_ n1_
               have q72 : (a2 : Int) ≤ ((l0.length : Int) : Int) := oa
               obtain ⟨i072, hi072, _, hsz72, _⟩ := info_parts info33
               have hroom72 : l0.length ≤ c0 := HC0.out
               have hC72 : Kd.C k33 _ A0 l0.length l0 := HR0.out
               have q072 : (0 : Int) ≤ (a2 : Int) := oa
               have hcut72 := cut_from (P := Try.prog) 23 33 .i64 Try.underlying23 hi072 2 hsz72 A0 l0.length c0 a2 q072 q72
               have hr72 := Kd.C_drop (m := (a2 : Int).toNat) (c := c0) hC72 (by omega) hroom72
               obtain ⟨A72, hA72⟩ : ∃ A1, A1 = (if c0 = (a2 : Int).toNat then A0 else (A0 : Option Addr).map (·.add ((a2 : Int).toNat * 2))) := ⟨_, rfl⟩
               obtain ⟨c72, hc72⟩ : ∃ c1, c1 = c0 - (a2 : Int).toNat := ⟨_, rfl⟩
               have hy72 : y374.length = l0.length - (a2 : Int).toNat := (by rw [Ny374.out, List.length_drop] <;> omega)
               rw [show (l0).drop (a2 : Int).toNat = y374 from Ny374.out.symm] at hr72
               replace hr72 : Kd.C k33 _ A72 y374.length y374 := (by rw [hA72]; exact hr72)
               rw [← hy72, ← hA72, ← hc72] at hcut72
               have HR377 := Aside0.mk hr72
               have HC377 := Aside0.mk (show y374.length ≤ c72 from by rw [hy72, hc72]; exact Nat.sub_le_sub_right hroom72 _)
               clear hr72 hC72 hroom72 hi072 hsz72 hc72
               have KY72 := Aside0.mk hy72
               have KA72 := Aside0.mk hA72
               clear hy72 hA72
               replace q72 := eq_true q72
               have q73 : ((ji25) : Int) ≤ ((l0.length : Int) : Int) := oa
               obtain ⟨i073, hi073, _, hsz73, _⟩ := info_parts info33
               have hroom73 : l0.length ≤ c0 := HC0.out
               have hC73 : Kd.C k33 _ A0 l0.length l0 := HR0.out
               have hcut73 := cut_to (P := Try.prog) 23 33 .i64 Try.underlying23 hi073 A0 l0.length c0 (ji25) oa q73 hroom73
               have hr73 := Kd.C_take (m := ((ji25) : Int).toNat) hC73 (by omega)
               have hy73 : y381.length = ((ji25) : Int).toNat := (by rw [Ny381.out, List.length_take]; omega)
               rw [← Ny381.out] at hr73
               rw [← hy73] at hcut73
               have HR384 := Aside0.mk hr73
               have HC384 := Aside0.mk (show y381.length ≤ c0 from by omega)
               clear hr73 hC73 hroom73 hi073 hsz73
               have KY73 := Aside0.mk hy73
               clear hy73
               replace q73 := eq_true q73
               refine start_ (n := 11) (S := fun w' => True) (ds := []) #[false,false,false,false,false,false,false,false,false,false,false] (by kernel_rfl) rfl rfl trivial (fun hHeld => ?_); refine with_tabW spec_ParcelSplit.tab4 spec_ParcelSplit.bits4 (fun HT_ HW_ => ?_)
               generalize w70.drew = w71 at HO370 HB HR377 HR384 hHeld ⊢
               refine pq_ 1 (some 39) ?_
               refine pq_ 2 (some 40) ?_
               refine pq_ 3 (some 41) ?_
               refine pq_ 5 (some 43) ?_
               refine pq_ 6 (some 44) ?_
               refine pq_ 7 (some 45) ?_
               refine pq_ 8 (some 46) ?_
               refine one_ (i := 0) (N := some 38) #[true,true,true,true,false,true,true,true,true,false,false] rfl rfl (one_of HT_.out (by kernel_rfl)) (by decide) (fun K hK => ?_)
               refine Kd.R_lit_step k33 _ 33 ?hg (N := 38) ?hd (xs := ([] : List (S33))) (inner := []) (ok := fun _ => True) (okp := fun _ => True) ?hr ?hp (fun _ hk => hk) trivial (Below.refl _ _) (Nat.le_refl _) (by simp) ?_; (case hd => rfl); (case hg => rfl); (case hr => first | (go_simp; done) | (go_simp; rfl)); (case hp => exact (Reps.none _ _))
               intro v372 w74 ho75 hb hg_ hnew_
               clear hg_ hnew_
               (first | rw [← Ny371.out] at ho75 | (simp only [Int.reduceToNat] at ho75; rw [← Ny371.out] at ho75))
               have n0_ := Aside0.mk (Kd.R_elder' (rm HO370.out) (Kd.R_base ho75) hb)
               have n1_ := Aside0.mk (Kd.R_lower (Kd.R_new' ho75 (Kd.R_lt (rm HO370.out))) (below_size (lb HB.out)))
               have n2_ := Aside0.mk (below_step (lb HB.out) hb)
               clear HO370 HB
               have HO370 := n0_
               have HO373 := n1_
               have HB := n2_
               clear n0_ n1_ n2_ hb ho75
               refine hK.out _ _ trivial (fun hHeld => ?_)
               clear hK K
               refine norm_ (a' := ?_) ?_ ?_
               rotate_left
               ·show Act.put _ (some 38) _ = _
                simp only [Act.put, List.setIfInBounds_toArray, List.set_cons_zero, List.set_cons_succ, i64_w, i32_w]
                rfl
               refine one_ (i := 4) (N := some 42) #[true,true,true,true,true,true,true,true,true,false,false] rfl rfl (one_of HT_.out (by kernel_rfl)) (by decide) (fun K hK => ?_)
               refine Kd.R_append_rows_step k33 (w0 := w) w.heap.size (by rfl) (.tmp 38) (.tmp 41) 23 33 (.agg #[(.int .i64 0), (.int .i64 0)]) 16 rfl Try.underlying23 info33 rfl (by decide) (by omega) v372 y371 y374 _ _ _ (fun k_ => some k_ ≠ (v369 : Value).ownBlock) (fun _ => False) rfl rfl ?aO ?aR (fun _ _ h => h) (fun _ h => h.elim) ?aF ?aB ?aS ?aL ?_
               (case aR => exact cm (Kd.C_below HR377.out HB.out))
               (case aB => exact (lb HB.out))
               (case aF => exact (fun k_ hk => Kd.fresh' (Kd.R_lt (rm HO370.out)) k_ hk))
               (case aO => exact (by (with_reducible repeat (first | apply Kd.R_alloc | apply Kd.R_drewN | apply Kd.R_drew)); exact Kd.R_mono HO373.out (fun _ hk => by first | exact hk.2 | exact trivial)))
               (case aS => exact (below_size (lb HB.out)))
               (case aL => have := LMc24.out; omega)
               intro v379 w76 ho hb hg hat
               rw [← Ny378.out] at ho
               have n0_ := Aside0.mk (Kd.R_after (ok := (fun _ => True)) (rm HO370.out) hg hat)
               have n1_ := Aside0.mk (hb)
               have n2_ := Aside0.mk (ho)
               clear HO370 HB HO373
               have HO370 := n0_
               have HB := n1_
               have HO380 := n2_
               clear n0_ n1_ n2_ ho hb hg hat
               refine hK.out _ _ trivial (fun hHeld => ?_)
               clear hK K
               refine norm_ (a' := ?_) ?_ ?_
               rotate_left
               ·show Act.put _ (some 42) _ = _
                simp only [Act.put, List.setIfInBounds_toArray, List.set_cons_zero, List.set_cons_succ, i64_w, i32_w]
                rfl
               refine one_ (i := 9) (N := some 47) #[true,true,true,true,true,true,true,true,true,true,false] rfl rfl (one_of HT_.out (by kernel_rfl)) (by decide) (fun K hK => ?_)
               refine Kd.R_append_rows_step k33 (w0 := w) w.heap.size (by rfl) (.tmp 42) (.tmp 46) 23 33 (.agg #[(.int .i64 0), (.int .i64 0)]) 16 rfl Try.underlying23 info33 rfl (by decide) (by omega) v379 y378 y381 _ _ _ (fun k_ => some k_ ≠ (v369 : Value).ownBlock) (fun _ => False) rfl rfl ?aO ?aR (fun _ _ h => h) (fun _ h => h.elim) ?aF ?aB ?aS ?aL ?_
               (case aR => exact cm (Kd.C_below HR384.out HB.out))
               (case aB => exact (lb HB.out))
               (case aF => exact (fun k_ hk => Kd.fresh' (Kd.R_lt (rm HO370.out)) k_ hk))
               (case aO => exact (rm HO380.out))
               (case aS => exact (below_size (lb HB.out)))
               (case aL => have := LMc28.out; omega)
               intro v386 w77 ho hb hg hat
               rw [← Ny385.out] at ho
               have n0_ := Aside0.mk (Kd.R_after (ok := (fun _ => True)) (rm HO370.out) hg hat)
               have n1_ := Aside0.mk (hb)
               have n2_ := Aside0.mk (ho)
               clear HO370 HB HO380
               have HO370 := n0_
               have HB := n1_
               have HO387 := n2_
               clear n0_ n1_ n2_ ho hb hg hat
               refine hK.out _ _ trivial (fun hHeld => ?_)
               clear hK K
               refine norm_ (a' := ?_) ?_ ?_
               rotate_left
               ·show Act.put _ (some 47) _ = _
                simp only [Act.put, List.setIfInBounds_toArray, List.set_cons_zero, List.set_cons_succ, i64_w, i32_w]
                rfl
               refine pq_ 10 (some 10) ?_
               refine done_ (done_of HT_.out (by kernel_rfl)) ?_
               obtain ⟨Ao78, co78, eo78⟩ := Kd.R_slice HO370.out
               subst eo78
               try go_wp2_with (first | ((with_reducible refine gate_callee (f := 35) rfl ?_); refine goesL_ (some 49) rfl rfl Try.func35 (by kernel_rfl) rfl #[.slice Ao78 y368.length co78] rfl al ?_; (with_reducible refine (spec_ParcelValid.calls kj3 _ _ y368 false _ ?side1 ?side2 A29.out).mono ?_); (case side1 => exact cm (Kd.R_reads' HO370.out).2.2); (case side2 => exact (Kd.R_reads' HO370.out).2.1); rintro e w79 ⟨rfl, hb⟩; refine ⟨_, rfl, ?_⟩; have n0_ := Aside0.mk (Kd.R_below (rm HO370.out) hb); have n1_ := Aside0.mk (Kd.R_below (rm HO387.out) hb); have n2_ := Aside0.mk (below_step (lb HB.out) hb); clear HO370; clear HO387; clear HB; have HO370 := n0_; have HO387 := n1_; have HB := n2_; clear n0_ n1_ n2_; (try clear hb); (try clear hb2); (try clear hk); (try clear hi)) | ((with_reducible refine gate_dst (N := 56) rfl ?_); (try (refine gate_guard (by rfl) ?_; dsimp only)); refine Kd.R_lit k33 _ 33 ?hg (N := 56) ?hd (xs := ([] : List (S33))) (inner := []) (ok := fun _ => True) (okp := fun _ => True) ?hr ?hp (fun _ hk => hk) trivial (Below.refl _ _) (Nat.le_refl _) (by simp) ?_; (case hd => rfl); (case hg => rfl); (case hr => first | (go_simp; done) | (go_simp; rfl)); (case hp => exact (Reps.none _ _)); intro v397 w80 ho81 hb hg_ hnew_; clear hg_ hnew_; (first | rw [← Ny396.out] at ho81 | (simp only [Int.reduceToNat] at ho81; rw [← Ny396.out] at ho81)); have n0_ := Aside0.mk (Kd.R_elder' (rm HO370.out) (Kd.R_base ho81) hb); have n1_ := Aside0.mk (Kd.R_elder' (rm HO387.out) (Kd.R_base ho81) hb); have n2_ := Aside0.mk (Kd.R_lower (Kd.R_new' (Kd.R_new' ho81 (Kd.R_lt (rm HO370.out))) (Kd.R_lt (rm HO387.out))) (below_size (lb HB.out))); have n3_ := Aside0.mk (below_step (lb HB.out) hb); clear HO370; clear HO387; clear HB; have HO370 := n0_; have HO387 := n1_; have HO398 := n2_; have HB := n3_; clear n0_ n1_ n2_ n3_; clear hb ho81) | ((with_reducible refine gate_dst (N := 57) rfl ?_); (try (refine gate_guard (by rfl) ?_; dsimp only)); refine Kd.R_lit k33 _ 33 ?hg (N := 57) ?hd (xs := ([] : List (S33))) (inner := []) (ok := fun _ => True) (okp := fun _ => True) ?hr ?hp (fun _ hk => hk) trivial (Below.refl _ _) (Nat.le_refl _) (by simp) ?_; (case hd => rfl); (case hg => rfl); (case hr => first | (go_simp; done) | (go_simp; rfl)); (case hp => exact (Reps.none _ _)); intro v400 w82 ho83 hb hg_ hnew_; clear hg_ hnew_; (first | rw [← Ny399.out] at ho83 | (simp only [Int.reduceToNat] at ho83; rw [← Ny399.out] at ho83)); have n0_ := Aside0.mk (Kd.R_elder' (rm HO370.out) (Kd.R_base ho83) hb); have n1_ := Aside0.mk (Kd.R_elder' (rm HO387.out) (Kd.R_base ho83) hb); have n2_ := Aside0.mk (Kd.R_elder' (rm HO398.out) (Kd.R_base ho83) hb); have n3_ := Aside0.mk (Kd.R_lower (Kd.R_new' (Kd.R_new' (Kd.R_new' ho83 (Kd.R_lt (rm HO370.out))) (Kd.R_lt (rm HO387.out))) (Kd.R_lt (rm HO398.out))) (below_size (lb HB.out))); have n4_ := Aside0.mk (below_step (lb HB.out) hb); clear HO370; clear HO387; clear HO398; clear HB; have HO370 := n0_; have HO387 := n1_; have HO398 := n2_; have HO401 := n3_; have HB := n4_; clear n0_ n1_ n2_ n3_ n4_; clear hb ho83))
               go_ret3
               exact ⟨_, _, by first | rfl | (simp [errW_none, errW_some] <;> rfl) | (simp only [← hji25]; first | rfl | (simp [errW_none, errW_some] <;> rfl)) | (simp [*, errW_none, errW_some] <;> rfl), rm (Kd.R_mono HO398.out (fun _ hk => by first | exact hk.2 | exact trivial)), rm (Kd.R_mono HO401.out (fun _ hk => by first | exact hk.2 | exact trivial)), lb HB.out⟩
             ·rw [if_neg c28] at H
              exact absurd H (by simp)
            ·rw [if_neg c27] at H
             exact absurd H (by simp)
           ·rw [if_neg c26] at H
            exact absurd H (by simp)
          ·rw [if_neg c24] at H
           exact absurd H (by simp)
         ·rw [if_neg c23] at H
          exact absurd H (by simp)
        ·rw [if_neg c22] at H
         exact absurd H (by simp)
       ·rw [if_neg c21] at H
        exact absurd H (by simp)
      ·rw [if_neg c20] at H
       exact absurd H (by simp)
     ·rw [if_neg c19] at H
      exact absurd H (by simp)
    ·rw [if_neg c18] at H
     exact absurd H (by simp)
end Go.Proofs.Ytfonigbkoligmaa.P
-- squeezed

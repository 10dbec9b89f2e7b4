import Derived.Test.YtfonigbkoligmaaPx0
import Derived.Test.YtfonigbkoligmaaPx2
import Derived.Test.YtfonigbkoligmaaPx3
import Derived.Test.YtfonigbkoligmaaPx4
import Derived.Test.YtfonigbkoligmaaPx6
import Derived.Test.YtfonigbkoligmaaPx7
namespace Go.Proofs.Ytfonigbkoligmaa.P
open Go.RowKit Go.Proofs.YtfonigbkoligmaaW.PrintWords Go.Proofs.YtfonigbkoligmaaW.PrintLast Go.Proofs.YtfonigbkoligmaaW.PrintMore
attribute [local go_sem] max2_int min2_int max_two min_two max_three min_three max_four min_four
set_option linter.unusedVariables false
set_option linter.unusedSimpArgs false
def spec_ParcelMarks.l0 : Nat → List (S33) → List (S33) → Int → Int → Option ((List (S33)) × Bool)
 | 0, _, _, _, _ => none
 | k + 1, x0, x4, x5, x6 => if x6 < x5 then (if x5 = 0 then (none) else (if 0 ≤ (Int.tmod (wrap64 ((wrap64 (x6 + x5)) - 1)) x5) then (if (Int.tmod (wrap64 ((wrap64 (x6 + x5)) - 1)) x5) < (x0.length : Int) then (if 0 ≤ x6 then (if x6 < (x0.length : Int) then (if 0 ≤ (Int.tmod (wrap64 (x6 + 1)) x5) then (if (Int.tmod (wrap64 (x6 + 1)) x5) < (x0.length : Int) then ((spec_l31Side.f ((rd_T33 x0 (Int.tmod (wrap64 ((wrap64 (x6 + x5)) - 1)) x5)).f0) ((rd_T33 x0 (Int.tmod (wrap64 ((wrap64 (x6 + x5)) - 1)) x5)).f1) ((rd_T33 x0 x6).f0) ((rd_T33 x0 x6).f1) ((rd_T33 x0 (Int.tmod (wrap64 (x6 + 1)) x5)).f0) ((rd_T33 x0 (Int.tmod (wrap64 (x6 + 1)) x5)).f1)).bind fun t317 => (if t317 = 0 then (spec_ParcelMarks.l0 k x0 x4 x5 (wrap64 (x6 + 1))) else (if x4.length < 8796093022208 then (spec_ParcelMarks.l0 k x0 (x4 ++ [(⟨(rd_T33 x0 x6).f0, (rd_T33 x0 x6).f1⟩ : S33)]) x5 (wrap64 (x6 + 1))) else (none)))) else (none)) else (none)) else (none)) else (none)) else (none)) else (none))) else (some (x4, true))
def spec_ParcelMarks.f (k : Nat) (l0 : List (S33)) : Option ((List (S33)) × Bool) := (some (([] : List (S33)) : List (S33))).bind fun y310 => ((spec_ParcelValid.f k l0).bind fun t313 => (if t313 = true then (spec_ParcelMarks.l0 k l0 y310 (l0.length : Int) 0) else (some (y310, false))))
theorem spec_ParcelMarks.mono_l : ∀ k, (∀ y0 y1 y2 y3, LeO (spec_ParcelMarks.l0 k y0 y1 y2 y3) (spec_ParcelMarks.l0 (k + 1) y0 y1 y2 y3))
 | 0 => fun _ _ _ _ r h => by simp [spec_ParcelMarks.l0] at h
 | k + 1 => by
  have ih0 := spec_ParcelMarks.mono_l k
  ·intro y0 y1 y2 y3
   unfold spec_ParcelMarks.l0
   repeat' first
   | (with_reducible exact ih0 _ _ _ _)
   | (with_reducible exact spec_ParcelValid.mono _ _)
   | (with_reducible exact LeO.refl _)
   | (with_reducible exact LeO.none _)
   | (with_reducible refine LeO.ite ?_ ?_)
   | (with_reducible refine LeO.bind ?_ (fun _ => ?_))
   | exact ih0 _ _ _ _
   | exact spec_ParcelValid.mono _ _
   | exact LeO.none _
   | refine LeO.ite ?_ ?_
   | refine LeO.bind ?_ (fun _ => ?_)
theorem spec_ParcelMarks.mono : ∀ a0 k, LeO (spec_ParcelMarks.f k a0) (spec_ParcelMarks.f (k + 1) a0) := by
 intro a0 k
 have ih0 := spec_ParcelMarks.mono_l k
 unfold spec_ParcelMarks.f
 repeat' first
   | (with_reducible exact ih0 _ _ _ _)
   | (with_reducible exact spec_ParcelValid.mono _ _)
   | (with_reducible exact LeO.refl _)
   | (with_reducible exact LeO.none _)
   | (with_reducible refine LeO.ite ?_ ?_)
   | (with_reducible refine LeO.bind ?_ (fun _ => ?_))
   | exact ih0 _ _ _ _
   | exact spec_ParcelValid.mono _ _
   | exact LeO.none _
   | refine LeO.ite ?_ ?_
   | refine LeO.bind ?_ (fun _ => ?_)
def spec_ParcelMarks.T8 : Bool × List (List Nat × List Nat) := (true,[([],[]),([],[]),([],[]),([1,2],[1,2]),([3],[3]),([],[]),([4,5],[4,5]),([0,6],[0,6]),([7],[7]),([],[]),([],[]),([9,10],[9,10]),([11],[11]),([],[]),([],[]),([14],[14]),([],[]),([15,16],[15,16]),([13,17],[13,17]),([18],[18]),([8,12,19],[8,12,19]),([20],[20])])
def spec_ParcelMarks.B8 : List Nat := [0,0,0,6,14,0,62,127,255,0,0,1536,3584,0,0,16384,0,114688,253952,516096,1048575,2097151]
theorem spec_ParcelMarks.tab8 : rtab .any (opsOf Try.f24 8) = spec_ParcelMarks.T8 := by kernel_rfl
theorem spec_ParcelMarks.bits8 : waitsOk spec_ParcelMarks.T8.2 spec_ParcelMarks.B8 = true := by kernel_rfl
set_option maxHeartbeats 8000000 in
set_option maxRecDepth 100000 in
theorem spec_ParcelMarks.calls (k : Nat) (A0 : Option Addr) (c0 : Nat) (l0 : List (S33)) (r1 : List (S33)) (r2 : Bool) (w : World) (hr0 : Kd.C k33 w A0 l0.length l0) (hc0 : l0.length ≤ c0) (h : spec_ParcelMarks.f k l0 = some (r1, r2)) :
  Calls Try.prog 24 #[.slice A0 l0.length c0] w fun e w' => ∃ v0_ : Value, e = .returned (.tuple #[v0_, .bool r2]) ∧ Kd.R k33 33 w' w.heap.size (fun _ => True) v0_ r1 ∧ Below w.heap.size w w' := by
 have hu33 := Try.underlying33
 have HR0 := Aside0.mk hr0
 have HC0 := Aside0.mk hc0
 clear hr0 hc0
 have HB := Aside0.mk (Below.refl w.heap.size w)
 have H : ((some (([] : List (S33)) : List (S33))).bind fun y310 => ((spec_ParcelValid.f k l0).bind fun t313 => (if t313 = true then (spec_ParcelMarks.l0 k l0 y310 (l0.length : Int) 0) else (some (y310, false))))) = some (r1, r2) := h
 clear h
 obtain ⟨y310, hy310⟩ : ∃ y_ : List (S33), y_ = (([] : List (S33))) := ⟨_, rfl⟩
 replace H : ((spec_ParcelValid.f k l0).bind fun t313 => (if t313 = true then (spec_ParcelMarks.l0 k l0 y310 (l0.length : Int) 0) else (some (y310, false)))) = some (r1, r2) := by first | (rw [hy310]; with_reducible exact H) | (have H2_ := (Option.bind_some _ _).symm.trans H; rw [hy310]; with_reducible exact H2_) | (have H2_ := (Option.bind_some _ _).symm.trans H; with_reducible exact H2_) | with_reducible exact H | (rw [hy310]; exact H) | exact H
 have Ny310 := Aside0.mk hy310
 clear hy310
 replace H := Option.bind_eq_some_iff.mp H
 obtain ⟨t313, A20, H⟩ := H
 replace H : (if t313 = true then (spec_ParcelMarks.l0 k l0 y310 (l0.length : Int) 0) else (some (y310, false))) = some (r1, r2) := H
 have A2 := Aside0.mk A20
 clear A20
 by_cases c3 : t313 = true
 ·subst c3
  have H1 : (spec_ParcelMarks.l0 k l0 y310 (l0.length : Int) 0) = some (r1, r2) := by rw [if_pos rfl] at H; exact H
  clear H
  have H := H1
  clear H1
  have H' := Aside0.mk H
  clear H
  go_enter Try.func24, Try.ntmps24
  go_wp2_with (first | ((with_reducible refine gate_dst (N := 7) rfl ?_); refine Kd.R_lit k33 _ 33 ?hg (N := 7) ?hd (xs := ([] : List (S33))) (inner := []) (ok := fun _ => True) (okp := fun _ => True) ?hr ?hp (fun _ hk => hk) trivial (Below.refl _ _) (Nat.le_refl _) (by simp) ?_; (case hd => rfl); (case hg => rfl); (case hr => first | (go_simp; done) | (go_simp; rfl)); (case hp => exact (Reps.none _ _)); intro v311 w4 ho5 hb hg_ hnew_; clear hg_ hnew_; (first | rw [← Ny310.out] at ho5 | (simp only [Int.reduceToNat] at ho5; rw [← Ny310.out] at ho5)); have n0_ := Aside0.mk (Kd.R_lower ho5 (below_size (lb HB.out))); have n1_ := Aside0.mk (below_step (lb HB.out) hb); clear HB; have HO312 := n0_; have HB := n1_; clear n0_ n1_; clear hb ho5) | ((with_reducible refine gate_callee (f := 35) rfl ?_); refine goesL_ (some 9) rfl rfl Try.func35 (by kernel_rfl) rfl #[.slice A0 l0.length c0] rfl al ?_; (with_reducible refine (spec_ParcelValid.calls k _ _ l0 true _ ?side1 ?side2 A2.out).mono ?_); (case side1 => exact cm (Kd.C_below HR0.out HB.out)); (case side2 => exact HC0.out); rintro e w6 ⟨rfl, hb⟩; refine ⟨_, rfl, ?_⟩; have n0_ := Aside0.mk (Kd.R_below (rm HO312.out) hb); have n1_ := Aside0.mk (below_step (lb HB.out) hb); clear HO312; clear HB; have HO312 := n0_; have HB := n1_; clear n0_ n1_; (try clear hb); (try clear hb2); (try clear hk); (try clear hi)))
  go_loopg [4, 6] k (fun kq v4 v6 w' => ∃ (x4_1 : List (S33)) (x6_1 : Int), v6 = .int .i64 x6_1 ∧ Aside0 (spec_ParcelMarks.l0 kq l0 x4_1 (l0.length : Int) x6_1 = some (r1, r2)) ∧ Aside0 (kq ≤ k) ∧ Aside0 (Kd.R k33 33 w' w.heap.size (fun _ => True) v4 x4_1) ∧ Aside0 (Below w.heap.size w w'))
  case atStart => exact ⟨(y310), (0), (by first | rfl | (simp; done) | (simp [*]; done)), H', ⟨Nat.le_refl _⟩, ⟨rm HO312.out⟩, ⟨lb HB.out⟩⟩
  case round =>
   clear H'
   try clear c2
   try clear p2
   try clear c3
   obtain ⟨x4_1, x6_1, rfl, HA, HK1, HO_4, HB⟩ := hrel
   cases gk with
   | zero => exact absurd HA.out (by simp [spec_ParcelMarks.l0])
   | succ k1 =>
    have H := HA.out
    clear HA
    simp only [spec_ParcelMarks.l0] at H
    by_cases c7 : x6_1 < (l0.length : Int)
    ·rw [if_pos c7] at H
     have c7b0 : decide (x6_1 < (l0.length : Int)) = true := decide_eq_true c7
     clear c7
     by_cases c8 : (l0.length : Int) = 0
     ·rw [if_pos c8] at H
      exact absurd H (by simp)
     ·rw [if_neg c8] at H
      have c8b0 : ((l0.length : Int) == 0) = false := beq_eq_false_iff_ne.mpr c8
      have c8b1 : ((l0.length : Int) != 0) = true := bne_iff_ne.mpr c8
      have c8b2 : ¬ (l0 = []) := fun h_ => c8 (by rw [h_]; rfl)
      obtain ⟨ji9, hji9⟩ : ∃ j_ : Int, (Int.tmod (wrap64 ((wrap64 (x6_1 + (l0.length : Int))) - 1)) (l0.length : Int)) = j_ := ⟨_, rfl⟩
      replace H : (if 0 ≤ (ji9) then (if (ji9) < (l0.length : Int) then (if 0 ≤ x6_1 then (if x6_1 < (l0.length : Int) then (if 0 ≤ (Int.tmod (wrap64 (x6_1 + 1)) (l0.length : Int)) then (if (Int.tmod (wrap64 (x6_1 + 1)) (l0.length : Int)) < (l0.length : Int) then ((spec_l31Side.f ((rd_T33 l0 (ji9)).f0) ((rd_T33 l0 (ji9)).f1) ((rd_T33 l0 x6_1).f0) ((rd_T33 l0 x6_1).f1) ((rd_T33 l0 (Int.tmod (wrap64 (x6_1 + 1)) (l0.length : Int))).f0) ((rd_T33 l0 (Int.tmod (wrap64 (x6_1 + 1)) (l0.length : Int))).f1)).bind fun t317 => (if t317 = 0 then (spec_ParcelMarks.l0 k1 l0 x4_1 (l0.length : Int) (wrap64 (x6_1 + 1))) else (if x4_1.length < 8796093022208 then (spec_ParcelMarks.l0 k1 l0 (x4_1 ++ [(⟨(rd_T33 l0 x6_1).f0, (rd_T33 l0 x6_1).f1⟩ : S33)]) (l0.length : Int) (wrap64 (x6_1 + 1))) else (none)))) else (none)) else (none)) else (none)) else (none)) else (none)) else (none)) = some (r1, r2) := by first | (rw [hji9] at H; exact H) | (simp only [hji9] at H ⊢; exact H)
      by_cases c10 : 0 ≤ (ji9)
      ·rw [if_pos c10] at H
       have c10b0 : decide (0 ≤ (ji9)) = true := decide_eq_true c10
       clear c10
       by_cases c11 : (ji9) < (l0.length : Int)
       ·rw [if_pos c11] at H
        have c11b0 : decide ((ji9) < (l0.length : Int)) = true := decide_eq_true c11
        clear c11
        by_cases c12 : 0 ≤ x6_1
        ·rw [if_pos c12] at H
         have c12b0 : decide (0 ≤ x6_1) = true := decide_eq_true c12
         clear c12
         by_cases c13 : x6_1 < (l0.length : Int)
         ·rw [if_pos c13] at H
          have c13b0 : decide (x6_1 < (l0.length : Int)) = true := decide_eq_true c13
          clear c13
          obtain ⟨ji14, hji14⟩ : ∃ j_ : Int, (Int.tmod (wrap64 (x6_1 + 1)) (l0.length : Int)) = j_ := ⟨_, rfl⟩
          replace H : (if 0 ≤ (ji14) then (if (ji14) < (l0.length : Int) then ((spec_l31Side.f ((rd_T33 l0 (ji9)).f0) ((rd_T33 l0 (ji9)).f1) ((rd_T33 l0 x6_1).f0) ((rd_T33 l0 x6_1).f1) ((rd_T33 l0 (ji14)).f0) ((rd_T33 l0 (ji14)).f1)).bind fun t317 => (if t317 = 0 then (spec_ParcelMarks.l0 k1 l0 x4_1 (l0.length : Int) (wrap64 (x6_1 + 1))) else (if x4_1.length < 8796093022208 then (spec_ParcelMarks.l0 k1 l0 (x4_1 ++ [(⟨(rd_T33 l0 x6_1).f0, (rd_T33 l0 x6_1).f1⟩ : S33)]) (l0.length : Int) (wrap64 (x6_1 + 1))) else (none)))) else (none)) else (none)) = some (r1, r2) := by first | (rw [hji14] at H; exact H) | (simp only [hji14] at H ⊢; exact H)
          by_cases c15 : 0 ≤ (ji14)
          ·rw [if_pos c15] at H
           have c15b0 : decide (0 ≤ (ji14)) = true := decide_eq_true c15
           clear c15
           by_cases c16 : (ji14) < (l0.length : Int)
           ·rw [if_pos c16] at H
            have c16b0 : decide ((ji14) < (l0.length : Int)) = true := decide_eq_true c16
            clear c16
            replace H := Option.bind_eq_some_iff.mp H
            obtain ⟨t317, A170, H⟩ := H
            replace H : (if t317 = 0 then (spec_ParcelMarks.l0 k1 l0 x4_1 (l0.length : Int) (wrap64 (x6_1 + 1))) else (if x4_1.length < 8796093022208 then (spec_ParcelMarks.l0 k1 l0 (x4_1 ++ [(⟨(rd_T33 l0 x6_1).f0, (rd_T33 l0 x6_1).f1⟩ : S33)]) (l0.length : Int) (wrap64 (x6_1 + 1))) else (none))) = some (r1, r2) := H
            have A17 := Aside0.mk A170
            clear A170
            by_cases c18 : t317 = 0
            ·rw [if_pos c18] at H
             have c18b0 : (t317 == 0) = true := beq_iff_eq.mpr c18
             have c18b1 : (t317 != 0) = false := bne_eq_false_iff_eq.mpr c18
             clear c18
             have H' := Aside0.mk H
             clear H
             try go_wp2
             have n0_ := Aside0.mk (Kd.R_drew HO_4.out)
             have n1_ := Aside0.mk (below_drew1 HB.out)
             clear HO_4 HB
             have HO_4 := n0_
             have HB := n1_
             clear n0_ n1_
             have p314 : 0 ≤ ((ji9) : Int) := oa
             have q314 : (ji9) < (l0.length : Int) := oa
             obtain ⟨ad314, e314, hx314_0, hx314_1⟩ := at_T33 HR0.out (ji9) p314 q314
             have hw314_1 := hx314_1
             have hw314_0 := hx314_0
             cases e314
             replace hx314_0 := (HB.out.cell (World.block_lt_of_cell? w _ hx314_0)).trans hx314_0
             replace hx314_1 := (HB.out.cell (World.block_lt_of_cell? w _ hx314_1)).trans hx314_1
             replace p314 := eq_true p314
             replace q314 := eq_true q314
             have p315 : 0 ≤ (x6_1 : Int) := oa
             have q315 : x6_1 < (l0.length : Int) := oa
             obtain ⟨ad315, e315, hx315_0, hx315_1⟩ := at_T33 HR0.out x6_1 p315 q315
             have hw315_1 := hx315_1
             have hw315_0 := hx315_0
             obtain rfl : ad314 = ad315 := (by injection e315)
             replace hx315_0 := (HB.out.cell (World.block_lt_of_cell? w _ hx315_0)).trans hx315_0
             replace hx315_1 := (HB.out.cell (World.block_lt_of_cell? w _ hx315_1)).trans hx315_1
             replace p315 := eq_true p315
             replace q315 := eq_true q315
             have p316 : 0 ≤ ((ji14) : Int) := oa
             have q316 : (ji14) < (l0.length : Int) := oa
             obtain ⟨ad316, e316, hx316_0, hx316_1⟩ := at_T33 HR0.out (ji14) p316 q316
             have hw316_1 := hx316_1
             have hw316_0 := hx316_0
             obtain rfl : ad314 = ad316 := (by injection e316)
             replace hx316_0 := (HB.out.cell (World.block_lt_of_cell? w _ hx316_0)).trans hx316_0
             replace hx316_1 := (HB.out.cell (World.block_lt_of_cell? w _ hx316_1)).trans hx316_1
             replace p316 := eq_true p316
             replace q316 := eq_true q316
             refine start_ (n := 22) (S := fun w' => w'.cell? (ad314.add (((ji9)).toNat * 2)) = some (.int .i64 ((rd_T33 l0 (ji9)).f0)) ∧ w'.cell? ⟨(ad314.add (((ji9)).toNat * 2)).block, (ad314.add (((ji9)).toNat * 2)).off + 1, none⟩ = some (.int .i64 ((rd_T33 l0 (ji9)).f1)) ∧ w'.cell? (ad314.add ((x6_1).toNat * 2)) = some (.int .i64 ((rd_T33 l0 x6_1).f0)) ∧ w'.cell? ⟨(ad314.add ((x6_1).toNat * 2)).block, (ad314.add ((x6_1).toNat * 2)).off + 1, none⟩ = some (.int .i64 ((rd_T33 l0 x6_1).f1)) ∧ w'.cell? (ad314.add (((ji14)).toNat * 2)) = some (.int .i64 ((rd_T33 l0 (ji14)).f0)) ∧ w'.cell? ⟨(ad314.add (((ji14)).toNat * 2)).block, (ad314.add (((ji14)).toNat * 2)).off + 1, none⟩ = some (.int .i64 ((rd_T33 l0 (ji14)).f1))) (ds := []) #[false,false,false,false,false,false,false,false,false,false,false,false,false,false,false,false,false,false,false,false,false,false] (by kernel_rfl) rfl rfl ⟨((HB.out.cell (World.block_lt_of_cell? w _ hw314_0)).trans hw314_0), ((HB.out.cell (World.block_lt_of_cell? w _ hw314_1)).trans hw314_1), ((HB.out.cell (World.block_lt_of_cell? w _ hw315_0)).trans hw315_0), ((HB.out.cell (World.block_lt_of_cell? w _ hw315_1)).trans hw315_1), ((HB.out.cell (World.block_lt_of_cell? w _ hw316_0)).trans hw316_0), ((HB.out.cell (World.block_lt_of_cell? w _ hw316_1)).trans hw316_1)⟩ (fun hHeld => ?_); refine with_tabW spec_ParcelMarks.tab8 spec_ParcelMarks.bits8 (fun HT_ HW_ => ?_)
             generalize wr.drew = w19 at HO_4 HB hx314_0 hx314_1 hx315_0 hx315_1 hx316_0 hx316_1 hHeld ⊢
             refine pq_ 0 (some 19) ?_
             refine pq_ 1 (some 20) ?_
             refine pq_ 2 (some 21) ?_
             refine pq_ 3 (some 22) ?_
             refine pq_ 4 (some 23) ?_
             refine pq_ 5 (some 24) ?_
             refine pq_ 6 (some 25) ?_
             refine pq_ 7 (some 26) ?_
             refine pq_ 9 (some 28) ?_
             refine pq_ 10 (some 29) ?_
             refine pq_ 11 (some 30) ?_
             refine pq_ 13 (some 32) ?_
             refine pq_ 14 (some 33) ?_
             refine pq_ 15 (some 34) ?_
             refine pq_ 16 (some 35) ?_
             refine pq_ 17 (some 36) ?_
             refine pq_ 18 (some 37) ?_
             refine tq_ 8 (some 27) ?_
             refine tq_ 12 (some 31) ?_
             refine tq_ 19 (some 38) ?_
             refine one_ (i := 20) (N := some 39) #[true,true,true,true,true,true,true,true,true,true,true,true,true,true,true,true,true,true,true,true,true,false] rfl rfl (one_of HT_.out (by kernel_rfl)) (by decide) (fun K hK => ?_)
             refine goes_ Try.func55 (by kernel_rfl) rfl #[.agg #[.int .i64 ((rd_T33 l0 (ji9)).f0), .int .i64 ((rd_T33 l0 (ji9)).f1)], .agg #[.int .i64 ((rd_T33 l0 x6_1).f0), .int .i64 ((rd_T33 l0 x6_1).f1)], .agg #[.int .i64 ((rd_T33 l0 (ji14)).f0), .int .i64 ((rd_T33 l0 (ji14)).f1)]] (by rfl) rfl rfl (by (try simp only [List.map_toArray, List.map_cons, List.map_nil]); first | done | (simp only [hji14, hji9]; rfl) | rfl | (simp only [List.length_drop, List.length_take]; rfl)) ?_
             with_reducible refine (spec_l31Side.calls ((rd_T33 l0 (ji9)).f0) ((rd_T33 l0 (ji9)).f1) ((rd_T33 l0 x6_1).f0) ((rd_T33 l0 x6_1).f1) ((rd_T33 l0 (ji14)).f0) ((rd_T33 l0 (ji14)).f1) t317 _ A17.out).mono ?_
             rintro e w20 ⟨rfl, hb⟩
             refine ⟨_, rfl, ?_⟩
             have n0_ := Aside0.mk (Kd.R_below (rm HO_4.out) hb)
             have n1_ := Aside0.mk (below_step (lb HB.out) hb)
             clear HO_4 HB
             have HO_4 := n0_
             have HB := n1_
             clear n0_ n1_
             (try clear hb);(try clear hb2);(try clear hk);(try clear hi)
             refine hK.out _ _ ⟨((HB.out.cell (World.block_lt_of_cell? w _ hw314_0)).trans hw314_0), ((HB.out.cell (World.block_lt_of_cell? w _ hw314_1)).trans hw314_1), ((HB.out.cell (World.block_lt_of_cell? w _ hw315_0)).trans hw315_0), ((HB.out.cell (World.block_lt_of_cell? w _ hw315_1)).trans hw315_1), ((HB.out.cell (World.block_lt_of_cell? w _ hw316_0)).trans hw316_0), ((HB.out.cell (World.block_lt_of_cell? w _ hw316_1)).trans hw316_1)⟩ (fun hHeld => ?_)
             clear hK K
             refine norm_ (a' := ?_) ?_ ?_
             rotate_left
             ·show Act.put _ (some 39) _ = _
              simp only [Act.put, List.setIfInBounds_toArray, List.set_cons_zero, List.set_cons_succ, i64_w, i32_w]
              rfl
             refine pq_ 21 (some 40) ?_
             refine done_ (done_of HT_.out (by kernel_rfl)) ?_
             try go_wp2
             go_roundg k1
             case measure => have := HK1.out; omega
             case rel => exact ⟨(x4_1), (wrap64 (x6_1 + 1)), (by first | rfl | (simp; done) | (simp [*]; done)), H', ⟨by have := HK1.out; omega⟩, ⟨rm HO_4.out⟩, ⟨lb HB.out⟩⟩
            ·rw [if_neg c18] at H
             have c18b0 : (t317 == 0) = false := beq_eq_false_iff_ne.mpr c18
             have c18b1 : (t317 != 0) = true := bne_iff_ne.mpr c18
             by_cases c21 : x4_1.length < 8796093022208
             ·rw [if_pos c21] at H
              have LMc21 := Aside0.mk c21
              clear c21
              obtain ⟨y319, hy319⟩ : ∃ y_ : List (S33), y_ = (x4_1 ++ [(⟨(rd_T33 l0 x6_1).f0, (rd_T33 l0 x6_1).f1⟩ : S33)]) := ⟨_, rfl⟩
              replace H : (spec_ParcelMarks.l0 k1 l0 y319 (l0.length : Int) (wrap64 (x6_1 + 1))) = some (r1, r2) := by first | (rw [hy319]; with_reducible exact H) | (have H2_ := (Option.bind_some _ _).symm.trans H; rw [hy319]; with_reducible exact H2_) | (have H2_ := (Option.bind_some _ _).symm.trans H; with_reducible exact H2_) | with_reducible exact H | (rw [hy319]; exact H) | exact H
              have Ny319 := Aside0.mk hy319
              clear hy319
              have H' := Aside0.mk H
              clear H
              try go_wp2
              have n0_ := Aside0.mk (Kd.R_drew HO_4.out)
              have n1_ := Aside0.mk (below_drew1 HB.out)
              clear HO_4 HB
              have HO_4 := n0_
              have HB := n1_
              clear n0_ n1_
              have p314 : 0 ≤ ((ji9) : Int) := oa
              have q314 : (ji9) < (l0.length : Int) := oa
              obtain ⟨ad314, e314, hx314_0, hx314_1⟩ := at_T33 HR0.out (ji9) p314 q314
              have hw314_1 := hx314_1
              have hw314_0 := hx314_0
              cases e314
              replace hx314_0 := (HB.out.cell (World.block_lt_of_cell? w _ hx314_0)).trans hx314_0
              replace hx314_1 := (HB.out.cell (World.block_lt_of_cell? w _ hx314_1)).trans hx314_1
              replace p314 := eq_true p314
              replace q314 := eq_true q314
              have p315 : 0 ≤ (x6_1 : Int) := oa
              have q315 : x6_1 < (l0.length : Int) := oa
              obtain ⟨ad315, e315, hx315_0, hx315_1⟩ := at_T33 HR0.out x6_1 p315 q315
              have hw315_1 := hx315_1
              have hw315_0 := hx315_0
              obtain rfl : ad314 = ad315 := (by injection e315)
              replace hx315_0 := (HB.out.cell (World.block_lt_of_cell? w _ hx315_0)).trans hx315_0
              replace hx315_1 := (HB.out.cell (World.block_lt_of_cell? w _ hx315_1)).trans hx315_1
              replace p315 := eq_true p315
              replace q315 := eq_true q315
              have p316 : 0 ≤ ((ji14) : Int) := oa
              have q316 : (ji14) < (l0.length : Int) := oa
              obtain ⟨ad316, e316, hx316_0, hx316_1⟩ := at_T33 HR0.out (ji14) p316 q316
              have hw316_1 := hx316_1
              have hw316_0 := hx316_0
              obtain rfl : ad314 = ad316 := (by injection e316)
              replace hx316_0 := (HB.out.cell (World.block_lt_of_cell? w _ hx316_0)).trans hx316_0
              replace hx316_1 := (HB.out.cell (World.block_lt_of_cell? w _ hx316_1)).trans hx316_1
              replace p316 := eq_true p316
              replace q316 := eq_true q316
              refine start_ (n := 22) (S := fun w' => w'.cell? (ad314.add (((ji9)).toNat * 2)) = some (.int .i64 ((rd_T33 l0 (ji9)).f0)) ∧ w'.cell? ⟨(ad314.add (((ji9)).toNat * 2)).block, (ad314.add (((ji9)).toNat * 2)).off + 1, none⟩ = some (.int .i64 ((rd_T33 l0 (ji9)).f1)) ∧ w'.cell? (ad314.add ((x6_1).toNat * 2)) = some (.int .i64 ((rd_T33 l0 x6_1).f0)) ∧ w'.cell? ⟨(ad314.add ((x6_1).toNat * 2)).block, (ad314.add ((x6_1).toNat * 2)).off + 1, none⟩ = some (.int .i64 ((rd_T33 l0 x6_1).f1)) ∧ w'.cell? (ad314.add (((ji14)).toNat * 2)) = some (.int .i64 ((rd_T33 l0 (ji14)).f0)) ∧ w'.cell? ⟨(ad314.add (((ji14)).toNat * 2)).block, (ad314.add (((ji14)).toNat * 2)).off + 1, none⟩ = some (.int .i64 ((rd_T33 l0 (ji14)).f1))) (ds := []) #[false,false,false,false,false,false,false,false,false,false,false,false,false,false,false,false,false,false,false,false,false,false] (by kernel_rfl) rfl rfl ⟨((HB.out.cell (World.block_lt_of_cell? w _ hw314_0)).trans hw314_0), ((HB.out.cell (World.block_lt_of_cell? w _ hw314_1)).trans hw314_1), ((HB.out.cell (World.block_lt_of_cell? w _ hw315_0)).trans hw315_0), ((HB.out.cell (World.block_lt_of_cell? w _ hw315_1)).trans hw315_1), ((HB.out.cell (World.block_lt_of_cell? w _ hw316_0)).trans hw316_0), ((HB.out.cell (World.block_lt_of_cell? w _ hw316_1)).trans hw316_1)⟩ (fun hHeld => ?_); refine with_tabW spec_ParcelMarks.tab8 spec_ParcelMarks.bits8 (fun HT_ HW_ => ?_)
              generalize wr.drew = w22 at HO_4 HB hx314_0 hx314_1 hx315_0 hx315_1 hx316_0 hx316_1 hHeld ⊢
              refine pq_ 0 (some 19) ?_
              refine pq_ 1 (some 20) ?_
              refine pq_ 2 (some 21) ?_
              refine pq_ 3 (some 22) ?_
              refine pq_ 4 (some 23) ?_
              refine pq_ 5 (some 24) ?_
              refine pq_ 6 (some 25) ?_
              refine pq_ 7 (some 26) ?_
              refine pq_ 9 (some 28) ?_
              refine pq_ 10 (some 29) ?_
              refine pq_ 11 (some 30) ?_
              refine pq_ 13 (some 32) ?_
              refine pq_ 14 (some 33) ?_
              refine pq_ 15 (some 34) ?_
              refine pq_ 16 (some 35) ?_
              refine pq_ 17 (some 36) ?_
              refine pq_ 18 (some 37) ?_
              refine tq_ 8 (some 27) ?_
              refine tq_ 12 (some 31) ?_
              refine tq_ 19 (some 38) ?_
              refine one_ (i := 20) (N := some 39) #[true,true,true,true,true,true,true,true,true,true,true,true,true,true,true,true,true,true,true,true,true,false] rfl rfl (one_of HT_.out (by kernel_rfl)) (by decide) (fun K hK => ?_)
              refine goes_ Try.func55 (by kernel_rfl) rfl #[.agg #[.int .i64 ((rd_T33 l0 (ji9)).f0), .int .i64 ((rd_T33 l0 (ji9)).f1)], .agg #[.int .i64 ((rd_T33 l0 x6_1).f0), .int .i64 ((rd_T33 l0 x6_1).f1)], .agg #[.int .i64 ((rd_T33 l0 (ji14)).f0), .int .i64 ((rd_T33 l0 (ji14)).f1)]] (by rfl) rfl rfl (by (try simp only [List.map_toArray, List.map_cons, List.map_nil]); first | done | (simp only [hji14, hji9]; rfl) | rfl | (simp only [List.length_drop, List.length_take]; rfl)) ?_
              with_reducible refine (spec_l31Side.calls ((rd_T33 l0 (ji9)).f0) ((rd_T33 l0 (ji9)).f1) ((rd_T33 l0 x6_1).f0) ((rd_T33 l0 x6_1).f1) ((rd_T33 l0 (ji14)).f0) ((rd_T33 l0 (ji14)).f1) t317 _ A17.out).mono ?_
              rintro e w23 ⟨rfl, hb⟩
              refine ⟨_, rfl, ?_⟩
              have n0_ := Aside0.mk (Kd.R_below (rm HO_4.out) hb)
              have n1_ := Aside0.mk (below_step (lb HB.out) hb)
              clear HO_4 HB
              have HO_4 := n0_
              have HB := n1_
              clear n0_ n1_
              (try clear hb);(try clear hb2);(try clear hk);(try clear hi)
              refine hK.out _ _ ⟨((HB.out.cell (World.block_lt_of_cell? w _ hw314_0)).trans hw314_0), ((HB.out.cell (World.block_lt_of_cell? w _ hw314_1)).trans hw314_1), ((HB.out.cell (World.block_lt_of_cell? w _ hw315_0)).trans hw315_0), ((HB.out.cell (World.block_lt_of_cell? w _ hw315_1)).trans hw315_1), ((HB.out.cell (World.block_lt_of_cell? w _ hw316_0)).trans hw316_0), ((HB.out.cell (World.block_lt_of_cell? w _ hw316_1)).trans hw316_1)⟩ (fun hHeld => ?_)
              clear hK K
              refine norm_ (a' := ?_) ?_ ?_
              rotate_left
              ·show Act.put _ (some 39) _ = _
               simp only [Act.put, List.setIfInBounds_toArray, List.set_cons_zero, List.set_cons_succ, i64_w, i32_w]
               rfl
              refine pq_ 21 (some 40) ?_
              refine done_ (done_of HT_.out (by kernel_rfl)) ?_
              have p318 : 0 ≤ (x6_1 : Int) := oa
              have q318 : x6_1 < (l0.length : Int) := oa
              obtain ⟨ad318, e318, hx318_0, hx318_1⟩ := at_T33 HR0.out x6_1 p318 q318
              obtain rfl : ad314 = ad318 := (by injection e318)
              replace hx318_0 := (HB.out.cell (World.block_lt_of_cell? w _ hx318_0)).trans hx318_0
              replace hx318_1 := (HB.out.cell (World.block_lt_of_cell? w _ hx318_1)).trans hx318_1
              replace p318 := eq_true p318
              replace q318 := eq_true q318
              try go_wp2_with (first | ((with_reducible refine gate_builtin (b := .append) (xs := #[.tmp 41, .tmp 46]) rfl ?_); at_builtin; refine Kd.R_append k33 (w0 := w) w.heap.size rfl (.tmp 41) (.tmp 46) 23 33 (.agg #[(.int .i64 0), (.int .i64 0)]) 16 rfl Try.underlying23 info33 rfl (by decide) (by omega) u4 x4_1 (⟨(rd_T33 l0 x6_1).f0, (rd_T33 l0 x6_1).f1⟩ : S33) [.int .i64 ((rd_T33 l0 x6_1).f0), .int .i64 ((rd_T33 l0 x6_1).f1)] (fun _ => True) (fun _ => False) rfl rfl ?aP (fun _ hk => hk.elim) ?aF ?aO ?aB ?aS ?aL ?_; (case aP => exact k33_mkM _ _ _ (⟨(rd_T33 l0 x6_1).f0, (rd_T33 l0 x6_1).f1⟩ : S33)); (case aB => exact (lb HB.out)); (case aF => exact (fun _ _ => trivial)); (case aO => exact (rm HO_4.out)); (case aS => exact (below_size (lb HB.out))); (case aL => have := LMc21.out; omega); intro v320 w24 ho hb hg hat; rw [← Ny319.out] at ho; have n0_ := Aside0.mk (hb); have n1_ := Aside0.mk (ho); clear HB; clear HO_4; have HB := n0_; have HO321 := n1_; clear n0_ n1_; clear ho hb hg hat))
              go_roundg k1
              case measure => have := HK1.out; omega
              case rel => exact ⟨(y319), (wrap64 (x6_1 + 1)), (by first | rfl | (simp; done) | (simp [*]; done)), H', ⟨by have := HK1.out; omega⟩, ⟨rm HO321.out⟩, ⟨lb HB.out⟩⟩
             ·rw [if_neg c21] at H
              exact absurd H (by simp)
           ·rw [if_neg c16] at H
            exact absurd H (by simp)
          ·rw [if_neg c15] at H
           exact absurd H (by simp)
         ·rw [if_neg c13] at H
          exact absurd H (by simp)
        ·rw [if_neg c12] at H
         exact absurd H (by simp)
       ·rw [if_neg c11] at H
        exact absurd H (by simp)
      ·rw [if_neg c10] at H
       exact absurd H (by simp)
    ·rw [if_neg c7] at H
     have c7b0 : decide (x6_1 < (l0.length : Int)) = false := decide_eq_false c7
     clear c7
     simp only [Option.some.injEq, Prod.mk.injEq] at H
     obtain ⟨rfl, rfl⟩ := H
     go_wp2
     go_ret2
     exact ⟨_, er, rm HO_4.out, lb HB.out⟩
 ·replace c3 := Bool.eq_false_iff.mpr c3
  subst c3
  have H1 : (some (y310, false)) = some (r1, r2) := by rw [if_neg (show ¬ (false = true) by decide)] at H; exact H
  clear H
  have H := H1
  clear H1
  simp only [Option.some.injEq, Prod.mk.injEq] at H
  obtain ⟨rfl, rfl⟩ := H
  go_enter Try.func24, Try.ntmps24
  go_wp2_with (first | ((with_reducible refine gate_dst (N := 7) rfl ?_); refine Kd.R_lit k33 _ 33 ?hg (N := 7) ?hd (xs := ([] : List (S33))) (inner := []) (ok := fun _ => True) (okp := fun _ => True) ?hr ?hp (fun _ hk => hk) trivial (Below.refl _ _) (Nat.le_refl _) (by simp) ?_; (case hd => rfl); (case hg => rfl); (case hr => first | (go_simp; done) | (go_simp; rfl)); (case hp => exact (Reps.none _ _)); intro v311 w25 ho26 hb hg_ hnew_; clear hg_ hnew_; (first | rw [← Ny310.out] at ho26 | (simp only [Int.reduceToNat] at ho26; rw [← Ny310.out] at ho26)); have n0_ := Aside0.mk (Kd.R_lower ho26 (below_size (lb HB.out))); have n1_ := Aside0.mk (below_step (lb HB.out) hb); clear HB; have HO312 := n0_; have HB := n1_; clear n0_ n1_; clear hb ho26) | ((with_reducible refine gate_callee (f := 35) rfl ?_); refine goesL_ (some 9) rfl rfl Try.func35 (by kernel_rfl) rfl #[.slice A0 l0.length c0] rfl al ?_; (with_reducible refine (spec_ParcelValid.calls k _ _ l0 false _ ?side1 ?side2 A2.out).mono ?_); (case side1 => exact cm (Kd.C_below HR0.out HB.out)); (case side2 => exact HC0.out); rintro e w27 ⟨rfl, hb⟩; refine ⟨_, rfl, ?_⟩; have n0_ := Aside0.mk (Kd.R_below (rm HO312.out) hb); have n1_ := Aside0.mk (below_step (lb HB.out) hb); clear HO312; clear HB; have HO312 := n0_; have HB := n1_; clear n0_ n1_; (try clear hb); (try clear hb2); (try clear hk); (try clear hi)))
  go_ret2
  exact ⟨_, er, rm HO312.out, lb HB.out⟩
def impl_PolyEdge.v (l0 : List (S33)) : Int := if okB l0 = true then sgN (gN (plX l0) (plY l0) l0.length) l0.length else -1
def impl_PolyEdge.f (l0 : List (S33)) : Option Int := some (impl_PolyEdge.v l0)
set_option maxHeartbeats 4000000 in
theorem impl_PolyEdge.calls (A0 : Option Addr) (c0 : Nat) (l0 : List (S33)) (r : Int) (w : World) (hr0 : Kd.C k33 w A0 l0.length l0) (hc0 : l0.length ≤ c0) (h : impl_PolyEdge.f l0 = some r) :
  Calls Try.prog 26 #[.slice A0 l0.length c0] w fun e w' => e = .returned (.int .i64 r) ∧ Below w.heap.size w w' := by
 have HR := Aside0.mk hr0
 have HC := Aside0.mk hc0
 have HM := Aside0.mk (Hd.nil w)
 have h := Option.some.inj h
 clear hr0
 cases hv : okB l0 with
 | false =>
  have HV := Aside0.mk hv
  unfold impl_PolyEdge.v at h
  rw [hv] at h
  obtain rfl := h
  clear hv
  go_enter Try.func26, Try.ntmps26
  go_upto_region 2 with (go_at_call 43; have hbel := HM.out.1; (with_reducible refine (simpleOf_no A0 c0 l0 _ (Kd.C_below HR.out hbel) HC.out HV.out).mono ?_); rintro e w3 ⟨rfl, hb⟩; clear hbel; replace HM := Aside0.mk (HM.out.keep hb); clear hb)
  replace HM := Aside0.mk (HM.out.alloc #[.pointer none, .int .i64 0] 58)
  generalize w3.alloc (.cells #[.pointer none, .int .i64 0] 58) = w5 at *
  generalize w3.heap.size = g4 at *
  have c0 : w5.cell? ⟨g4, 0, none⟩ = some (.pointer none) := blk_cell HM.out.a0 0
  have c1 : w5.cell? ⟨g4, 1, none⟩ = some (.int .i64 0) := blk_cell HM.out.a0 1
  go_wp2_with fail
  go_ret
  exact ⟨rfl, HM.out.1⟩
 | true =>
  have HV := Aside0.mk hv
  unfold impl_PolyEdge.v at h
  rw [hv] at h
  obtain rfl := h
  have hvi := vdB_iff.1 (okB_vd hv)
  clear hv
  go_enter Try.func26, Try.ntmps26
  go_upto_region 2 with (go_at_call 43; have hbel := HM.out.1; (with_reducible refine (simpleOf_yes A0 c0 l0 _ (Kd.C_below HR.out hbel) HC.out HV.out).mono ?_); rintro e w3 ⟨bs, rfl, hrg, hb⟩; clear hbel; replace HM := Aside0.mk (HM.out.keep hb); have HRG := Aside0.mk hrg; clear hb hrg)
  replace HM := Aside0.mk (HM.out.alloc #[.pointer (some ⟨bs 0, 0, none⟩), .int .i64 (l0.length : Int)] 58)
  replace HRG := Aside0.mk (HRG.out.nextAlloc (.cells #[.pointer (some ⟨bs 0, 0, none⟩), .int .i64 (l0.length : Int)] 58))
  generalize w3.alloc (.cells #[.pointer (some ⟨bs 0, 0, none⟩), .int .i64 (l0.length : Int)] 58) = w5 at *
  generalize w3.heap.size = g4 at *
  have c0 : w5.cell? ⟨g4, 0, none⟩ = some (.pointer (some ⟨bs 0, 0, none⟩)) := blk_cell HM.out.a0 0
  have c1 : w5.cell? ⟨g4, 1, none⟩ = some (.int .i64 (l0.length : Int)) := blk_cell HM.out.a0 1
  go_wp2_with (go_at_call 45; (with_reducible refine (edge_calls l0.length bs (plX l0) (plY l0) _ (by omega) HRG.out).mono ?_); rintro e w6 ⟨rfl, hb⟩; replace HRG := Aside0.mk (HRG.out.next hb); replace HM := Aside0.mk (HM.out.keep hb); clear hb c0 c1; have c0 : w6.cell? ⟨g4, 0, none⟩ = some (.pointer (some ⟨bs 0, 0, none⟩)) := blk_cell HM.out.a0 0; have c1 : w6.cell? ⟨g4, 1, none⟩ = some (.int .i64 (l0.length : Int)) := blk_cell HM.out.a0 1)
  go_ret
  exact ⟨rfl, HM.out.1⟩
end Go.Proofs.Ytfonigbkoligmaa.P
-- squeezed

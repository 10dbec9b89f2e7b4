import Derived.Test.YtfonigbkoligmaaPx0
import Derived.Test.YtfonigbkoligmaaPx3
import Derived.Test.YtfonigbkoligmaaPx8
namespace Go.Proofs.Ytfonigbkoligmaa.P
open Go.RowKit Go.Proofs.YtfonigbkoligmaaW.PrintWords Go.Proofs.YtfonigbkoligmaaW.PrintLast Go.Proofs.YtfonigbkoligmaaW.PrintMore
attribute [local go_sem] max2_int min2_int max_two min_two max_three min_three max_four min_four
set_option linter.unusedVariables false
set_option linter.unusedSimpArgs false
def spec_ParcelSplit.j0 : Nat → List (S33) → Int → Int → Bool → Option ((List (S33)) × (List (S33)) × Bool)
 | 0, _, _, _, _ => none
 | k + 1, x0, x1, x2, x28 => if x28 = true then (some ((([] : List (S33))), (([] : List (S33))), false)) else ((some (([] : List (S33)) : List (S33))).bind fun y387 => (if 0 ≤ x1 then (if x1 ≤ (wrap64 (x2 + 1)) then (if (wrap64 (x2 + 1)) ≤ (x0.length : Int) then ((some ((x0.take ((wrap64 (x2 + 1)) : Int).toNat).drop (x1 : Int).toNat : List (S33))).bind fun y390 => (if y387.length + y390.length < 8796093022208 then ((some (y387 ++ y390 : List (S33))).bind fun y394 => ((some (([] : List (S33)) : List (S33))).bind fun y397 => (if 0 ≤ x2 then (if x2 ≤ (x0.length : Int) then ((some (x0.drop (x2 : Int).toNat : List (S33))).bind fun y400 => (if y397.length + y400.length < 8796093022208 then ((some (y397 ++ y400 : List (S33))).bind fun y404 => (if 0 ≤ (wrap64 (x1 + 1)) then (if (wrap64 (x1 + 1)) ≤ (x0.length : Int) then ((some (x0.take ((wrap64 (x1 + 1)) : Int).toNat : List (S33))).bind fun y407 => (if y404.length + y407.length < 8796093022208 then ((some (y404 ++ y407 : List (S33))).bind fun y411 => ((spec_ParcelValid.f k y394).bind fun t414 => (if t414 = true then ((spec_ParcelValid.f k y411).bind fun t415 => (if t415 = true then (some (y394, y411, true)) else (some ((([] : List (S33))), (([] : List (S33))), false)))) else (some ((([] : List (S33))), (([] : List (S33))), false))))) else (none))) else (none)) else (none))) else (none))) else (none)) else (none)))) else (none))) else (none)) else (none)) else (none)))
def spec_ParcelSplit.f (k : Nat) (l0 : List (S33)) (a1 : Int) (a2 : Int) : Option ((List (S33)) × (List (S33)) × Bool) := (spec_ParcelValid.f k l0).bind fun t378 => (if t378 = true then ((spec_l6In.f a2 0 (wrap64 ((l0.length : Int) - 1))).bind fun t379 => (if t379 = true then ((spec_l6In.f a1 0 (wrap64 (a2 - 1))).bind fun t380 => (spec_ParcelSplit.j0 k l0 a1 a2 (!t380))) else (spec_ParcelSplit.j0 k l0 a1 a2 true))) else (spec_ParcelSplit.j0 k l0 a1 a2 true))
theorem spec_ParcelSplit.mono_l : ∀ k, (∀ y0 y1 y2 y3, LeO (spec_ParcelSplit.j0 k y0 y1 y2 y3) (spec_ParcelSplit.j0 (k + 1) y0 y1 y2 y3))
 | 0 => fun _ _ _ _ r h => by simp [spec_ParcelSplit.j0] at h
 | k + 1 => by
  have ih0 := spec_ParcelSplit.mono_l k
  ·intro y0 y1 y2 y3
   unfold spec_ParcelSplit.j0
   repeat' first
   | (with_reducible exact ih0 _ _ _ _)
   | (with_reducible exact spec_ParcelValid.mono _ _)
   | (with_reducible exact LeO.refl _)
   | (with_reducible exact LeO.none _)
   | (with_reducible refine LeO.ite ?_ ?_)
   | (with_reducible refine LeO.bind ?_ (fun _ => ?_))
   | exact ih0 _ _ _ _
   | exact spec_ParcelValid.mono _ _
   | exact LeO.none _
   | refine LeO.ite ?_ ?_
   | refine LeO.bind ?_ (fun _ => ?_)
theorem spec_ParcelSplit.mono : ∀ a0 a1 a2 k, LeO (spec_ParcelSplit.f k a0 a1 a2) (spec_ParcelSplit.f (k + 1) a0 a1 a2) := by
 intro a0 a1 a2 k
 have ih0 := spec_ParcelSplit.mono_l k
 unfold spec_ParcelSplit.f
 repeat' first
   | (with_reducible exact ih0 _ _ _ _)
   | (with_reducible exact spec_ParcelValid.mono _ _)
   | (with_reducible exact LeO.refl _)
   | (with_reducible exact LeO.none _)
   | (with_reducible refine LeO.ite ?_ ?_)
   | (with_reducible refine LeO.bind ?_ (fun _ => ?_))
   | exact ih0 _ _ _ _
   | exact spec_ParcelValid.mono _ _
   | exact LeO.none _
   | refine LeO.ite ?_ ?_
   | refine LeO.bind ?_ (fun _ => ?_)
def spec_ParcelSplit.T4 : Bool × List (List Nat × List Nat) := (true,[([],[]),([],[]),([],[]),([1,2],[1,2]),([0,3],[0,3]),([],[]),([],[]),([6],[6]),([5,7],[5,7]),([4,8,4],[4,8]),([9,9,0,1,2,3,4,5,6,7,8,9],[9])])
def spec_ParcelSplit.B4 : List Nat := [0,0,0,6,15,0,0,64,224,511,1023]
theorem spec_ParcelSplit.tab4 : rtab .any (opsOf Try.f9 4) = spec_ParcelSplit.T4 := by kernel_rfl
theorem spec_ParcelSplit.bits4 : waitsOk spec_ParcelSplit.T4.2 spec_ParcelSplit.B4 = true := by kernel_rfl
set_option maxHeartbeats 8000000 in
set_option maxRecDepth 100000 in
theorem spec_ParcelSplit.calls (k : Nat) (A0 : Option Addr) (c0 : Nat) (l0 : List (S33)) (a1 : Int) (a2 : Int) (r1 : List (S33)) (r2 : List (S33)) (r3 : Bool) (w : World) (hr0 : Kd.C k33 w A0 l0.length l0) (hc0 : l0.length ≤ c0) (h : spec_ParcelSplit.f k l0 a1 a2 = some (r1, r2, r3)) :
  Calls Try.prog 9 #[.slice A0 l0.length c0, .int .i64 a1, .int .i64 a2] w fun e w' => ∃ v0_ v1_ : Value, e = .returned (.tuple #[v0_, v1_, .bool r3]) ∧ Kd.R k33 33 w' w.heap.size (fun k_ => some k_ ≠ (v1_ : Value).ownBlock) v0_ r1 ∧ Kd.R k33 33 w' w.heap.size (fun k_ => some k_ ≠ (v0_ : Value).ownBlock) v1_ r2 ∧ Below w.heap.size w w' := by
 have HR0 := Aside0.mk hr0
 have HC0 := Aside0.mk hc0
 clear hr0 hc0
 have HB := Aside0.mk (Below.refl w.heap.size w)
 have H : ((spec_ParcelValid.f k l0).bind fun t378 => (if t378 = true then ((spec_l6In.f a2 0 (wrap64 ((l0.length : Int) - 1))).bind fun t379 => (if t379 = true then ((spec_l6In.f a1 0 (wrap64 (a2 - 1))).bind fun t380 => (spec_ParcelSplit.j0 k l0 a1 a2 (!t380))) else (spec_ParcelSplit.j0 k l0 a1 a2 true))) else (spec_ParcelSplit.j0 k l0 a1 a2 true))) = some (r1, r2, r3) := h
 clear h
 have HC4 := Aside0.mk H
 clear H
 go_enter Try.func9, Try.ntmps9
 go_upto_region 1 with (fail)
 go_cut [28] (fun v28 wc => ∃ (kq : Nat) (x28_3 : Bool), v28 = .bool x28_3 ∧ Aside0 (spec_ParcelSplit.j0 kq l0 a1 a2 x28_3 = some (r1, r2, r3)) ∧ Aside0 (kq ≤ k) ∧ Aside0 (Below w.heap.size w wc))
 case first =>
  have H := HC4.out
  clear HC4
  replace H := Option.bind_eq_some_iff.mp H
  obtain ⟨t378, A50, H⟩ := H
  replace H : (if t378 = true then ((spec_l6In.f a2 0 (wrap64 ((l0.length : Int) - 1))).bind fun t379 => (if t379 = true then ((spec_l6In.f a1 0 (wrap64 (a2 - 1))).bind fun t380 => (spec_ParcelSplit.j0 k l0 a1 a2 (!t380))) else (spec_ParcelSplit.j0 k l0 a1 a2 true))) else (spec_ParcelSplit.j0 k l0 a1 a2 true)) = some (r1, r2, r3) := H
  have A5 := Aside0.mk A50
  clear A50
  by_cases c6 : t378 = true
  ·subst c6
   have H1 : ((spec_l6In.f a2 0 (wrap64 ((l0.length : Int) - 1))).bind fun t379 => (if t379 = true then ((spec_l6In.f a1 0 (wrap64 (a2 - 1))).bind fun t380 => (spec_ParcelSplit.j0 k l0 a1 a2 (!t380))) else (spec_ParcelSplit.j0 k l0 a1 a2 true))) = some (r1, r2, r3) := by rw [if_pos rfl] at H; exact H
   clear H
   have H := H1
   clear H1
   replace H := Option.bind_eq_some_iff.mp H
   obtain ⟨t379, A70, H⟩ := H
   replace H : (if t379 = true then ((spec_l6In.f a1 0 (wrap64 (a2 - 1))).bind fun t380 => (spec_ParcelSplit.j0 k l0 a1 a2 (!t380))) else (spec_ParcelSplit.j0 k l0 a1 a2 true)) = some (r1, r2, r3) := H
   have A7 := Aside0.mk A70
   clear A70
   by_cases c8 : t379 = true
   ·subst c8
    have H1 : ((spec_l6In.f a1 0 (wrap64 (a2 - 1))).bind fun t380 => (spec_ParcelSplit.j0 k l0 a1 a2 (!t380))) = some (r1, r2, r3) := by rw [if_pos rfl] at H; exact H
    clear H
    have H := H1
    clear H1
    replace H := Option.bind_eq_some_iff.mp H
    obtain ⟨t380, A90, H⟩ := H
    replace H : (spec_ParcelSplit.j0 k l0 a1 a2 (!t380)) = some (r1, r2, r3) := H
    have A9 := Aside0.mk A90
    clear A90
    have H' := Aside0.mk H
    clear H
    go_wp2_with (first | ((with_reducible refine gate_callee (f := 35) rfl ?_); refine goesL_ (some 12) rfl rfl Try.func35 (by kernel_rfl) rfl #[.slice A0 l0.length c0] rfl al ?_; (with_reducible refine (spec_ParcelValid.calls k _ _ l0 true _ ?side1 ?side2 A5.out).mono ?_); (case side1 => exact cm (Kd.C_below HR0.out HB.out)); (case side2 => exact HC0.out); rintro e w10 ⟨rfl, hb⟩; refine ⟨_, rfl, ?_⟩; have n0_ := Aside0.mk (below_step (lb HB.out) hb); clear HB; have HB := n0_; clear n0_; (try clear hb); (try clear hb2); (try clear hk); (try clear hi)) | (go_at_call 36; (with_reducible refine (spec_l6In.calls a2 0 (wrap64 ((l0.length : Int) - 1)) true _ A7.out).mono ?_); rintro e w' ⟨rfl, ⟨nd, rfl⟩⟩) | (go_at_call 36; (with_reducible refine (spec_l6In.calls a1 0 (wrap64 (a2 - 1)) t380 _ A9.out).mono ?_); rintro e w' ⟨rfl, ⟨nd, rfl⟩⟩))
    go_meet
    case rel => exact ⟨_, (!t380), (by first | rfl | (simp; done) | (simp [*]; done)), H', ⟨by first | omega | exact Nat.le_refl _⟩, ⟨lb HB.out⟩⟩
   ·replace c8 := Bool.eq_false_iff.mpr c8
    subst c8
    have H1 : (spec_ParcelSplit.j0 k l0 a1 a2 true) = some (r1, r2, r3) := by rw [if_neg (show ¬ (false = true) by decide)] at H; exact H
    clear H
    have H := H1
    clear H1
    have H' := Aside0.mk H
    clear H
    go_wp2_with (first | ((with_reducible refine gate_callee (f := 35) rfl ?_); refine goesL_ (some 12) rfl rfl Try.func35 (by kernel_rfl) rfl #[.slice A0 l0.length c0] rfl al ?_; (with_reducible refine (spec_ParcelValid.calls k _ _ l0 true _ ?side1 ?side2 A5.out).mono ?_); (case side1 => exact cm (Kd.C_below HR0.out HB.out)); (case side2 => exact HC0.out); rintro e w11 ⟨rfl, hb⟩; refine ⟨_, rfl, ?_⟩; have n0_ := Aside0.mk (below_step (lb HB.out) hb); clear HB; have HB := n0_; clear n0_; (try clear hb); (try clear hb2); (try clear hk); (try clear hi)) | (go_at_call 36; (with_reducible refine (spec_l6In.calls a2 0 (wrap64 ((l0.length : Int) - 1)) false _ A7.out).mono ?_); rintro e w' ⟨rfl, ⟨nd, rfl⟩⟩))
    go_meet
    case rel => exact ⟨_, (true), (by first | rfl | (simp; done) | (simp [*]; done)), H', ⟨by first | omega | exact Nat.le_refl _⟩, ⟨lb HB.out⟩⟩
  ·replace c6 := Bool.eq_false_iff.mpr c6
   subst c6
   have H1 : (spec_ParcelSplit.j0 k l0 a1 a2 true) = some (r1, r2, r3) := by rw [if_neg (show ¬ (false = true) by decide)] at H; exact H
   clear H
   have H := H1
   clear H1
   have H' := Aside0.mk H
   clear H
   go_wp2_with (first | ((with_reducible refine gate_callee (f := 35) rfl ?_); refine goesL_ (some 12) rfl rfl Try.func35 (by kernel_rfl) rfl #[.slice A0 l0.length c0] rfl al ?_; (with_reducible refine (spec_ParcelValid.calls k _ _ l0 false _ ?side1 ?side2 A5.out).mono ?_); (case side1 => exact cm (Kd.C_below HR0.out HB.out)); (case side2 => exact HC0.out); rintro e w12 ⟨rfl, hb⟩; refine ⟨_, rfl, ?_⟩; have n0_ := Aside0.mk (below_step (lb HB.out) hb); clear HB; have HB := n0_; clear n0_; (try clear hb); (try clear hb2); (try clear hk); (try clear hi)))
   go_meet
   case rel => exact ⟨_, (true), (by first | rfl | (simp; done) | (simp [*]; done)), H', ⟨by first | omega | exact Nat.le_refl _⟩, ⟨lb HB.out⟩⟩
 case rest =>
  clear HC4
  try clear p2
  try clear c3
  try clear c6
  try clear p6
  try clear c8
  try clear c9
  obtain ⟨kq, x28_3, rfl, HA, HJ3, HB⟩ := hcut
  cases kq with
  | zero => exact absurd HA.out (by simp [spec_ParcelSplit.j0])
  | succ kj3 =>
   have H := HA.out
   clear HA
   simp only [spec_ParcelSplit.j0] at H
   by_cases c13 : x28_3 = true
   ·subst c13
    have H1 : (some ((([] : List (S33))), (([] : List (S33))), false)) = some (r1, r2, r3) := by rw [if_pos rfl] at H; exact H
    clear H
    have H := H1
    clear H1
    obtain ⟨y381, hy381⟩ : ∃ y_ : List (S33), y_ = (([] : List (S33))) := ⟨_, rfl⟩
    replace H : (some (y381, (([] : List (S33))), false)) = some (r1, r2, r3) := by first | (rw [hy381]; with_reducible exact H) | (have H2_ := (Option.bind_some _ _).symm.trans H; rw [hy381]; with_reducible exact H2_) | (have H2_ := (Option.bind_some _ _).symm.trans H; with_reducible exact H2_) | with_reducible exact H | (rw [hy381]; exact H) | exact H
    have Ny381 := Aside0.mk hy381
    clear hy381
    obtain ⟨y384, hy384⟩ : ∃ y_ : List (S33), y_ = (([] : List (S33))) := ⟨_, rfl⟩
    replace H : (some (y381, y384, false)) = some (r1, r2, r3) := by first | (rw [hy384]; with_reducible exact H) | (have H2_ := (Option.bind_some _ _).symm.trans H; rw [hy384]; with_reducible exact H2_) | (have H2_ := (Option.bind_some _ _).symm.trans H; with_reducible exact H2_) | with_reducible exact H | (rw [hy384]; exact H) | exact H
    have Ny384 := Aside0.mk hy384
    clear hy384
    simp only [Option.some.injEq, Prod.mk.injEq] at H
    obtain ⟨rfl, rfl, rfl⟩ := H
    go_wp2_with (first | ((with_reducible refine gate_dst (N := 29) rfl ?_); (try (refine gate_guard (by rfl) ?_; dsimp only)); refine Kd.R_lit k33 _ 33 ?hg (N := 29) ?hd (xs := ([] : List (S33))) (inner := []) (ok := fun _ => True) (okp := fun _ => True) ?hr ?hp (fun _ hk => hk) trivial (Below.refl _ _) (Nat.le_refl _) (by simp) ?_; (case hd => rfl); (case hg => rfl); (case hr => first | (go_simp; done) | (go_simp; rfl)); (case hp => exact (Reps.none _ _)); intro v382 w14 ho15 hb hg_ hnew_; clear hg_ hnew_; (first | rw [← Ny381.out] at ho15 | (simp only [Int.reduceToNat] at ho15; rw [← Ny381.out] at ho15)); have n0_ := Aside0.mk (Kd.R_lower ho15 (below_size (lb HB.out))); have n1_ := Aside0.mk (below_step (lb HB.out) hb); clear HB; have HO383 := n0_; have HB := n1_; clear n0_ n1_; clear hb ho15) | ((with_reducible refine gate_dst (N := 30) rfl ?_); (try (refine gate_guard (by rfl) ?_; dsimp only)); refine Kd.R_lit k33 _ 33 ?hg (N := 30) ?hd (xs := ([] : List (S33))) (inner := []) (ok := fun _ => True) (okp := fun _ => True) ?hr ?hp (fun _ hk => hk) trivial (Below.refl _ _) (Nat.le_refl _) (by simp) ?_; (case hd => rfl); (case hg => rfl); (case hr => first | (go_simp; done) | (go_simp; rfl)); (case hp => exact (Reps.none _ _)); intro v385 w16 ho17 hb hg_ hnew_; clear hg_ hnew_; (first | rw [← Ny384.out] at ho17 | (simp only [Int.reduceToNat] at ho17; rw [← Ny384.out] at ho17)); have n0_ := Aside0.mk (Kd.R_elder' (rm HO383.out) (Kd.R_base ho17) hb); have n1_ := Aside0.mk (Kd.R_lower (Kd.R_new' ho17 (Kd.R_lt (rm HO383.out))) (below_size (lb HB.out))); have n2_ := Aside0.mk (below_step (lb HB.out) hb); clear HO383; clear HB; have HO383 := n0_; have HO386 := n1_; have HB := n2_; clear n0_ n1_ n2_; clear hb ho17))
    go_ret3
    exact ⟨_, _, er, rm (Kd.R_mono HO383.out (fun _ hk => by first | exact hk.2 | exact trivial)), rm (Kd.R_mono HO386.out (fun _ hk => by first | exact hk.2 | exact trivial)), lb HB.out⟩
   ·replace c13 := Bool.eq_false_iff.mpr c13
    subst c13
    have H1 : ((some (([] : List (S33)) : List (S33))).bind fun y387 => (if 0 ≤ a1 then (if a1 ≤ (wrap64 (a2 + 1)) then (if (wrap64 (a2 + 1)) ≤ (l0.length : Int) then ((some ((l0.take ((wrap64 (a2 + 1)) : Int).toNat).drop (a1 : Int).toNat : List (S33))).bind fun y390 => (if y387.length + y390.length < 8796093022208 then ((some (y387 ++ y390 : List (S33))).bind fun y394 => ((some (([] : List (S33)) : List (S33))).bind fun y397 => (if 0 ≤ a2 then (if a2 ≤ (l0.length : Int) then ((some (l0.drop (a2 : Int).toNat : List (S33))).bind fun y400 => (if y397.length + y400.length < 8796093022208 then ((some (y397 ++ y400 : List (S33))).bind fun y404 => (if 0 ≤ (wrap64 (a1 + 1)) then (if (wrap64 (a1 + 1)) ≤ (l0.length : Int) then ((some (l0.take ((wrap64 (a1 + 1)) : Int).toNat : List (S33))).bind fun y407 => (if y404.length + y407.length < 8796093022208 then ((some (y404 ++ y407 : List (S33))).bind fun y411 => ((spec_ParcelValid.f kj3 y394).bind fun t414 => (if t414 = true then ((spec_ParcelValid.f kj3 y411).bind fun t415 => (if t415 = true then (some (y394, y411, true)) else (some ((([] : List (S33))), (([] : List (S33))), false)))) else (some ((([] : List (S33))), (([] : List (S33))), false))))) else (none))) else (none)) else (none))) else (none))) else (none)) else (none)))) else (none))) else (none)) else (none)) else (none))) = some (r1, r2, r3) := by rw [if_neg (show ¬ (false = true) by decide)] at H; exact H
    clear H
    have H := H1
    clear H1
    obtain ⟨y387, hy387⟩ : ∃ y_ : List (S33), y_ = (([] : List (S33))) := ⟨_, rfl⟩
    replace H : (if 0 ≤ a1 then (if a1 ≤ (wrap64 (a2 + 1)) then (if (wrap64 (a2 + 1)) ≤ (l0.length : Int) then ((some ((l0.take ((wrap64 (a2 + 1)) : Int).toNat).drop (a1 : Int).toNat : List (S33))).bind fun y390 => (if y387.length + y390.length < 8796093022208 then ((some (y387 ++ y390 : List (S33))).bind fun y394 => ((some (([] : List (S33)) : List (S33))).bind fun y397 => (if 0 ≤ a2 then (if a2 ≤ (l0.length : Int) then ((some (l0.drop (a2 : Int).toNat : List (S33))).bind fun y400 => (if y397.length + y400.length < 8796093022208 then ((some (y397 ++ y400 : List (S33))).bind fun y404 => (if 0 ≤ (wrap64 (a1 + 1)) then (if (wrap64 (a1 + 1)) ≤ (l0.length : Int) then ((some (l0.take ((wrap64 (a1 + 1)) : Int).toNat : List (S33))).bind fun y407 => (if y404.length + y407.length < 8796093022208 then ((some (y404 ++ y407 : List (S33))).bind fun y411 => ((spec_ParcelValid.f kj3 y394).bind fun t414 => (if t414 = true then ((spec_ParcelValid.f kj3 y411).bind fun t415 => (if t415 = true then (some (y394, y411, true)) else (some ((([] : List (S33))), (([] : List (S33))), false)))) else (some ((([] : List (S33))), (([] : List (S33))), false))))) else (none))) else (none)) else (none))) else (none))) else (none)) else (none)))) else (none))) else (none)) else (none)) else (none)) = some (r1, r2, r3) := by first | (rw [hy387]; with_reducible exact H) | (have H2_ := (Option.bind_some _ _).symm.trans H; rw [hy387]; with_reducible exact H2_) | (have H2_ := (Option.bind_some _ _).symm.trans H; with_reducible exact H2_) | with_reducible exact H | (rw [hy387]; exact H) | exact H
    have Ny387 := Aside0.mk hy387
    clear hy387
    by_cases c18 : 0 ≤ a1
    ·rw [if_pos c18] at H
     have c18b0 := eq_true c18
     have c18b1 : decide (0 ≤ a1) = true := decide_eq_true c18
     clear c18
     by_cases c19 : a1 ≤ (wrap64 (a2 + 1))
     ·rw [if_pos c19] at H
      have c19b0 := eq_true c19
      have c19b1 : decide (a1 ≤ (wrap64 (a2 + 1))) = true := decide_eq_true c19
      by_cases c20 : (wrap64 (a2 + 1)) ≤ (l0.length : Int)
      ·rw [if_pos c20] at H
       have c20b0 := eq_true c20
       have c20b1 : decide ((wrap64 (a2 + 1)) ≤ (l0.length : Int)) = true := decide_eq_true c20
       obtain ⟨y390, hy390⟩ : ∃ y_ : List (S33), y_ = ((l0.take ((wrap64 (a2 + 1)) : Int).toNat).drop (a1 : Int).toNat) := ⟨_, rfl⟩
       replace H : (if y387.length + y390.length < 8796093022208 then ((some (y387 ++ y390 : List (S33))).bind fun y394 => ((some (([] : List (S33)) : List (S33))).bind fun y397 => (if 0 ≤ a2 then (if a2 ≤ (l0.length : Int) then ((some (l0.drop (a2 : Int).toNat : List (S33))).bind fun y400 => (if y397.length + y400.length < 8796093022208 then ((some (y397 ++ y400 : List (S33))).bind fun y404 => (if 0 ≤ (wrap64 (a1 + 1)) then (if (wrap64 (a1 + 1)) ≤ (l0.length : Int) then ((some (l0.take ((wrap64 (a1 + 1)) : Int).toNat : List (S33))).bind fun y407 => (if y404.length + y407.length < 8796093022208 then ((some (y404 ++ y407 : List (S33))).bind fun y411 => ((spec_ParcelValid.f kj3 y394).bind fun t414 => (if t414 = true then ((spec_ParcelValid.f kj3 y411).bind fun t415 => (if t415 = true then (some (y394, y411, true)) else (some ((([] : List (S33))), (([] : List (S33))), false)))) else (some ((([] : List (S33))), (([] : List (S33))), false))))) else (none))) else (none)) else (none))) else (none))) else (none)) else (none)))) else (none)) = some (r1, r2, r3) := by first | (rw [hy390]; with_reducible exact H) | (have H2_ := (Option.bind_some _ _).symm.trans H; rw [hy390]; with_reducible exact H2_) | (have H2_ := (Option.bind_some _ _).symm.trans H; with_reducible exact H2_) | with_reducible exact H | (rw [hy390]; exact H) | exact H
       have Ny390 := Aside0.mk hy390
       clear hy390
       by_cases c21 : y387.length + y390.length < 8796093022208
       ·rw [if_pos c21] at H
        have LMc21 := Aside0.mk c21
        clear c21
        obtain ⟨y394, hy394⟩ : ∃ y_ : List (S33), y_ = (y387 ++ y390) := ⟨_, rfl⟩
        replace H : ((some (([] : List (S33)) : List (S33))).bind fun y397 => (if 0 ≤ a2 then (if a2 ≤ (l0.length : Int) then ((some (l0.drop (a2 : Int).toNat : List (S33))).bind fun y400 => (if y397.length + y400.length < 8796093022208 then ((some (y397 ++ y400 : List (S33))).bind fun y404 => (if 0 ≤ (wrap64 (a1 + 1)) then (if (wrap64 (a1 + 1)) ≤ (l0.length : Int) then ((some (l0.take ((wrap64 (a1 + 1)) : Int).toNat : List (S33))).bind fun y407 => (if y404.length + y407.length < 8796093022208 then ((some (y404 ++ y407 : List (S33))).bind fun y411 => ((spec_ParcelValid.f kj3 y394).bind fun t414 => (if t414 = true then ((spec_ParcelValid.f kj3 y411).bind fun t415 => (if t415 = true then (some (y394, y411, true)) else (some ((([] : List (S33))), (([] : List (S33))), false)))) else (some ((([] : List (S33))), (([] : List (S33))), false))))) else (none))) else (none)) else (none))) else (none))) else (none)) else (none))) = some (r1, r2, r3) := by first | (rw [hy394]; with_reducible exact H) | (have H2_ := (Option.bind_some _ _).symm.trans H; rw [hy394]; with_reducible exact H2_) | (have H2_ := (Option.bind_some _ _).symm.trans H; with_reducible exact H2_) | with_reducible exact H | (rw [hy394]; exact H) | exact H
        have Ny394 := Aside0.mk hy394
        clear hy394
        obtain ⟨y397, hy397⟩ : ∃ y_ : List (S33), y_ = (([] : List (S33))) := ⟨_, rfl⟩
        replace H : (if 0 ≤ a2 then (if a2 ≤ (l0.length : Int) then ((some (l0.drop (a2 : Int).toNat : List (S33))).bind fun y400 => (if y397.length + y400.length < 8796093022208 then ((some (y397 ++ y400 : List (S33))).bind fun y404 => (if 0 ≤ (wrap64 (a1 + 1)) then (if (wrap64 (a1 + 1)) ≤ (l0.length : Int) then ((some (l0.take ((wrap64 (a1 + 1)) : Int).toNat : List (S33))).bind fun y407 => (if y404.length + y407.length < 8796093022208 then ((some (y404 ++ y407 : List (S33))).bind fun y411 => ((spec_ParcelValid.f kj3 y394).bind fun t414 => (if t414 = true then ((spec_ParcelValid.f kj3 y411).bind fun t415 => (if t415 = true then (some (y394, y411, true)) else (some ((([] : List (S33))), (([] : List (S33))), false)))) else (some ((([] : List (S33))), (([] : List (S33))), false))))) else (none))) else (none)) else (none))) else (none))) else (none)) else (none)) = some (r1, r2, r3) := by first | (rw [hy397]; with_reducible exact H) | (have H2_ := (Option.bind_some _ _).symm.trans H; rw [hy397]; with_reducible exact H2_) | (have H2_ := (Option.bind_some _ _).symm.trans H; with_reducible exact H2_) | with_reducible exact H | (rw [hy397]; exact H) | exact H
        have Ny397 := Aside0.mk hy397
        clear hy397
        by_cases c22 : 0 ≤ a2
        ·rw [if_pos c22] at H
         have c22b0 := eq_true c22
         have c22b1 : decide (0 ≤ a2) = true := decide_eq_true c22
         clear c22
         by_cases c23 : a2 ≤ (l0.length : Int)
         ·rw [if_pos c23] at H
          have c23b0 := eq_true c23
          have c23b1 : decide (a2 ≤ (l0.length : Int)) = true := decide_eq_true c23
          clear c23
          obtain ⟨y400, hy400⟩ : ∃ y_ : List (S33), y_ = (l0.drop (a2 : Int).toNat) := ⟨_, rfl⟩
          replace H : (if y397.length + y400.length < 8796093022208 then ((some (y397 ++ y400 : List (S33))).bind fun y404 => (if 0 ≤ (wrap64 (a1 + 1)) then (if (wrap64 (a1 + 1)) ≤ (l0.length : Int) then ((some (l0.take ((wrap64 (a1 + 1)) : Int).toNat : List (S33))).bind fun y407 => (if y404.length + y407.length < 8796093022208 then ((some (y404 ++ y407 : List (S33))).bind fun y411 => ((spec_ParcelValid.f kj3 y394).bind fun t414 => (if t414 = true then ((spec_ParcelValid.f kj3 y411).bind fun t415 => (if t415 = true then (some (y394, y411, true)) else (some ((([] : List (S33))), (([] : List (S33))), false)))) else (some ((([] : List (S33))), (([] : List (S33))), false))))) else (none))) else (none)) else (none))) else (none)) = some (r1, r2, r3) := by first | (rw [hy400]; with_reducible exact H) | (have H2_ := (Option.bind_some _ _).symm.trans H; rw [hy400]; with_reducible exact H2_) | (have H2_ := (Option.bind_some _ _).symm.trans H; with_reducible exact H2_) | with_reducible exact H | (rw [hy400]; exact H) | exact H
          have Ny400 := Aside0.mk hy400
          clear hy400
          by_cases c24 : y397.length + y400.length < 8796093022208
          ·rw [if_pos c24] at H
           have LMc24 := Aside0.mk c24
           clear c24
           obtain ⟨y404, hy404⟩ : ∃ y_ : List (S33), y_ = (y397 ++ y400) := ⟨_, rfl⟩
           replace H : (if 0 ≤ (wrap64 (a1 + 1)) then (if (wrap64 (a1 + 1)) ≤ (l0.length : Int) then ((some (l0.take ((wrap64 (a1 + 1)) : Int).toNat : List (S33))).bind fun y407 => (if y404.length + y407.length < 8796093022208 then ((some (y404 ++ y407 : List (S33))).bind fun y411 => ((spec_ParcelValid.f kj3 y394).bind fun t414 => (if t414 = true then ((spec_ParcelValid.f kj3 y411).bind fun t415 => (if t415 = true then (some (y394, y411, true)) else (some ((([] : List (S33))), (([] : List (S33))), false)))) else (some ((([] : List (S33))), (([] : List (S33))), false))))) else (none))) else (none)) else (none)) = some (r1, r2, r3) := by first | (rw [hy404]; with_reducible exact H) | (have H2_ := (Option.bind_some _ _).symm.trans H; rw [hy404]; with_reducible exact H2_) | (have H2_ := (Option.bind_some _ _).symm.trans H; with_reducible exact H2_) | with_reducible exact H | (rw [hy404]; exact H) | exact H
           have Ny404 := Aside0.mk hy404
           clear hy404
           obtain ⟨ji25, hji25⟩ : ∃ j_ : Int, (wrap64 (a1 + 1)) = j_ := ⟨_, rfl⟩
           replace H : (if 0 ≤ (ji25) then (if (ji25) ≤ (l0.length : Int) then ((some (l0.take ((ji25) : Int).toNat : List (S33))).bind fun y407 => (if y404.length + y407.length < 8796093022208 then ((some (y404 ++ y407 : List (S33))).bind fun y411 => ((spec_ParcelValid.f kj3 y394).bind fun t414 => (if t414 = true then ((spec_ParcelValid.f kj3 y411).bind fun t415 => (if t415 = true then (some (y394, y411, true)) else (some ((([] : List (S33))), (([] : List (S33))), false)))) else (some ((([] : List (S33))), (([] : List (S33))), false))))) else (none))) else (none)) else (none)) = some (r1, r2, r3) := by first | (rw [hji25] at H; exact H) | (simp only [hji25] at H ⊢; exact H)
           have hji25w : (IntKind.i64.wrap (a1 + 1)) = ji25 := (i64_w _).trans hji25
           by_cases c26 : 0 ≤ (ji25)
           ·rw [if_pos c26] at H
            have c26b0 := eq_true c26
            have c26b1 : decide (0 ≤ (ji25)) = true := decide_eq_true c26
            clear c26
            by_cases c27 : (ji25) ≤ (l0.length : Int)
            ·rw [if_pos c27] at H
             have c27b0 := eq_true c27
             have c27b1 : decide ((ji25) ≤ (l0.length : Int)) = true := decide_eq_true c27
             clear c27
             obtain ⟨y407, hy407⟩ : ∃ y_ : List (S33), y_ = (l0.take ((ji25) : Int).toNat) := ⟨_, rfl⟩
             replace H : (if y404.length + y407.length < 8796093022208 then ((some (y404 ++ y407 : List (S33))).bind fun y411 => ((spec_ParcelValid.f kj3 y394).bind fun t414 => (if t414 = true then ((spec_ParcelValid.f kj3 y411).bind fun t415 => (if t415 = true then (some (y394, y411, true)) else (some ((([] : List (S33))), (([] : List (S33))), false)))) else (some ((([] : List (S33))), (([] : List (S33))), false))))) else (none)) = some (r1, r2, r3) := by first | (rw [hy407]; with_reducible exact H) | (have H2_ := (Option.bind_some _ _).symm.trans H; rw [hy407]; with_reducible exact H2_) | (have H2_ := (Option.bind_some _ _).symm.trans H; with_reducible exact H2_) | with_reducible exact H | (rw [hy407]; exact H) | exact H
             have Ny407 := Aside0.mk hy407
             clear hy407
             by_cases c28 : y404.length + y407.length < 8796093022208
             ·rw [if_pos c28] at H
              have LMc28 := Aside0.mk c28
              clear c28
              obtain ⟨y411, hy411⟩ : ∃ y_ : List (S33), y_ = (y404 ++ y407) := ⟨_, rfl⟩
              replace H : ((spec_ParcelValid.f kj3 y394).bind fun t414 => (if t414 = true then ((spec_ParcelValid.f kj3 y411).bind fun t415 => (if t415 = true then (some (y394, y411, true)) else (some ((([] : List (S33))), (([] : List (S33))), false)))) else (some ((([] : List (S33))), (([] : List (S33))), false)))) = some (r1, r2, r3) := by first | (rw [hy411]; with_reducible exact H) | (have H2_ := (Option.bind_some _ _).symm.trans H; rw [hy411]; with_reducible exact H2_) | (have H2_ := (Option.bind_some _ _).symm.trans H; with_reducible exact H2_) | with_reducible exact H | (rw [hy411]; exact H) | exact H
              have Ny411 := Aside0.mk hy411
              clear hy411
              replace H := Option.bind_eq_some_iff.mp H
              obtain ⟨t414, A290, H⟩ := H
              replace H : (if t414 = true then ((spec_ParcelValid.f kj3 y411).bind fun t415 => (if t415 = true then (some (y394, y411, true)) else (some ((([] : List (S33))), (([] : List (S33))), false)))) else (some ((([] : List (S33))), (([] : List (S33))), false))) = some (r1, r2, r3) := H
              have A29 := Aside0.mk A290
              clear A290
              by_cases c30 : t414 = true
              ·subst c30
               have H1 : ((spec_ParcelValid.f kj3 y411).bind fun t415 => (if t415 = true then (some (y394, y411, true)) else (some ((([] : List (S33))), (([] : List (S33))), false)))) = some (r1, r2, r3) := by rw [if_pos rfl] at H; exact H
               clear H
               have H := H1
               clear H1
               replace H := Option.bind_eq_some_iff.mp H
               obtain ⟨t415, A310, H⟩ := H
               replace H : (if t415 = true then (some (y394, y411, true)) else (some ((([] : List (S33))), (([] : List (S33))), false))) = some (r1, r2, r3) := H
               have A31 := Aside0.mk A310
               clear A310
               by_cases c32 : t415 = true
               ·subst c32
                have H1 : (some (y394, y411, true)) = some (r1, r2, r3) := by rw [if_pos rfl] at H; exact H
                clear H
                have H := H1
                clear H1
                simp only [Option.some.injEq, Prod.mk.injEq] at H
                obtain ⟨rfl, rfl, rfl⟩ := H
                try go_wp2_with (first | ((with_reducible refine gate_dst (N := 31) rfl ?_); (try (refine gate_guard (by rfl) ?_; dsimp only)); refine Kd.R_lit k33 _ 33 ?hg (N := 31) ?hd (xs := ([] : List (S33))) (inner := []) (ok := fun _ => True) (okp := fun _ => True) ?hr ?hp (fun _ hk => hk) trivial (Below.refl _ _) (Nat.le_refl _) (by simp) ?_; (case hd => rfl); (case hg => rfl); (case hr => first | (go_simp; done) | (go_simp; rfl)); (case hp => exact (Reps.none _ _)); intro v388 w33 ho34 hb hg_ hnew_; clear hg_ hnew_; (first | rw [← Ny387.out] at ho34 | (simp only [Int.reduceToNat] at ho34; rw [← Ny387.out] at ho34)); have n0_ := Aside0.mk (Kd.R_lower ho34 (below_size (lb HB.out))); have n1_ := Aside0.mk (below_step (lb HB.out) hb); clear HB; have HO389 := n0_; have HB := n1_; clear n0_ n1_; clear hb ho34; have q35 : ((wrap64 (a2 + 1)) : Int) ≤ ((l0.length : Int) : Int) := oa; obtain ⟨i035, hi035, _, hsz35, _⟩ := info_parts info33; have hroom35 : l0.length ≤ c0 := HC0.out; have hC35 : Kd.C k33 _ A0 l0.length l0 := HR0.out; have ql35 : (a1 : Int) ≤ ((wrap64 (a2 + 1)) : Int) := oa; have q035 : (0 : Int) ≤ (a1 : Int) := oa; have hcut35 := cut_mid (P := Try.prog) 23 33 .i64 .i64 Try.underlying23 hi035 2 hsz35 A0 l0.length c0 a1 (wrap64 (a2 + 1)) q035 ql35 q35 hroom35; have hr35 := Kd.C_mid (lo := (a1 : Int).toNat) (hi := ((wrap64 (a2 + 1)) : Int).toNat) (c := c0) hC35 (by omega) (by omega) hroom35; obtain ⟨A35, hA35⟩ : ∃ A1, A1 = (if c0 = (a1 : Int).toNat then A0 else (A0 : Option Addr).map (·.add ((a1 : Int).toNat * 2))) := ⟨_, rfl⟩; obtain ⟨c35, hc35⟩ : ∃ c1, c1 = c0 - (a1 : Int).toNat := ⟨_, rfl⟩; have hy35 : y390.length = ((wrap64 (a2 + 1)) : Int).toNat - (a1 : Int).toNat := (by rw [Ny390.out, List.length_drop, List.length_take] <;> omega); rw [show ((l0).take ((wrap64 (a2 + 1)) : Int).toNat).drop (a1 : Int).toNat = y390 from Ny390.out.symm] at hr35; replace hr35 : Kd.C k33 _ A35 y390.length y390 := (by rw [hA35]; exact hr35); rw [← hy35, ← hA35, ← hc35] at hcut35; have HR393 := Aside0.mk hr35; have HC393 := Aside0.mk (show y390.length ≤ c35 from by rw [hy35, hc35]; exact Nat.sub_le_sub_right (Nat.le_trans (by omega) hroom35) _); clear hr35 hC35 hroom35 hi035 hsz35 hc35; have KY35 := Aside0.mk hy35; have KA35 := Aside0.mk hA35; clear hy35 hA35; replace q35 := eq_true q35) | ((with_reducible refine gate_builtin (b := .append) (xs := #[.tmp 31, .tmp 36]) rfl ?_); (try (refine gate_guard (by rfl) ?_; dsimp only)); at_builtin; refine Kd.R_append_rows k33 (w0 := w) w.heap.size rfl (.tmp 31) (.tmp 36) 23 33 (.agg #[(.int .i64 0), (.int .i64 0)]) 16 rfl Try.underlying23 info33 rfl (by decide) (by omega) v388 y387 y390 _ _ _ (fun _ => True) (fun _ => False) rfl rfl ?aO ?aR (fun _ _ h => h) (fun _ h => h.elim) ?aF ?aB ?aS ?aL ?_; (case aR => exact cm (Kd.C_below HR393.out HB.out)); (case aB => exact (lb HB.out)); (case aF => exact (fun _ _ => trivial)); (case aO => exact (rm HO389.out)); (case aS => exact (below_size (lb HB.out))); (case aL => have := LMc21.out; omega); intro v395 w36 ho hb hg hat; rw [← Ny394.out] at ho; have n0_ := Aside0.mk (hb); have n1_ := Aside0.mk (ho); clear HB; clear HO389; have HB := n0_; have HO396 := n1_; clear n0_ n1_; clear ho hb hg hat))
                have n0_ := Aside0.mk (Kd.R_drew HO396.out)
                have n1_ := Aside0.mk (below_drew1 HB.out)
                clear HO396 HB
                have HO396 := n0_
                have HB := n1_
                clear n0_ n1_
                have q38 : (a2 : Int) ≤ ((l0.length : Int) : Int) := oa
                obtain ⟨i038, hi038, _, hsz38, _⟩ := info_parts info33
                have hroom38 : l0.length ≤ c0 := HC0.out
                have hC38 : Kd.C k33 _ A0 l0.length l0 := HR0.out
                have q038 : (0 : Int) ≤ (a2 : Int) := oa
                have hcut38 := cut_from (P := Try.prog) 23 33 .i64 Try.underlying23 hi038 2 hsz38 A0 l0.length c0 a2 q038 q38
                have hr38 := Kd.C_drop (m := (a2 : Int).toNat) (c := c0) hC38 (by omega) hroom38
                obtain ⟨A38, hA38⟩ : ∃ A1, A1 = (if c0 = (a2 : Int).toNat then A0 else (A0 : Option Addr).map (·.add ((a2 : Int).toNat * 2))) := ⟨_, rfl⟩
                obtain ⟨c38, hc38⟩ : ∃ c1, c1 = c0 - (a2 : Int).toNat := ⟨_, rfl⟩
                have hy38 : y400.length = l0.length - (a2 : Int).toNat := (by rw [Ny400.out, List.length_drop] <;> omega)
                rw [show (l0).drop (a2 : Int).toNat = y400 from Ny400.out.symm] at hr38
                replace hr38 : Kd.C k33 _ A38 y400.length y400 := (by rw [hA38]; exact hr38)
                rw [← hy38, ← hA38, ← hc38] at hcut38
                have HR403 := Aside0.mk hr38
                have HC403 := Aside0.mk (show y400.length ≤ c38 from by rw [hy38, hc38]; exact Nat.sub_le_sub_right hroom38 _)
                clear hr38 hC38 hroom38 hi038 hsz38 hc38
                have KY38 := Aside0.mk hy38
                have KA38 := Aside0.mk hA38
                clear hy38 hA38
                replace q38 := eq_true q38
                have q39 : ((ji25) : Int) ≤ ((l0.length : Int) : Int) := oa
                obtain ⟨i039, hi039, _, hsz39, _⟩ := info_parts info33
                have hroom39 : l0.length ≤ c0 := HC0.out
                have hC39 : Kd.C k33 _ A0 l0.length l0 := HR0.out
                have hcut39 := cut_to (P := Try.prog) 23 33 .i64 Try.underlying23 hi039 A0 l0.length c0 (ji25) oa q39 hroom39
                have hr39 := Kd.C_take (m := ((ji25) : Int).toNat) hC39 (by omega)
                have hy39 : y407.length = ((ji25) : Int).toNat := (by rw [Ny407.out, List.length_take]; omega)
                rw [← Ny407.out] at hr39
                rw [← hy39] at hcut39
                have HR410 := Aside0.mk hr39
                have HC410 := Aside0.mk (show y407.length ≤ c0 from by omega)
                clear hr39 hC39 hroom39 hi039 hsz39
                have KY39 := Aside0.mk hy39
                clear hy39
                replace q39 := eq_true q39
                refine start_ (n := 11) (S := fun w' => True) (ds := []) #[false,false,false,false,false,false,false,false,false,false,false] (by kernel_rfl) rfl rfl trivial (fun hHeld => ?_); refine with_tabW spec_ParcelSplit.tab4 spec_ParcelSplit.bits4 (fun HT_ HW_ => ?_)
                generalize w36.drew = w37 at HO396 HB HR403 HR410 hHeld ⊢
                refine pq_ 1 (some 39) ?_
                refine pq_ 2 (some 40) ?_
                refine pq_ 3 (some 41) ?_
                refine pq_ 5 (some 43) ?_
                refine pq_ 6 (some 44) ?_
                refine pq_ 7 (some 45) ?_
                refine pq_ 8 (some 46) ?_
                refine one_ (i := 0) (N := some 38) #[true,true,true,true,false,true,true,true,true,false,false] rfl rfl (one_of HT_.out (by kernel_rfl)) (by decide) (fun K hK => ?_)
                refine Kd.R_lit_step k33 _ 33 ?hg (N := 38) ?hd (xs := ([] : List (S33))) (inner := []) (ok := fun _ => True) (okp := fun _ => True) ?hr ?hp (fun _ hk => hk) trivial (Below.refl _ _) (Nat.le_refl _) (by simp) ?_; (case hd => rfl); (case hg => rfl); (case hr => first | (go_simp; done) | (go_simp; rfl)); (case hp => exact (Reps.none _ _))
                intro v398 w40 ho41 hb hg_ hnew_
                clear hg_ hnew_
                (first | rw [← Ny397.out] at ho41 | (simp only [Int.reduceToNat] at ho41; rw [← Ny397.out] at ho41))
                have n0_ := Aside0.mk (Kd.R_elder' (rm HO396.out) (Kd.R_base ho41) hb)
                have n1_ := Aside0.mk (Kd.R_lower (Kd.R_new' ho41 (Kd.R_lt (rm HO396.out))) (below_size (lb HB.out)))
                have n2_ := Aside0.mk (below_step (lb HB.out) hb)
                clear HO396 HB
                have HO396 := n0_
                have HO399 := n1_
                have HB := n2_
                clear n0_ n1_ n2_ hb ho41
                refine hK.out _ _ trivial (fun hHeld => ?_)
                clear hK K
                refine norm_ (a' := ?_) ?_ ?_
                rotate_left
                ·show Act.put _ (some 38) _ = _
                 simp only [Act.put, List.setIfInBounds_toArray, List.set_cons_zero, List.set_cons_succ, i64_w, i32_w]
                 rfl
                refine one_ (i := 4) (N := some 42) #[true,true,true,true,true,true,true,true,true,false,false] rfl rfl (one_of HT_.out (by kernel_rfl)) (by decide) (fun K hK => ?_)
                refine Kd.R_append_rows_step k33 (w0 := w) w.heap.size (by rfl) (.tmp 38) (.tmp 41) 23 33 (.agg #[(.int .i64 0), (.int .i64 0)]) 16 rfl Try.underlying23 info33 rfl (by decide) (by omega) v398 y397 y400 _ _ _ (fun k_ => some k_ ≠ (v395 : Value).ownBlock) (fun _ => False) rfl rfl ?aO ?aR (fun _ _ h => h) (fun _ h => h.elim) ?aF ?aB ?aS ?aL ?_
                (case aR => exact cm (Kd.C_below HR403.out HB.out))
                (case aB => exact (lb HB.out))
                (case aF => exact (fun k_ hk => Kd.fresh' (Kd.R_lt (rm HO396.out)) k_ hk))
                (case aO => exact (by (with_reducible repeat (first | apply Kd.R_alloc | apply Kd.R_drewN | apply Kd.R_drew)); exact Kd.R_mono HO399.out (fun _ hk => by first | exact hk.2 | exact trivial)))
                (case aS => exact (below_size (lb HB.out)))
                (case aL => have := LMc24.out; omega)
                intro v405 w42 ho hb hg hat
                rw [← Ny404.out] at ho
                have n0_ := Aside0.mk (Kd.R_after (ok := (fun _ => True)) (rm HO396.out) hg hat)
                have n1_ := Aside0.mk (hb)
                have n2_ := Aside0.mk (ho)
                clear HO396 HB HO399
                have HO396 := n0_
                have HB := n1_
                have HO406 := n2_
                clear n0_ n1_ n2_ ho hb hg hat
                refine hK.out _ _ trivial (fun hHeld => ?_)
                clear hK K
                refine norm_ (a' := ?_) ?_ ?_
                rotate_left
                ·show Act.put _ (some 42) _ = _
                 simp only [Act.put, List.setIfInBounds_toArray, List.set_cons_zero, List.set_cons_succ, i64_w, i32_w]
                 rfl
                refine one_ (i := 9) (N := some 47) #[true,true,true,true,true,true,true,true,true,true,false] rfl rfl (one_of HT_.out (by kernel_rfl)) (by decide) (fun K hK => ?_)
                refine Kd.R_append_rows_step k33 (w0 := w) w.heap.size (by rfl) (.tmp 42) (.tmp 46) 23 33 (.agg #[(.int .i64 0), (.int .i64 0)]) 16 rfl Try.underlying23 info33 rfl (by decide) (by omega) v405 y404 y407 _ _ _ (fun k_ => some k_ ≠ (v395 : Value).ownBlock) (fun _ => False) rfl rfl ?aO ?aR (fun _ _ h => h) (fun _ h => h.elim) ?aF ?aB ?aS ?aL ?_
                (case aR => exact cm (Kd.C_below HR410.out HB.out))
                (case aB => exact (lb HB.out))
                (case aF => exact (fun k_ hk => Kd.fresh' (Kd.R_lt (rm HO396.out)) k_ hk))
                (case aO => exact (rm HO406.out))
                (case aS => exact (below_size (lb HB.out)))
                (case aL => have := LMc28.out; omega)
                intro v412 w43 ho hb hg hat
                rw [← Ny411.out] at ho
                have n0_ := Aside0.mk (Kd.R_after (ok := (fun _ => True)) (rm HO396.out) hg hat)
                have n1_ := Aside0.mk (hb)
                have n2_ := Aside0.mk (ho)
                clear HO396 HB HO406
                have HO396 := n0_
                have HB := n1_
                have HO413 := n2_
                clear n0_ n1_ n2_ ho hb hg hat
                refine hK.out _ _ trivial (fun hHeld => ?_)
                clear hK K
                refine norm_ (a' := ?_) ?_ ?_
                rotate_left
                ·show Act.put _ (some 47) _ = _
                 simp only [Act.put, List.setIfInBounds_toArray, List.set_cons_zero, List.set_cons_succ, i64_w, i32_w]
                 rfl
                refine pq_ 10 (some 10) ?_
                refine done_ (done_of HT_.out (by kernel_rfl)) ?_
                obtain ⟨Ao44, co44, eo44⟩ := Kd.R_slice HO396.out
                subst eo44
                try go_wp2_with (first | ((with_reducible refine gate_callee (f := 35) rfl ?_); refine goesL_ (some 49) rfl rfl Try.func35 (by kernel_rfl) rfl #[.slice Ao44 y394.length co44] rfl al ?_; (with_reducible refine (spec_ParcelValid.calls kj3 _ _ y394 true _ ?side1 ?side2 A29.out).mono ?_); (case side1 => exact cm (Kd.R_reads' HO396.out).2.2); (case side2 => exact (Kd.R_reads' HO396.out).2.1); rintro e w45 ⟨rfl, hb⟩; refine ⟨_, rfl, ?_⟩; have n0_ := Aside0.mk (Kd.R_below (rm HO396.out) hb); have n1_ := Aside0.mk (Kd.R_below (rm HO413.out) hb); have n2_ := Aside0.mk (below_step (lb HB.out) hb); clear HO396; clear HO413; clear HB; have HO396 := n0_; have HO413 := n1_; have HB := n2_; clear n0_ n1_ n2_; (try clear hb); (try clear hb2); (try clear hk); (try clear hi); obtain ⟨Ao46, co46, eo46⟩ := Kd.R_slice HO413.out; subst eo46) | (go_at_call 35; (with_reducible refine (spec_ParcelValid.calls kj3 _ _ y411 true _ ?side1 ?side2 A31.out).mono ?_); (case side1 => exact cm (Kd.R_reads' HO413.out).2.2); (case side2 => exact (Kd.R_reads' HO413.out).2.1); rintro e w47 ⟨rfl, hb⟩; have n0_ := Aside0.mk (Kd.R_below (rm HO396.out) hb); have n1_ := Aside0.mk (Kd.R_below (rm HO413.out) hb); have n2_ := Aside0.mk (below_step (lb HB.out) hb); clear HO396; clear HO413; clear HB; have HO396 := n0_; have HO413 := n1_; have HB := n2_; clear n0_ n1_ n2_; (try clear hb); (try clear hb2); (try clear hk); (try clear hi)))
                go_ret3
                exact ⟨_, _, by first | rfl | (simp [errW_none, errW_some] <;> rfl) | (simp only [← hji25]; first | rfl | (simp [errW_none, errW_some] <;> rfl)) | (simp [*, errW_none, errW_some] <;> rfl), rm (Kd.R_mono HO396.out (fun _ hk => by first | exact hk.2 | exact trivial)), rm HO413.out, lb HB.out⟩
               ·replace c32 := Bool.eq_false_iff.mpr c32
                subst c32
                have H1 : (some ((([] : List (S33))), (([] : List (S33))), false)) = some (r1, r2, r3) := by rw [if_neg (show ¬ (false = true) by decide)] at H; exact H
                clear H
                have H := H1
                clear H1
                obtain ⟨y416, hy416⟩ : ∃ y_ : List (S33), y_ = (([] : List (S33))) := ⟨_, rfl⟩
                replace H : (some (y416, (([] : List (S33))), false)) = some (r1, r2, r3) := by first | (rw [hy416]; with_reducible exact H) | (have H2_ := (Option.bind_some _ _).symm.trans H; rw [hy416]; with_reducible exact H2_) | (have H2_ := (Option.bind_some _ _).symm.trans H; with_reducible exact H2_) | with_reducible exact H | (rw [hy416]; exact H) | exact H
                have Ny416 := Aside0.mk hy416
                clear hy416
                obtain ⟨y419, hy419⟩ : ∃ y_ : List (S33), y_ = (([] : List (S33))) := ⟨_, rfl⟩
                replace H : (some (y416, y419, false)) = some (r1, r2, r3) := by first | (rw [hy419]; with_reducible exact H) | (have H2_ := (Option.bind_some _ _).symm.trans H; rw [hy419]; with_reducible exact H2_) | (have H2_ := (Option.bind_some _ _).symm.trans H; with_reducible exact H2_) | with_reducible exact H | (rw [hy419]; exact H) | exact H
                have Ny419 := Aside0.mk hy419
                clear hy419
                simp only [Option.some.injEq, Prod.mk.injEq] at H
                obtain ⟨rfl, rfl, rfl⟩ := H
                try go_wp2_with (first | ((with_reducible refine gate_dst (N := 31) rfl ?_); (try (refine gate_guard (by rfl) ?_; dsimp only)); refine Kd.R_lit k33 _ 33 ?hg (N := 31) ?hd (xs := ([] : List (S33))) (inner := []) (ok := fun _ => True) (okp := fun _ => True) ?hr ?hp (fun _ hk => hk) trivial (Below.refl _ _) (Nat.le_refl _) (by simp) ?_; (case hd => rfl); (case hg => rfl); (case hr => first | (go_simp; done) | (go_simp; rfl)); (case hp => exact (Reps.none _ _)); intro v388 w48 ho49 hb hg_ hnew_; clear hg_ hnew_; (first | rw [← Ny387.out] at ho49 | (simp only [Int.reduceToNat] at ho49; rw [← Ny387.out] at ho49)); have n0_ := Aside0.mk (Kd.R_lower ho49 (below_size (lb HB.out))); have n1_ := Aside0.mk (below_step (lb HB.out) hb); clear HB; have HO389 := n0_; have HB := n1_; clear n0_ n1_; clear hb ho49; have q50 : ((wrap64 (a2 + 1)) : Int) ≤ ((l0.length : Int) : Int) := oa; obtain ⟨i050, hi050, _, hsz50, _⟩ := info_parts info33; have hroom50 : l0.length ≤ c0 := HC0.out; have hC50 : Kd.C k33 _ A0 l0.length l0 := HR0.out; have ql50 : (a1 : Int) ≤ ((wrap64 (a2 + 1)) : Int) := oa; have q050 : (0 : Int) ≤ (a1 : Int) := oa; have hcut50 := cut_mid (P := Try.prog) 23 33 .i64 .i64 Try.underlying23 hi050 2 hsz50 A0 l0.length c0 a1 (wrap64 (a2 + 1)) q050 ql50 q50 hroom50; have hr50 := Kd.C_mid (lo := (a1 : Int).toNat) (hi := ((wrap64 (a2 + 1)) : Int).toNat) (c := c0) hC50 (by omega) (by omega) hroom50; obtain ⟨A50, hA50⟩ : ∃ A1, A1 = (if c0 = (a1 : Int).toNat then A0 else (A0 : Option Addr).map (·.add ((a1 : Int).toNat * 2))) := ⟨_, rfl⟩; obtain ⟨c50, hc50⟩ : ∃ c1, c1 = c0 - (a1 : Int).toNat := ⟨_, rfl⟩; have hy50 : y390.length = ((wrap64 (a2 + 1)) : Int).toNat - (a1 : Int).toNat := (by rw [Ny390.out, List.length_drop, List.length_take] <;> omega); rw [show ((l0).take ((wrap64 (a2 + 1)) : Int).toNat).drop (a1 : Int).toNat = y390 from Ny390.out.symm] at hr50; replace hr50 : Kd.C k33 _ A50 y390.length y390 := (by rw [hA50]; exact hr50); rw [← hy50, ← hA50, ← hc50] at hcut50; have HR393 := Aside0.mk hr50; have HC393 := Aside0.mk (show y390.length ≤ c50 from by rw [hy50, hc50]; exact Nat.sub_le_sub_right (Nat.le_trans (by omega) hroom50) _); clear hr50 hC50 hroom50 hi050 hsz50 hc50; have KY50 := Aside0.mk hy50; have KA50 := Aside0.mk hA50; clear hy50 hA50; replace q50 := eq_true q50) | ((with_reducible refine gate_builtin (b := .append) (xs := #[.tmp 31, .tmp 36]) rfl ?_); (try (refine gate_guard (by rfl) ?_; dsimp only)); at_builtin; refine Kd.R_append_rows k33 (w0 := w) w.heap.size rfl (.tmp 31) (.tmp 36) 23 33 (.agg #[(.int .i64 0), (.int .i64 0)]) 16 rfl Try.underlying23 info33 rfl (by decide) (by omega) v388 y387 y390 _ _ _ (fun _ => True) (fun _ => False) rfl rfl ?aO ?aR (fun _ _ h => h) (fun _ h => h.elim) ?aF ?aB ?aS ?aL ?_; (case aR => exact cm (Kd.C_below HR393.out HB.out)); (case aB => exact (lb HB.out)); (case aF => exact (fun _ _ => trivial)); (case aO => exact (rm HO389.out)); (case aS => exact (below_size (lb HB.out))); (case aL => have := LMc21.out; omega); intro v395 w51 ho hb hg hat; rw [← Ny394.out] at ho; have n0_ := Aside0.mk (hb); have n1_ := Aside0.mk (ho); clear HB; clear HO389; have HB := n0_; have HO396 := n1_; clear n0_ n1_; clear ho hb hg hat))
                have n0_ := Aside0.mk (Kd.R_drew HO396.out)
                have n1_ := Aside0.mk (below_drew1 HB.out)
                clear HO396 HB
                have HO396 := n0_
                have HB := n1_
                clear n0_ n1_
                have q53 : (a2 : Int) ≤ ((l0.length : Int) : Int) := oa
                obtain ⟨i053, hi053, _, hsz53, _⟩ := info_parts info33
                have hroom53 : l0.length ≤ c0 := HC0.out
                have hC53 : Kd.C k33 _ A0 l0.length l0 := HR0.out
                have q053 : (0 : Int) ≤ (a2 : Int) := oa
                have hcut53 := cut_from (P := Try.prog) 23 33 .i64 Try.underlying23 hi053 2 hsz53 A0 l0.length c0 a2 q053 q53
                have hr53 := Kd.C_drop (m := (a2 : Int).toNat) (c := c0) hC53 (by omega) hroom53
                obtain ⟨A53, hA53⟩ : ∃ A1, A1 = (if c0 = (a2 : Int).toNat then A0 else (A0 : Option Addr).map (·.add ((a2 : Int).toNat * 2))) := ⟨_, rfl⟩
                obtain ⟨c53, hc53⟩ : ∃ c1, c1 = c0 - (a2 : Int).toNat := ⟨_, rfl⟩
                have hy53 : y400.length = l0.length - (a2 : Int).toNat := (by rw [Ny400.out, List.length_drop] <;> omega)
                rw [show (l0).drop (a2 : Int).toNat = y400 from Ny400.out.symm] at hr53
                replace hr53 : Kd.C k33 _ A53 y400.length y400 := (by rw [hA53]; exact hr53)
                rw [← hy53, ← hA53, ← hc53] at hcut53
                have HR403 := Aside0.mk hr53
                have HC403 := Aside0.mk (show y400.length ≤ c53 from by rw [hy53, hc53]; exact Nat.sub_le_sub_right hroom53 _)
                clear hr53 hC53 hroom53 hi053 hsz53 hc53
                have KY53 := Aside0.mk hy53
                have KA53 := Aside0.mk hA53
                clear hy53 hA53
                replace q53 := eq_true q53
                have q54 : ((ji25) : Int) ≤ ((l0.length : Int) : Int) := oa
                obtain ⟨i054, hi054, _, hsz54, _⟩ := info_parts info33
                have hroom54 : l0.length ≤ c0 := HC0.out
                have hC54 : Kd.C k33 _ A0 l0.length l0 := HR0.out
                have hcut54 := cut_to (P := Try.prog) 23 33 .i64 Try.underlying23 hi054 A0 l0.length c0 (ji25) oa q54 hroom54
                have hr54 := Kd.C_take (m := ((ji25) : Int).toNat) hC54 (by omega)
                have hy54 : y407.length = ((ji25) : Int).toNat := (by rw [Ny407.out, List.length_take]; omega)
                rw [← Ny407.out] at hr54
                rw [← hy54] at hcut54
                have HR410 := Aside0.mk hr54
                have HC410 := Aside0.mk (show y407.length ≤ c0 from by omega)
                clear hr54 hC54 hroom54 hi054 hsz54
                have KY54 := Aside0.mk hy54
                clear hy54
                replace q54 := eq_true q54
                refine start_ (n := 11) (S := fun w' => True) (ds := []) #[false,false,false,false,false,false,false,false,false,false,false] (by kernel_rfl) rfl rfl trivial (fun hHeld => ?_); refine with_tabW spec_ParcelSplit.tab4 spec_ParcelSplit.bits4 (fun HT_ HW_ => ?_)
                generalize w51.drew = w52 at HO396 HB HR403 HR410 hHeld ⊢
                refine pq_ 1 (some 39) ?_
                refine pq_ 2 (some 40) ?_
                refine pq_ 3 (some 41) ?_
                refine pq_ 5 (some 43) ?_
                refine pq_ 6 (some 44) ?_
                refine pq_ 7 (some 45) ?_
                refine pq_ 8 (some 46) ?_
                refine one_ (i := 0) (N := some 38) #[true,true,true,true,false,true,true,true,true,false,false] rfl rfl (one_of HT_.out (by kernel_rfl)) (by decide) (fun K hK => ?_)
                refine Kd.R_lit_step k33 _ 33 ?hg (N := 38) ?hd (xs := ([] : List (S33))) (inner := []) (ok := fun _ => True) (okp := fun _ => True) ?hr ?hp (fun _ hk => hk) trivial (Below.refl _ _) (Nat.le_refl _) (by simp) ?_; (case hd => rfl); (case hg => rfl); (case hr => first | (go_simp; done) | (go_simp; rfl)); (case hp => exact (Reps.none _ _))
                intro v398 w55 ho56 hb hg_ hnew_
                clear hg_ hnew_
                (first | rw [← Ny397.out] at ho56 | (simp only [Int.reduceToNat] at ho56; rw [← Ny397.out] at ho56))
                have n0_ := Aside0.mk (Kd.R_elder' (rm HO396.out) (Kd.R_base ho56) hb)
                have n1_ := Aside0.mk (Kd.R_lower (Kd.R_new' ho56 (Kd.R_lt (rm HO396.out))) (below_size (lb HB.out)))
                have n2_ := Aside0.mk (below_step (lb HB.out) hb)
                clear HO396 HB
                have HO396 := n0_
                have HO399 := n1_
                have HB := n2_
                clear n0_ n1_ n2_ hb ho56
                refine hK.out _ _ trivial (fun hHeld => ?_)
                clear hK K
                refine norm_ (a' := ?_) ?_ ?_
                rotate_left
                ·show Act.put _ (some 38) _ = _
                 simp only [Act.put, List.setIfInBounds_toArray, List.set_cons_zero, List.set_cons_succ, i64_w, i32_w]
                 rfl
                refine one_ (i := 4) (N := some 42) #[true,true,true,true,true,true,true,true,true,false,false] rfl rfl (one_of HT_.out (by kernel_rfl)) (by decide) (fun K hK => ?_)
                refine Kd.R_append_rows_step k33 (w0 := w) w.heap.size (by rfl) (.tmp 38) (.tmp 41) 23 33 (.agg #[(.int .i64 0), (.int .i64 0)]) 16 rfl Try.underlying23 info33 rfl (by decide) (by omega) v398 y397 y400 _ _ _ (fun k_ => some k_ ≠ (v395 : Value).ownBlock) (fun _ => False) rfl rfl ?aO ?aR (fun _ _ h => h) (fun _ h => h.elim) ?aF ?aB ?aS ?aL ?_
                (case aR => exact cm (Kd.C_below HR403.out HB.out))
                (case aB => exact (lb HB.out))
                (case aF => exact (fun k_ hk => Kd.fresh' (Kd.R_lt (rm HO396.out)) k_ hk))
                (case aO => exact (by (with_reducible repeat (first | apply Kd.R_alloc | apply Kd.R_drewN | apply Kd.R_drew)); exact Kd.R_mono HO399.out (fun _ hk => by first | exact hk.2 | exact trivial)))
                (case aS => exact (below_size (lb HB.out)))
                (case aL => have := LMc24.out; omega)
                intro v405 w57 ho hb hg hat
                rw [← Ny404.out] at ho
                have n0_ := Aside0.mk (Kd.R_after (ok := (fun _ => True)) (rm HO396.out) hg hat)
                have n1_ := Aside0.mk (hb)
                have n2_ := Aside0.mk (ho)
                clear HO396 HB HO399
                have HO396 := n0_
                have HB := n1_
                have HO406 := n2_
                clear n0_ n1_ n2_ ho hb hg hat
                refine hK.out _ _ trivial (fun hHeld => ?_)
                clear hK K
                refine norm_ (a' := ?_) ?_ ?_
                rotate_left
                ·show Act.put _ (some 42) _ = _
                 simp only [Act.put, List.setIfInBounds_toArray, List.set_cons_zero, List.set_cons_succ, i64_w, i32_w]
                 rfl
                refine one_ (i := 9) (N := some 47) #[true,true,true,true,true,true,true,true,true,true,false] rfl rfl (one_of HT_.out (by kernel_rfl)) (by decide) (fun K hK => ?_)
                refine Kd.R_append_rows_step k33 (w0 := w) w.heap.size (by rfl) (.tmp 42) (.tmp 46) 23 33 (.agg #[(.int .i64 0), (.int .i64 0)]) 16 rfl Try.underlying23 info33 rfl (by decide) (by omega) v405 y404 y407 _ _ _ (fun k_ => some k_ ≠ (v395 : Value).ownBlock) (fun _ => False) rfl rfl ?aO ?aR (fun _ _ h => h) (fun _ h => h.elim) ?aF ?aB ?aS ?aL ?_
                (case aR => exact cm (Kd.C_below HR410.out HB.out))
                (case aB => exact (lb HB.out))
                (case aF => exact (fun k_ hk => Kd.fresh' (Kd.R_lt (rm HO396.out)) k_ hk))
                (case aO => exact (rm HO406.out))
                (case aS => exact (below_size (lb HB.out)))
                (case aL => have := LMc28.out; omega)
                intro v412 w58 ho hb hg hat
                rw [← Ny411.out] at ho
                have n0_ := Aside0.mk (Kd.R_after (ok := (fun _ => True)) (rm HO396.out) hg hat)
                have n1_ := Aside0.mk (hb)
                have n2_ := Aside0.mk (ho)
                clear HO396 HB HO406
                have HO396 := n0_
                have HB := n1_
                have HO413 := n2_
                clear n0_ n1_ n2_ ho hb hg hat
                refine hK.out _ _ trivial (fun hHeld => ?_)
                clear hK K
                refine norm_ (a' := ?_) ?_ ?_
                rotate_left
                ·show Act.put _ (some 47) _ = _
                 simp only [Act.put, List.setIfInBounds_toArray, List.set_cons_zero, List.set_cons_succ, i64_w, i32_w]
                 rfl
                refine pq_ 10 (some 10) ?_
                refine done_ (done_of HT_.out (by kernel_rfl)) ?_
                obtain ⟨Ao59, co59, eo59⟩ := Kd.R_slice HO396.out
                subst eo59
                try go_wp2_with (first | ((with_reducible refine gate_callee (f := 35) rfl ?_); refine goesL_ (some 49) rfl rfl Try.func35 (by kernel_rfl) rfl #[.slice Ao59 y394.length co59] rfl al ?_; (with_reducible refine (spec_ParcelValid.calls kj3 _ _ y394 true _ ?side1 ?side2 A29.out).mono ?_); (case side1 => exact cm (Kd.R_reads' HO396.out).2.2); (case side2 => exact (Kd.R_reads' HO396.out).2.1); rintro e w60 ⟨rfl, hb⟩; refine ⟨_, rfl, ?_⟩; have n0_ := Aside0.mk (Kd.R_below (rm HO396.out) hb); have n1_ := Aside0.mk (Kd.R_below (rm HO413.out) hb); have n2_ := Aside0.mk (below_step (lb HB.out) hb); clear HO396; clear HO413; clear HB; have HO396 := n0_; have HO413 := n1_; have HB := n2_; clear n0_ n1_ n2_; (try clear hb); (try clear hb2); (try clear hk); (try clear hi); obtain ⟨Ao61, co61, eo61⟩ := Kd.R_slice HO413.out; subst eo61) | (go_at_call 35; (with_reducible refine (spec_ParcelValid.calls kj3 _ _ y411 false _ ?side1 ?side2 A31.out).mono ?_); (case side1 => exact cm (Kd.R_reads' HO413.out).2.2); (case side2 => exact (Kd.R_reads' HO413.out).2.1); rintro e w62 ⟨rfl, hb⟩; have n0_ := Aside0.mk (Kd.R_below (rm HO396.out) hb); have n1_ := Aside0.mk (Kd.R_below (rm HO413.out) hb); have n2_ := Aside0.mk (below_step (lb HB.out) hb); clear HO396; clear HO413; clear HB; have HO396 := n0_; have HO413 := n1_; have HB := n2_; clear n0_ n1_ n2_; (try clear hb); (try clear hb2); (try clear hk); (try clear hi)) | ((with_reducible refine gate_dst (N := 56) rfl ?_); (try (refine gate_guard (by rfl) ?_; dsimp only)); refine Kd.R_lit k33 _ 33 ?hg (N := 56) ?hd (xs := ([] : List (S33))) (inner := []) (ok := fun _ => True) (okp := fun _ => True) ?hr ?hp (fun _ hk => hk) trivial (Below.refl _ _) (Nat.le_refl _) (by simp) ?_; (case hd => rfl); (case hg => rfl); (case hr => first | (go_simp; done) | (go_simp; rfl)); (case hp => exact (Reps.none _ _)); intro v417 w63 ho64 hb hg_ hnew_; clear hg_ hnew_; (first | rw [← Ny416.out] at ho64 | (simp only [Int.reduceToNat] at ho64; rw [← Ny416.out] at ho64)); have n0_ := Aside0.mk (Kd.R_elder' (rm HO396.out) (Kd.R_base ho64) hb); have n1_ := Aside0.mk (Kd.R_elder' (rm HO413.out) (Kd.R_base ho64) hb); have n2_ := Aside0.mk (Kd.R_lower (Kd.R_new' (Kd.R_new' ho64 (Kd.R_lt (rm HO396.out))) (Kd.R_lt (rm HO413.out))) (below_size (lb HB.out))); have n3_ := Aside0.mk (below_step (lb HB.out) hb); clear HO396; clear HO413; clear HB; have HO396 := n0_; have HO413 := n1_; have HO418 := n2_; have HB := n3_; clear n0_ n1_ n2_ n3_; clear hb ho64) | ((with_reducible refine gate_dst (N := 57) rfl ?_); (try (refine gate_guard (by rfl) ?_; dsimp only)); refine Kd.R_lit k33 _ 33 ?hg (N := 57) ?hd (xs := ([] : List (S33))) (inner := []) (ok := fun _ => True) (okp := fun _ => True) ?hr ?hp (fun _ hk => hk) trivial (Below.refl _ _) (Nat.le_refl _) (by simp) ?_; (case hd => rfl); (case hg => rfl); (case hr => first | (go_simp; done) | (go_simp; rfl)); (case hp => exact (Reps.none _ _)); intro v420 w65 ho66 hb hg_ hnew_; clear hg_ hnew_; (first | rw [← Ny419.out] at ho66 | (simp only [Int.reduceToNat] at ho66; rw [← Ny419.out] at ho66)); have n0_ := Aside0.mk (Kd.R_elder' (rm HO396.out) (Kd.R_base ho66) hb); have n1_ := Aside0.mk (Kd.R_elder' (rm HO413.out) (Kd.R_base ho66) hb); have n2_ := Aside0.mk (Kd.R_elder' (rm HO418.out) (Kd.R_base ho66) hb); have n3_ := Aside0.mk (Kd.R_lower (Kd.R_new' (Kd.R_new' (Kd.R_new' ho66 (Kd.R_lt (rm HO396.out))) (Kd.R_lt (rm HO413.out))) (Kd.R_lt (rm HO418.out))) (below_size (lb HB.out))); have n4_ := Aside0.mk (below_step (lb HB.out) hb); clear HO396; clear HO413; clear HO418; clear HB; have HO396 := n0_; have HO413 := n1_; have HO418 := n2_; have HO421 := n3_; have HB := n4_; clear n0_ n1_ n2_ n3_ n4_; clear hb ho66))
                go_ret3
                exact ⟨_, _, by first | rfl | (simp [errW_none, errW_some] <;> rfl) | (simp only [← hji25]; first | rfl | (simp [errW_none, errW_some] <;> rfl)) | (simp [*, errW_none, errW_some] <;> rfl), rm (Kd.R_mono HO418.out (fun _ hk => by first | exact hk.2 | exact trivial)), rm (Kd.R_mono HO421.out (fun _ hk => by first | exact hk.2 | exact trivial)), lb HB.out⟩
              ·replace c30 := Bool.eq_false_iff.mpr c30
               subst c30
               have H1 : (some ((([] : List (S33))), (([] : List (S33))), false)) = some (r1, r2, r3) := by rw [if_neg (show ¬ (false = true) by decide)] at H; exact H
               clear H
               have H := H1
               clear H1
               obtain ⟨y422, hy422⟩ : ∃ y_ : List (S33), y_ = (([] : List (S33))) := ⟨_, rfl⟩
               replace H : (some (y422, (([] : List (S33))), false)) = some (r1, r2, r3) := by first | (rw [hy422]; with_reducible exact H) | (have H2_ := (Option.bind_some _ _).symm.trans H; rw [hy422]; with_reducible exact H2_) | (have H2_ := (Option.bind_some _ _).symm.trans H; with_reducible exact H2_) | with_reducible exact H | (rw [hy422]; exact H) | exact H
               have Ny422 := Aside0.mk hy422
               clear hy422
               obtain ⟨y425, hy425⟩ : ∃ y_ : List (S33), y_ = (([] : List (S33))) := ⟨_, rfl⟩
               replace H : (some (y422, y425, false)) = some (r1, r2, r3) := by first | (rw [hy425]; with_reducible exact H) | (have H2_ := (Option.bind_some _ _).symm.trans H; rw [hy425]; with_reducible exact H2_) | (have H2_ := (Option.bind_some _ _).symm.trans H; with_reducible exact H2_) | with_reducible exact H | (rw [hy425]; exact H) | exact H
               have Ny425 := Aside0.mk hy425
               clear hy425
               simp only [Option.some.injEq, Prod.mk.injEq] at H
               obtain ⟨rfl, rfl, rfl⟩ := H
               try go_wp2_with (first | ((with_reducible refine gate_dst (N := 31) rfl ?_); (try (refine gate_guard (by rfl) ?_; dsimp only)); refine Kd.R_lit k33 _ 33 ?hg (N := 31) ?hd (xs := ([] : List (S33))) (inner := []) (ok := fun _ => True) (okp := fun _ => True) ?hr ?hp (fun _ hk => hk) trivial (Below.refl _ _) (Nat.le_refl _) (by simp) ?_; (case hd => rfl); (case hg => rfl); (case hr => first | (go_simp; done) | (go_simp; rfl)); (case hp => exact (Reps.none _ _)); intro v388 w67 ho68 hb hg_ hnew_; clear hg_ hnew_; (first | rw [← Ny387.out] at ho68 | (simp only [Int.reduceToNat] at ho68; rw [← Ny387.out] at ho68)); have n0_ := Aside0.mk (Kd.R_lower ho68 (below_size (lb HB.out))); have n1_ := Aside0.mk (below_step (lb HB.out) hb); clear HB; have HO389 := n0_; have HB := n1_; clear n0_ n1_; clear hb ho68; have q69 : ((wrap64 (a2 + 1)) : Int) ≤ ((l0.length : Int) : Int) := oa; obtain ⟨i069, hi069, _, hsz69, _⟩ := info_parts info33; have hroom69 : l0.length ≤ c0 := HC0.out; have hC69 : Kd.C k33 _ A0 l0.length l0 := HR0.out; have ql69 : (a1 : Int) ≤ ((wrap64 (a2 + 1)) : Int) := oa; have q069 : (0 : Int) ≤ (a1 : Int) := oa; have hcut69 := cut_mid (P := Try.prog) 23 33 .i64 .i64 Try.underlying23 hi069 2 hsz69 A0 l0.length c0 a1 (wrap64 (a2 + 1)) q069 ql69 q69 hroom69; have hr69 := Kd.C_mid (lo := (a1 : Int).toNat) (hi := ((wrap64 (a2 + 1)) : Int).toNat) (c := c0) hC69 (by omega) (by omega) hroom69; obtain ⟨A69, hA69⟩ : ∃ A1, A1 = (if c0 = (a1 : Int).toNat then A0 else (A0 : Option Addr).map (·.add ((a1 : Int).toNat * 2))) := ⟨_, rfl⟩; obtain ⟨c69, hc69⟩ : ∃ c1, c1 = c0 - (a1 : Int).toNat := ⟨_, rfl⟩; have hy69 : y390.length = ((wrap64 (a2 + 1)) : Int).toNat - (a1 : Int).toNat := (by rw [Ny390.out, List.length_drop, List.length_take] <;> omega); rw [show ((l0).take ((wrap64 (a2 + 1)) : Int).toNat).drop (a1 : Int).toNat = y390 from Ny390.out.symm] at hr69; replace hr69 : Kd.C k33 _ A69 y390.length y390 := (by rw [hA69]; exact hr69); rw [← hy69, ← hA69, ← hc69] at hcut69; have HR393 := Aside0.mk hr69; have HC393 := Aside0.mk (show y390.length ≤ c69 from by rw [hy69, hc69]; exact Nat.sub_le_sub_right (Nat.le_trans (by omega) hroom69) _); clear hr69 hC69 hroom69 hi069 hsz69 hc69; have KY69 := Aside0.mk hy69; have KA69 := Aside0.mk hA69; clear hy69 hA69; replace q69 := eq_true q69) | ((with_reducible refine gate_builtin (b := .append) (xs := #[.tmp 31, .tmp 36]) rfl ?_); (try (refine gate_guard (by rfl) ?_; dsimp only)); at_builtin; refine Kd.R_append_rows k33 (w0 := w) w.heap.size rfl (.tmp 31) (.tmp 36) 23 33 (.agg #[(.int .i64 0), (.int .i64 0)]) 16 rfl Try.underlying23 info33 rfl (by decide) (by omega) v388 y387 y390 _ _ _ (fun _ => True) (fun _ => False) rfl rfl ?aO ?aR (fun _ _ h => h) (fun _ h => h.elim) ?aF ?aB ?aS ?aL ?_; (case aR => exact cm (Kd.C_below HR393.out HB.out)); (case aB => exact (lb HB.out)); (case aF => exact (fun _ _ => trivial)); (case aO => exact (rm HO389.out)); (case aS => exact (below_size (lb HB.out))); (case aL => have := LMc21.out; omega); intro v395 w70 ho hb hg hat; rw [← Ny394.out] at ho; have n0_ := Aside0.mk (hb); have n1_ := Aside0.mk (ho); clear HB; clear HO389; have HB := n0_; have HO396 := n1_; clear n0_ n1_; clear ho hb hg hat))
               have n0_ := Aside0.mk (Kd.R_drew HO396.out)
               have n1_ := Aside0.mk (below_drew1 HB.out)
               clear HO396 HB
               have HO396 := n0_
               have HB := n1_
               clear n0_ n1_
               have q72 : (a2 : Int) ≤ ((l0.length : Int) : Int) := oa
               obtain ⟨i072, hi072, _, hsz72, _⟩ := info_parts info33
               have hroom72 : l0.length ≤ c0 := HC0.out
               have hC72 : Kd.C k33 _ A0 l0.length l0 := HR0.out
               have q072 : (0 : Int) ≤ (a2 : Int) := oa
               have hcut72 := cut_from (P := Try.prog) 23 33 .i64 Try.underlying23 hi072 2 hsz72 A0 l0.length c0 a2 q072 q72
               have hr72 := Kd.C_drop (m := (a2 : Int).toNat) (c := c0) hC72 (by omega) hroom72
               obtain ⟨A72, hA72⟩ : ∃ A1, A1 = (if c0 = (a2 : Int).toNat then A0 else (A0 : Option Addr).map (·.add ((a2 : Int).toNat * 2))) := ⟨_, rfl⟩
               obtain ⟨c72, hc72⟩ : ∃ c1, c1 = c0 - (a2 : Int).toNat := ⟨_, rfl⟩
               have hy72 : y400.length = l0.length - (a2 : Int).toNat := (by rw [Ny400.out, List.length_drop] <;> omega)
               rw [show (l0).drop (a2 : Int).toNat = y400 from Ny400.out.symm] at hr72
               replace hr72 : Kd.C k33 _ A72 y400.length y400 := (by rw [hA72]; exact hr72)
               rw [← hy72, ← hA72, ← hc72] at hcut72
               have HR403 := Aside0.mk hr72
               have HC403 := Aside0.mk (show y400.length ≤ c72 from by rw [hy72, hc72]; exact Nat.sub_le_sub_right hroom72 _)
               clear hr72 hC72 hroom72 hi072 hsz72 hc72
               have KY72 := Aside0.mk hy72
               have KA72 := Aside0.mk hA72
               clear hy72 hA72
               replace q72 := eq_true q72
               have q73 : ((ji25) : Int) ≤ ((l0.length : Int) : Int) := oa
               obtain ⟨i073, hi073, _, hsz73, _⟩ := info_parts info33
               have hroom73 : l0.length ≤ c0 := HC0.out
               have hC73 : Kd.C k33 _ A0 l0.length l0 := HR0.out
               have hcut73 := cut_to (P := Try.prog) 23 33 .i64 Try.underlying23 hi073 A0 l0.length c0 (ji25) oa q73 hroom73
               have hr73 := Kd.C_take (m := ((ji25) : Int).toNat) hC73 (by omega)
               have hy73 : y407.length = ((ji25) : Int).toNat := (by rw [Ny407.out, List.length_take]; omega)
               rw [← Ny407.out] at hr73
               rw [← hy73] at hcut73
               have HR410 := Aside0.mk hr73
               have HC410 := Aside0.mk (show y407.length ≤ c0 from by omega)
               clear hr73 hC73 hroom73 hi073 hsz73
               have KY73 := Aside0.mk hy73
               clear hy73
               replace q73 := eq_true q73
               refine start_ (n := 11) (S := fun w' => True) (ds := []) #[false,false,false,false,false,false,false,false,false,false,false] (by kernel_rfl) rfl rfl trivial (fun hHeld => ?_); refine with_tabW spec_ParcelSplit.tab4 spec_ParcelSplit.bits4 (fun HT_ HW_ => ?_)
               generalize w70.drew = w71 at HO396 HB HR403 HR410 hHeld ⊢
               refine pq_ 1 (some 39) ?_
               refine pq_ 2 (some 40) ?_
               refine pq_ 3 (some 41) ?_
               refine pq_ 5 (some 43) ?_
               refine pq_ 6 (some 44) ?_
               refine pq_ 7 (some 45) ?_
               refine pq_ 8 (some 46) ?_
               refine one_ (i := 0) (N := some 38) #[true,true,true,true,false,true,true,true,true,false,false] rfl rfl (one_of HT_.out (by kernel_rfl)) (by decide) (fun K hK => ?_)
               refine Kd.R_lit_step k33 _ 33 ?hg (N := 38) ?hd (xs := ([] : List (S33))) (inner := []) (ok := fun _ => True) (okp := fun _ => True) ?hr ?hp (fun _ hk => hk) trivial (Below.refl _ _) (Nat.le_refl _) (by simp) ?_; (case hd => rfl); (case hg => rfl); (case hr => first | (go_simp; done) | (go_simp; rfl)); (case hp => exact (Reps.none _ _))
               intro v398 w74 ho75 hb hg_ hnew_
               clear hg_ hnew_
               (first | rw [← Ny397.out] at ho75 | (simp only [Int.reduceToNat] at ho75; rw [← Ny397.out] at ho75))
               have n0_ := Aside0.mk (Kd.R_elder' (rm HO396.out) (Kd.R_base ho75) hb)
               have n1_ := Aside0.mk (Kd.R_lower (Kd.R_new' ho75 (Kd.R_lt (rm HO396.out))) (below_size (lb HB.out)))
               have n2_ := Aside0.mk (below_step (lb HB.out) hb)
               clear HO396 HB
               have HO396 := n0_
               have HO399 := n1_
               have HB := n2_
               clear n0_ n1_ n2_ hb ho75
               refine hK.out _ _ trivial (fun hHeld => ?_)
               clear hK K
               refine norm_ (a' := ?_) ?_ ?_
               rotate_left
               ·show Act.put _ (some 38) _ = _
                simp only [Act.put, List.setIfInBounds_toArray, List.set_cons_zero, List.set_cons_succ, i64_w, i32_w]
                rfl
               refine one_ (i := 4) (N := some 42) #[true,true,true,true,true,true,true,true,true,false,false] rfl rfl (one_of HT_.out (by kernel_rfl)) (by decide) (fun K hK => ?_)
               refine Kd.R_append_rows_step k33 (w0 := w) w.heap.size (by rfl) (.tmp 38) (.tmp 41) 23 33 (.agg #[(.int .i64 0), (.int .i64 0)]) 16 rfl Try.underlying23 info33 rfl (by decide) (by omega) v398 y397 y400 _ _ _ (fun k_ => some k_ ≠ (v395 : Value).ownBlock) (fun _ => False) rfl rfl ?aO ?aR (fun _ _ h => h) (fun _ h => h.elim) ?aF ?aB ?aS ?aL ?_
               (case aR => exact cm (Kd.C_below HR403.out HB.out))
               (case aB => exact (lb HB.out))
               (case aF => exact (fun k_ hk => Kd.fresh' (Kd.R_lt (rm HO396.out)) k_ hk))
               (case aO => exact (by (with_reducible repeat (first | apply Kd.R_alloc | apply Kd.R_drewN | apply Kd.R_drew)); exact Kd.R_mono HO399.out (fun _ hk => by first | exact hk.2 | exact trivial)))
               (case aS => exact (below_size (lb HB.out)))
               (case aL => have := LMc24.out; omega)
               intro v405 w76 ho hb hg hat
               rw [← Ny404.out] at ho
               have n0_ := Aside0.mk (Kd.R_after (ok := (fun _ => True)) (rm HO396.out) hg hat)
               have n1_ := Aside0.mk (hb)
               have n2_ := Aside0.mk (ho)
               clear HO396 HB HO399
               have HO396 := n0_
               have HB := n1_
               have HO406 := n2_
               clear n0_ n1_ n2_ ho hb hg hat
               refine hK.out _ _ trivial (fun hHeld => ?_)
               clear hK K
               refine norm_ (a' := ?_) ?_ ?_
               rotate_left
               ·show Act.put _ (some 42) _ = _
                simp only [Act.put, List.setIfInBounds_toArray, List.set_cons_zero, List.set_cons_succ, i64_w, i32_w]
                rfl
               refine one_ (i := 9) (N := some 47) #[true,true,true,true,true,true,true,true,true,true,false] rfl rfl (one_of HT_.out (by kernel_rfl)) (by decide) (fun K hK => ?_)
               refine Kd.R_append_rows_step k33 (w0 := w) w.heap.size (by rfl) (.tmp 42) (.tmp 46) 23 33 (.agg #[(.int .i64 0), (.int .i64 0)]) 16 rfl Try.underlying23 info33 rfl (by decide) (by omega) v405 y404 y407 _ _ _ (fun k_ => some k_ ≠ (v395 : Value).ownBlock) (fun _ => False) rfl rfl ?aO ?aR (fun _ _ h => h) (fun _ h => h.elim) ?aF ?aB ?aS ?aL ?_
               (case aR => exact cm (Kd.C_below HR410.out HB.out))
               (case aB => exact (lb HB.out))
               (case aF => exact (fun k_ hk => Kd.fresh' (Kd.R_lt (rm HO396.out)) k_ hk))
               (case aO => exact (rm HO406.out))
               (case aS => exact (below_size (lb HB.out)))
               (case aL => have := LMc28.out; omega)
               intro v412 w77 ho hb hg hat
               rw [← Ny411.out] at ho
               have n0_ := Aside0.mk (Kd.R_after (ok := (fun _ => True)) (rm HO396.out) hg hat)
               have n1_ := Aside0.mk (hb)
               have n2_ := Aside0.mk (ho)
               clear HO396 HB HO406
               have HO396 := n0_
               have HB := n1_
               have HO413 := n2_
               clear n0_ n1_ n2_ ho hb hg hat
               refine hK.out _ _ trivial (fun hHeld => ?_)
               clear hK K
               refine norm_ (a' := ?_) ?_ ?_
               rotate_left
               ·show Act.put _ (some 47) _ = _
                simp only [Act.put, List.setIfInBounds_toArray, List.set_cons_zero, List.set_cons_succ, i64_w, i32_w]
                rfl
               refine pq_ 10 (some 10) ?_
               refine done_ (done_of HT_.out (by kernel_rfl)) ?_
               obtain ⟨Ao78, co78, eo78⟩ := Kd.R_slice HO396.out
               subst eo78
               try go_wp2_with (first | ((with_reducible refine gate_callee (f := 35) rfl ?_); refine goesL_ (some 49) rfl rfl Try.func35 (by kernel_rfl) rfl #[.slice Ao78 y394.length co78] rfl al ?_; (with_reducible refine (spec_ParcelValid.calls kj3 _ _ y394 false _ ?side1 ?side2 A29.out).mono ?_); (case side1 => exact cm (Kd.R_reads' HO396.out).2.2); (case side2 => exact (Kd.R_reads' HO396.out).2.1); rintro e w79 ⟨rfl, hb⟩; refine ⟨_, rfl, ?_⟩; have n0_ := Aside0.mk (Kd.R_below (rm HO396.out) hb); have n1_ := Aside0.mk (Kd.R_below (rm HO413.out) hb); have n2_ := Aside0.mk (below_step (lb HB.out) hb); clear HO396; clear HO413; clear HB; have HO396 := n0_; have HO413 := n1_; have HB := n2_; clear n0_ n1_ n2_; (try clear hb); (try clear hb2); (try clear hk); (try clear hi)) | ((with_reducible refine gate_dst (N := 56) rfl ?_); (try (refine gate_guard (by rfl) ?_; dsimp only)); refine Kd.R_lit k33 _ 33 ?hg (N := 56) ?hd (xs := ([] : List (S33))) (inner := []) (ok := fun _ => True) (okp := fun _ => True) ?hr ?hp (fun _ hk => hk) trivial (Below.refl _ _) (Nat.le_refl _) (by simp) ?_; (case hd => rfl); (case hg => rfl); (case hr => first | (go_simp; done) | (go_simp; rfl)); (case hp => exact (Reps.none _ _)); intro v423 w80 ho81 hb hg_ hnew_; clear hg_ hnew_; (first | rw [← Ny422.out] at ho81 | (simp only [Int.reduceToNat] at ho81; rw [← Ny422.out] at ho81)); have n0_ := Aside0.mk (Kd.R_elder' (rm HO396.out) (Kd.R_base ho81) hb); have n1_ := Aside0.mk (Kd.R_elder' (rm HO413.out) (Kd.R_base ho81) hb); have n2_ := Aside0.mk (Kd.R_lower (Kd.R_new' (Kd.R_new' ho81 (Kd.R_lt (rm HO396.out))) (Kd.R_lt (rm HO413.out))) (below_size (lb HB.out))); have n3_ := Aside0.mk (below_step (lb HB.out) hb); clear HO396; clear HO413; clear HB; have HO396 := n0_; have HO413 := n1_; have HO424 := n2_; have HB := n3_; clear n0_ n1_ n2_ n3_; clear hb ho81) | ((with_reducible refine gate_dst (N := 57) rfl ?_); (try (refine gate_guard (by rfl) ?_; dsimp only)); refine Kd.R_lit k33 _ 33 ?hg (N := 57) ?hd (xs := ([] : List (S33))) (inner := []) (ok := fun _ => True) (okp := fun _ => True) ?hr ?hp (fun _ hk => hk) trivial (Below.refl _ _) (Nat.le_refl _) (by simp) ?_; (case hd => rfl); (case hg => rfl); (case hr => first | (go_simp; done) | (go_simp; rfl)); (case hp => exact (Reps.none _ _)); intro v426 w82 ho83 hb hg_ hnew_; clear hg_ hnew_; (first | rw [← Ny425.out] at ho83 | (simp only [Int.reduceToNat] at ho83; rw [← Ny425.out] at ho83)); have n0_ := Aside0.mk (Kd.R_elder' (rm HO396.out) (Kd.R_base ho83) hb); have n1_ := Aside0.mk (Kd.R_elder' (rm HO413.out) (Kd.R_base ho83) hb); have n2_ := Aside0.mk (Kd.R_elder' (rm HO424.out) (Kd.R_base ho83) hb); have n3_ := Aside0.mk (Kd.R_lower (Kd.R_new' (Kd.R_new' (Kd.R_new' ho83 (Kd.R_lt (rm HO396.out))) (Kd.R_lt (rm HO413.out))) (Kd.R_lt (rm HO424.out))) (below_size (lb HB.out))); have n4_ := Aside0.mk (below_step (lb HB.out) hb); clear HO396; clear HO413; clear HO424; clear HB; have HO396 := n0_; have HO413 := n1_; have HO424 := n2_; have HO427 := n3_; have HB := n4_; clear n0_ n1_ n2_ n3_ n4_; clear hb ho83))
               go_ret3
               exact ⟨_, _, by first | rfl | (simp [errW_none, errW_some] <;> rfl) | (simp only [← hji25]; first | rfl | (simp [errW_none, errW_some] <;> rfl)) | (simp [*, errW_none, errW_some] <;> rfl), rm (Kd.R_mono HO424.out (fun _ hk => by first | exact hk.2 | exact trivial)), rm (Kd.R_mono HO427.out (fun _ hk => by first | exact hk.2 | exact trivial)), lb HB.out⟩
             ·rw [if_neg c28] at H
              exact absurd H (by simp)
            ·rw [if_neg c27] at H
             exact absurd H (by simp)
           ·rw [if_neg c26] at H
            exact absurd H (by simp)
          ·rw [if_neg c24] at H
           exact absurd H (by simp)
         ·rw [if_neg c23] at H
          exact absurd H (by simp)
        ·rw [if_neg c22] at H
         exact absurd H (by simp)
       ·rw [if_neg c21] at H
        exact absurd H (by simp)
      ·rw [if_neg c20] at H
       exact absurd H (by simp)
     ·rw [if_neg c19] at H
      exact absurd H (by simp)
    ·rw [if_neg c18] at H
     exact absurd H (by simp)
def spec_l1Common.l0 : Nat → Int → Int → Option (Int)
 | 0, _, _ => none
 | k + 1, x0, x1 => if x1 = 0 then (some x0) else (spec_l1Common.l0 k x1 (Int.tmod x0 x1))
def spec_l1Common.f (k : Nat) (a0 : Int) (a1 : Int) : Option (Int) := spec_l1Common.l0 k a0 a1
theorem spec_l1Common.mono_l : ∀ k, (∀ y0 y1, LeO (spec_l1Common.l0 k y0 y1) (spec_l1Common.l0 (k + 1) y0 y1))
 | 0 => fun _ _ r h => by simp [spec_l1Common.l0] at h
 | k + 1 => by
  have ih0 := spec_l1Common.mono_l k
  ·intro y0 y1
   unfold spec_l1Common.l0
   repeat' first
   | (with_reducible exact ih0 _ _)
   | (with_reducible exact LeO.refl _)
   | (with_reducible exact LeO.none _)
   | (with_reducible refine LeO.ite ?_ ?_)
   | (with_reducible refine LeO.bind ?_ (fun _ => ?_))
   | exact ih0 _ _
   | exact LeO.none _
   | refine LeO.ite ?_ ?_
   | refine LeO.bind ?_ (fun _ => ?_)
theorem spec_l1Common.mono : ∀ a0 a1 k, LeO (spec_l1Common.f k a0 a1) (spec_l1Common.f (k + 1) a0 a1) := by
 intro a0 a1 k
 have ih0 := spec_l1Common.mono_l k
 unfold spec_l1Common.f
 repeat' first
   | (with_reducible exact ih0 _ _)
   | (with_reducible exact LeO.refl _)
   | (with_reducible exact LeO.none _)
   | (with_reducible refine LeO.ite ?_ ?_)
   | (with_reducible refine LeO.bind ?_ (fun _ => ?_))
   | exact ih0 _ _
   | exact LeO.none _
   | refine LeO.ite ?_ ?_
   | refine LeO.bind ?_ (fun _ => ?_)
set_option maxHeartbeats 8000000 in
set_option maxRecDepth 100000 in
theorem spec_l1Common.calls (k : Nat) (a0 : Int) (a1 : Int) (r : Int) (w : World) (h : spec_l1Common.f k a0 a1 = some r) :
  Calls Try.prog 75 #[.int .i64 a0, .int .i64 a1] w fun e w' => e = .returned (.int .i64 r) ∧ Drawn0 w w' := by
 have H : (spec_l1Common.l0 k a0 a1) = some r := h
 clear h
 have H' := Aside0.mk H
 clear H
 go_enter Try.func75, Try.ntmps75
 go_wp2
 go_loopg [0, 1] k (fun kq v0 v1 w' => ∃ (x0_1 : Int) (x1_1 : Int), v0 = .int .i64 x0_1 ∧ v1 = .int .i64 x1_1 ∧ Aside0 (spec_l1Common.l0 kq x0_1 x1_1 = some r) ∧ Aside0 (kq ≤ k) ∧ Drawn0 w w')
 case atStart => exact ⟨(a0), (a1), (by first | rfl | (simp; done) | (simp [*]; done)), (by first | rfl | (simp; done) | (simp [*]; done)), H', ⟨Nat.le_refl _⟩, by repeat (first | exact Drawn0.refl _ | apply Drawn0.step)⟩
 case round =>
  clear H'
  try clear p2
  obtain ⟨x0_1, x1_1, rfl, rfl, HA, HK1, ⟨m1, rfl⟩⟩ := hrel
  cases gk with
  | zero => exact absurd HA.out (by simp [spec_l1Common.l0])
  | succ k1 =>
   have H := HA.out
   clear HA
   simp only [spec_l1Common.l0] at H
   by_cases c3 : x1_1 = 0
   ·rw [if_pos c3] at H
    have c3b0 : (x1_1 == 0) = true := beq_iff_eq.mpr c3
    have c3b1 : (x1_1 != 0) = false := bne_eq_false_iff_eq.mpr c3
    clear c3
    obtain rfl := Option.some.inj H
    go_wp2
    go_ret
    exact ⟨by first | rfl | (simp; done) | (simp [*]; done), by repeat (first | exact Drawn0.refl _ | apply Drawn0.step)⟩
   ·rw [if_neg c3] at H
    have c3b0 : (x1_1 == 0) = false := beq_eq_false_iff_ne.mpr c3
    have c3b1 : (x1_1 != 0) = true := bne_iff_ne.mpr c3
    have H' := Aside0.mk H
    clear H
    go_wp2
    go_roundg k1
    case measure => have := HK1.out; omega
    case rel => exact ⟨(x1_1), (Int.tmod x0_1 x1_1), (by first | rfl | (simp; done) | (simp [*]; done)), (by first | rfl | (simp; done) | (simp [*]; done)), H', ⟨by have := HK1.out; omega⟩, by repeat (first | exact Drawn0.refl _ | apply Drawn0.step)⟩
def spec_l1Size.f (a0 : Int) : Option (Int) := some (mx a0 (wrap64 (-a0)))
set_option maxHeartbeats 8000000 in
set_option maxRecDepth 100000 in
theorem spec_l1Size.calls (a0 : Int) (r : Int) (w : World) (h : spec_l1Size.f a0 = some r) :
  Calls Try.prog 76 #[.int .i64 a0] w fun e w' => e = .returned (.int .i64 r) ∧ Below w.heap.size w w' := by
 have HB := Aside0.mk (Below.refl w.heap.size w)
 have H : (some (mx a0 (wrap64 (-a0)))) = some r := h
 clear h
 obtain ⟨ji2, hji2⟩ : ∃ j_ : Int, (mx a0 (wrap64 (-a0))) = j_ := ⟨_, rfl⟩
 replace H : (some ji2) = some r := by first | (rw [hji2] at H; exact H) | (simp only [hji2] at H ⊢; exact H)
 have hji2_ : (if a0 < (wrap64 (-a0)) then (wrap64 (-a0)) else a0) = ji2 := hji2
 obtain rfl := Option.some.inj H
 go_enter Try.func76, Try.ntmps76
 go_wp2
 go_ret
 exact ⟨by first | rfl | (simp [errW_none, errW_some] <;> rfl) | (simp only [← hji2]; first | rfl | (simp [errW_none, errW_some] <;> rfl)) | (simp [*, errW_none, errW_some] <;> rfl), lb HB.out⟩
def spec_QuoValid.j0 : Nat → Bool → Int → Int → Option (Bool)
 | 0, _, _, _ => none
 | k + 1, x12, x429000, x429001 => if x12 = true then (some false) else ((spec_l1Size.f x429000).bind fun t431 => ((spec_l1Common.f k t431 x429001).bind fun t432 => (some (t432 == 1))))
def spec_QuoValid.f (k : Nat) (a0_0 : Int) (a0_1 : Int) : Option (Bool) := (spec_l6In.f a0_1 1 1000000000).bind fun t429 => (if t429 = true then ((spec_l6In.f a0_0 (-1000000000) 1000000000).bind fun t430 => (spec_QuoValid.j0 k (!t430) a0_0 a0_1)) else (spec_QuoValid.j0 k true a0_0 a0_1))
theorem spec_QuoValid.mono_l : ∀ k, (∀ y0 y1 y2, LeO (spec_QuoValid.j0 k y0 y1 y2) (spec_QuoValid.j0 (k + 1) y0 y1 y2))
 | 0 => fun _ _ _ r h => by simp [spec_QuoValid.j0] at h
 | k + 1 => by
  have ih0 := spec_QuoValid.mono_l k
  ·intro y0 y1 y2
   unfold spec_QuoValid.j0
   repeat' first
   | (with_reducible exact ih0 _ _ _)
   | (with_reducible exact spec_l1Common.mono _ _ _)
   | (with_reducible exact LeO.refl _)
   | (with_reducible exact LeO.none _)
   | (with_reducible refine LeO.ite ?_ ?_)
   | (with_reducible refine LeO.bind ?_ (fun _ => ?_))
   | exact ih0 _ _ _
   | exact spec_l1Common.mono _ _ _
   | exact LeO.none _
   | refine LeO.ite ?_ ?_
   | refine LeO.bind ?_ (fun _ => ?_)
theorem spec_QuoValid.mono : ∀ a0 a1 k, LeO (spec_QuoValid.f k a0 a1) (spec_QuoValid.f (k + 1) a0 a1) := by
 intro a0 a1 k
 have ih0 := spec_QuoValid.mono_l k
 unfold spec_QuoValid.f
 repeat' first
   | (with_reducible exact ih0 _ _ _)
   | (with_reducible exact spec_l1Common.mono _ _ _)
   | (with_reducible exact LeO.refl _)
   | (with_reducible exact LeO.none _)
   | (with_reducible refine LeO.ite ?_ ?_)
   | (with_reducible refine LeO.bind ?_ (fun _ => ?_))
   | exact ih0 _ _ _
   | exact spec_l1Common.mono _ _ _
   | exact LeO.none _
   | refine LeO.ite ?_ ?_
   | refine LeO.bind ?_ (fun _ => ?_)
def spec_QuoValid.T3 : Bool × List (List Nat × List Nat) := (true,[([],[]),([0],[0]),([1],[1]),([],[]),([3],[3]),([2,4,2],[2,4]),([5],[5]),([6,5,0,1,2,3,4,5,6],[6])])
def spec_QuoValid.B3 : List Nat := [0,1,3,0,8,31,63,127]
theorem spec_QuoValid.tab3 : rtab .any (opsOf Try.f77 3) = spec_QuoValid.T3 := by kernel_rfl
theorem spec_QuoValid.bits3 : waitsOk spec_QuoValid.T3.2 spec_QuoValid.B3 = true := by kernel_rfl
set_option maxHeartbeats 8000000 in
set_option maxRecDepth 100000 in
theorem spec_QuoValid.calls (k : Nat) (a0_0 : Int) (a0_1 : Int) (r : Bool) (w : World) (h : spec_QuoValid.f k a0_0 a0_1 = some r) :
  Calls Try.prog 77 #[.agg #[.int .i64 a0_0, .int .i64 a0_1]] w fun e w' => e = .returned (.bool r) ∧ Below w.heap.size w w' := by
 have hu39 := Try.underlying39
 have HB := Aside0.mk (Below.refl w.heap.size w)
 have H : ((spec_l6In.f a0_1 1 1000000000).bind fun t429 => (if t429 = true then ((spec_l6In.f a0_0 (-1000000000) 1000000000).bind fun t430 => (spec_QuoValid.j0 k (!t430) a0_0 a0_1)) else (spec_QuoValid.j0 k true a0_0 a0_1))) = some r := h
 clear h
 have HC2 := Aside0.mk H
 clear H
 go_enter Try.func77, Try.ntmps77
 go_upto_region 1 with (first | ((with_reducible refine gate_dst (N := 1) rfl ?_); refine bx_ 1 (cs := #[.int .i64 a0_0, .int .i64 a0_1]) (t := 39) ?_; intro gb428 hg w3 hbox hb; have n0_ := Aside0.mk (below_step (lb HB.out) hb); have n1_ := Aside0.mk (hbox); have n2_ := Aside0.mk ((by rw [hg]; exact (below_size (lb HB.out)) : w.heap.size ≤ gb428)); have n3_ := Aside0.mk ((by rw [hg]; exact (below_size (lb HB.out)) : w.heap.size ≤ gb428)); clear HB; have HB := n0_; have BK428 := n1_; have GW428 := n2_; have GE428 := n3_; clear n0_ n1_ n2_ n3_; clear hb hbox hg))
 (try simp only [Act.put, List.setIfInBounds_toArray, List.set_cons_zero, List.set_cons_succ])
 go_cut [12] (fun v12 wc => ∃ (kq : Nat) (x12_1 : Bool), v12 = .bool x12_1 ∧ Aside0 (spec_QuoValid.j0 kq x12_1 a0_0 a0_1 = some r) ∧ Aside0 (kq ≤ k) ∧ Aside0 (wc.heap[gb428]? = some (.cells #[.int .i64 a0_0, .int .i64 a0_1] 39 (0, 0))) ∧ Aside0 (Below w.heap.size w wc))
 case first =>
  have H := HC2.out
  clear HC2
  replace H := Option.bind_eq_some_iff.mp H
  obtain ⟨t429, A40, H⟩ := H
  replace H : (if t429 = true then ((spec_l6In.f a0_0 (-1000000000) 1000000000).bind fun t430 => (spec_QuoValid.j0 k (!t430) a0_0 a0_1)) else (spec_QuoValid.j0 k true a0_0 a0_1)) = some r := H
  have A4 := Aside0.mk A40
  clear A40
  by_cases c5 : t429 = true
  ·subst c5
   have H1 : ((spec_l6In.f a0_0 (-1000000000) 1000000000).bind fun t430 => (spec_QuoValid.j0 k (!t430) a0_0 a0_1)) = some r := by rw [if_pos rfl] at H; exact H
   clear H
   have H := H1
   clear H1
   replace H := Option.bind_eq_some_iff.mp H
   obtain ⟨t430, A60, H⟩ := H
   replace H : (spec_QuoValid.j0 k (!t430) a0_0 a0_1) = some r := H
   have A6 := Aside0.mk A60
   clear A60
   have H' := Aside0.mk H
   clear H
   have hcz7_0 : w3.cell? ⟨gb428, 0, none⟩ = some (.int .i64 a0_0) := (blk_cell BK428.out 0).trans rfl
   have hcz7_1 : w3.cell? ⟨gb428, 1, none⟩ = some (.int .i64 a0_1) := (blk_cell BK428.out 1).trans rfl
   have hfz7_0 := blk_frozen BK428.out 0
   have hfz7_1 := blk_frozen BK428.out 1
   go_wp2_with (first | ((with_reducible refine gate_callee (f := 36) rfl ?_); refine goesL_ (some 5) rfl rfl Try.func36 (by kernel_rfl) rfl #[.int .i64 a0_1, .int .i64 1, .int .i64 1000000000] rfl al ?_; (with_reducible refine (spec_l6In.calls a0_1 1 1000000000 true _ A4.out).mono ?_); rintro e w' ⟨rfl, ⟨nd, rfl⟩⟩; refine ⟨_, rfl, ?_⟩) | (go_at_call 36; (with_reducible refine (spec_l6In.calls a0_0 (-1000000000) 1000000000 t430 _ A6.out).mono ?_); rintro e w' ⟨rfl, ⟨nd, rfl⟩⟩))
   go_meet
   case rel => exact ⟨_, (!t430), (by first | rfl | (simp; done) | (simp [*]; done)), H', ⟨by first | omega | exact Nat.le_refl _⟩, ⟨bu BK428.out⟩, ⟨lb HB.out⟩⟩
  ·replace c5 := Bool.eq_false_iff.mpr c5
   subst c5
   have H1 : (spec_QuoValid.j0 k true a0_0 a0_1) = some r := by rw [if_neg (show ¬ (false = true) by decide)] at H; exact H
   clear H
   have H := H1
   clear H1
   have H' := Aside0.mk H
   clear H
   have hcz8_0 : w3.cell? ⟨gb428, 0, none⟩ = some (.int .i64 a0_0) := (blk_cell BK428.out 0).trans rfl
   have hcz8_1 : w3.cell? ⟨gb428, 1, none⟩ = some (.int .i64 a0_1) := (blk_cell BK428.out 1).trans rfl
   have hfz8_0 := blk_frozen BK428.out 0
   have hfz8_1 := blk_frozen BK428.out 1
   go_wp2_with (first | ((with_reducible refine gate_callee (f := 36) rfl ?_); refine goesL_ (some 5) rfl rfl Try.func36 (by kernel_rfl) rfl #[.int .i64 a0_1, .int .i64 1, .int .i64 1000000000] rfl al ?_; (with_reducible refine (spec_l6In.calls a0_1 1 1000000000 false _ A4.out).mono ?_); rintro e w' ⟨rfl, ⟨nd, rfl⟩⟩; refine ⟨_, rfl, ?_⟩))
   go_meet
   case rel => exact ⟨_, (true), (by first | rfl | (simp; done) | (simp [*]; done)), H', ⟨by first | omega | exact Nat.le_refl _⟩, ⟨bu BK428.out⟩, ⟨lb HB.out⟩⟩
 case rest =>
  clear HC2
  try clear p2
  try clear c3
  try clear c5
  try clear c7
  try clear hcz7_0
  try clear hcz7_1
  try clear hcz8_0
  try clear hcz8_1
  try clear hfz7_0
  try clear hfz7_1
  try clear hfz8_0
  try clear hfz8_1
  obtain ⟨kq, x12_1, rfl, HA, HJ1, BK428, HB⟩ := hcut
  cases kq with
  | zero => exact absurd HA.out (by simp [spec_QuoValid.j0])
  | succ kj1 =>
   have H := HA.out
   clear HA
   simp only [spec_QuoValid.j0] at H
   by_cases c9 : x12_1 = true
   ·subst c9
    have H1 : (some false) = some r := by rw [if_pos rfl] at H; exact H
    clear H
    have H := H1
    clear H1
    obtain rfl := Option.some.inj H
    go_wp2
    go_ret
    exact ⟨er, lb HB.out⟩
   ·replace c9 := Bool.eq_false_iff.mpr c9
    subst c9
    have H1 : ((spec_l1Size.f a0_0).bind fun t431 => ((spec_l1Common.f kj1 t431 a0_1).bind fun t432 => (some (t432 == 1)))) = some r := by rw [if_neg (show ¬ (false = true) by decide)] at H; exact H
    clear H
    have H := H1
    clear H1
    replace H := Option.bind_eq_some_iff.mp H
    obtain ⟨t431, A100, H⟩ := H
    replace H : ((spec_l1Common.f kj1 t431 a0_1).bind fun t432 => (some (t432 == 1))) = some r := H
    have A10 := Aside0.mk A100
    clear A100
    replace H := Option.bind_eq_some_iff.mp H
    obtain ⟨t432, A110, H⟩ := H
    replace H : (some (t432 == 1)) = some r := H
    have A11 := Aside0.mk A110
    clear A110
    obtain rfl := Option.some.inj H
    try go_wp2
    have n0_ := Aside0.mk (blk_drew BK428.out)
    have n1_ := Aside0.mk (below_drew1 HB.out)
    clear BK428 HB
    have BK428 := n0_
    have HB := n1_
    clear n0_ n1_
    refine start_ (n := 8) (S := fun w' => w'.cell? ⟨gb428, 0, none⟩ = some (.int .i64 a0_0) ∧ w'.cell? ⟨gb428, 1, none⟩ = some (.int .i64 a0_1)) (ds := []) #[false,false,false,false,false,false,false,false] (by kernel_rfl) rfl rfl ⟨(blk_cell BK428.out 0).trans rfl, (blk_cell BK428.out 1).trans rfl⟩ (fun hHeld => ?_); refine with_tabW spec_QuoValid.tab3 spec_QuoValid.bits3 (fun HT_ HW_ => ?_)
    generalize wc.drew = w12 at BK428 HB hHeld ⊢
    refine pq_ 0 (some 13) ?_
    refine pq_ 3 (some 16) ?_
    refine tq_ 1 (some 14) ?_
    refine tq_ 4 (some 17) ?_
    refine one_ (i := 2) (N := some 15) #[true,true,true,true,true,false,false,false] rfl rfl (one_of HT_.out (by kernel_rfl)) (by decide) (fun K hK => ?_)
    refine goes_ Try.func76 (by kernel_rfl) rfl #[.int .i64 a0_0] (by rfl) rfl rfl al ?_
    with_reducible refine (spec_l1Size.calls a0_0 t431 _ A10.out).mono ?_
    rintro e w13 ⟨rfl, hb⟩
    refine ⟨_, rfl, ?_⟩
    have n0_ := Aside0.mk (blk_below (bf BK428.out) hb)
    have n1_ := Aside0.mk (below_step (lb HB.out) hb)
    clear BK428 HB
    have BK428 := n0_
    have HB := n1_
    clear n0_ n1_
    (try clear hb);(try clear hb2);(try clear hk);(try clear hi)
    refine hK.out _ _ ⟨(blk_cell BK428.out 0).trans rfl, (blk_cell BK428.out 1).trans rfl⟩ (fun hHeld => ?_)
    clear hK K
    refine norm_ (a' := ?_) ?_ ?_
    rotate_left
    ·show Act.put _ (some 15) _ = _
     simp only [Act.put, List.setIfInBounds_toArray, List.set_cons_zero, List.set_cons_succ, i64_w, i32_w]
     rfl
    refine one_ (i := 5) (N := some 18) #[true,true,true,true,true,true,false,false] rfl rfl (one_of HT_.out (by kernel_rfl)) (by decide) (fun K hK => ?_)
    refine goes_ Try.func75 (by kernel_rfl) rfl #[.int .i64 t431, .int .i64 a0_1] (by rfl) rfl rfl al ?_
    with_reducible refine (spec_l1Common.calls kj1 t431 a0_1 t432 _ A11.out).mono ?_
    rintro e w' ⟨rfl, ⟨nd, rfl⟩⟩
    refine ⟨_, rfl, ?_⟩
    refine hK.out _ _ ⟨(blk_cell BK428.out 0).trans rfl, (blk_cell BK428.out 1).trans rfl⟩ (fun hHeld => ?_)
    clear hK K
    refine norm_ (a' := ?_) ?_ ?_
    rotate_left
    ·show Act.put _ (some 18) _ = _
     simp only [Act.put, List.setIfInBounds_toArray, List.set_cons_zero, List.set_cons_succ, i64_w, i32_w]
     rfl
    refine pq_ 6 (some 19) ?_
    refine pq_ 7 (some 2) ?_
    refine done_ (done_of HT_.out (by kernel_rfl)) ?_
    try go_wp2
    go_ret
    exact ⟨er, lb HB.out⟩
end Go.Proofs.Ytfonigbkoligmaa.P
-- squeezed

import Derived.Test.YtfonigbkoligmaaPx0
import Derived.Test.YtfonigbkoligmaaPx2
import Derived.Test.YtfonigbkoligmaaPx5
namespace Go.Proofs.Ytfonigbkoligmaa.P
open Go.RowKit Go.Proofs.YtfonigbkoligmaaW.PrintWords Go.Proofs.YtfonigbkoligmaaW.PrintLast Go.Proofs.YtfonigbkoligmaaW.PrintMore
attribute [local go_sem] max2_int min2_int max_two min_two max_three min_three max_four min_four
set_option linter.unusedVariables false
set_option linter.unusedSimpArgs false
def spec_l31Side.f (a0_0 : Int) (a0_1 : Int) (a1_0 : Int) (a1_1 : Int) (a2_0 : Int) (a2_1 : Int) : Option (Int) := (spec_l2Step.f a0_0 a0_1 a1_0 a1_1).bind fun bt308 => ((spec_l2Step.f a0_0 a0_1 a2_0 a2_1).bind fun bt310 => ((spec_l2Cross.f bt308.1 bt308.2 bt310.1 bt310.2).bind fun t312 => ((spec_l1Sign.f t312).bind fun t313 => (some t313))))
def spec_l31Side.T1 : Bool × List (List Nat × List Nat) := (true,[([],[]),([],[]),([0,1],[0,1]),([],[]),([],[]),([3,4,2],[3,4]),([2,5,5],[2,5]),([6,6],[6]),([7,7,0,1,2,3,4,5,6,7],[7])])
def spec_l31Side.B1 : List Nat := [0,0,3,0,0,31,63,127,255]
theorem spec_l31Side.tab1 : rtab .any (opsOf Try.f55 1) = spec_l31Side.T1 := by kernel_rfl
theorem spec_l31Side.bits1 : waitsOk spec_l31Side.T1.2 spec_l31Side.B1 = true := by kernel_rfl
set_option maxHeartbeats 8000000 in
set_option maxRecDepth 100000 in
theorem spec_l31Side.calls (a0_0 : Int) (a0_1 : Int) (a1_0 : Int) (a1_1 : Int) (a2_0 : Int) (a2_1 : Int) (r : Int) (w : World) (h : spec_l31Side.f a0_0 a0_1 a1_0 a1_1 a2_0 a2_1 = some r) :
  Calls Try.prog 55 #[.agg #[.int .i64 a0_0, .int .i64 a0_1], .agg #[.int .i64 a1_0, .int .i64 a1_1], .agg #[.int .i64 a2_0, .int .i64 a2_1]] w fun e w' => e = .returned (.int .i64 r) ∧ Below w.heap.size w w' := by
 have hu33 := Try.underlying33
 have HB := Aside0.mk (Below.refl w.heap.size w)
 have H : ((spec_l2Step.f a0_0 a0_1 a1_0 a1_1).bind fun bt308 => ((spec_l2Step.f a0_0 a0_1 a2_0 a2_1).bind fun bt310 => ((spec_l2Cross.f bt308.1 bt308.2 bt310.1 bt310.2).bind fun t312 => ((spec_l1Sign.f t312).bind fun t313 => (some t313))))) = some r := h
 clear h
 replace H := Option.bind_eq_some_iff.mp H
 obtain ⟨⟨t308, t309⟩, A40, H⟩ := H
 replace H : ((spec_l2Step.f a0_0 a0_1 a2_0 a2_1).bind fun bt310 => ((spec_l2Cross.f t308 t309 bt310.1 bt310.2).bind fun t312 => ((spec_l1Sign.f t312).bind fun t313 => (some t313)))) = some r := H
 have A4 := Aside0.mk A40
 clear A40
 replace H := Option.bind_eq_some_iff.mp H
 obtain ⟨⟨t310, t311⟩, A50, H⟩ := H
 replace H : ((spec_l2Cross.f t308 t309 t310 t311).bind fun t312 => ((spec_l1Sign.f t312).bind fun t313 => (some t313))) = some r := H
 have A5 := Aside0.mk A50
 clear A50
 replace H := Option.bind_eq_some_iff.mp H
 obtain ⟨t312, A60, H⟩ := H
 replace H : ((spec_l1Sign.f t312).bind fun t313 => (some t313)) = some r := H
 have A6 := Aside0.mk A60
 clear A60
 replace H := Option.bind_eq_some_iff.mp H
 obtain ⟨t313, A70, H⟩ := H
 replace H : (some t313) = some r := H
 have A7 := Aside0.mk A70
 clear A70
 obtain rfl := Option.some.inj H
 go_enter Try.func55, Try.ntmps55
 try go_wp2_with (first | ((with_reducible refine gate_dst (N := 3) rfl ?_); refine bx_ 3 (cs := #[.int .i64 a0_0, .int .i64 a0_1]) (t := 33) ?_; intro gb305 hg w8 hbox hb; have n0_ := Aside0.mk (below_step (lb HB.out) hb); have n1_ := Aside0.mk (hbox); have n2_ := Aside0.mk ((by rw [hg]; exact (below_size (lb HB.out)) : w.heap.size ≤ gb305)); have n3_ := Aside0.mk ((by rw [hg]; exact (below_size (lb HB.out)) : w.heap.size ≤ gb305)); clear HB; have HB := n0_; have BK305 := n1_; have GW305 := n2_; have GE305 := n3_; clear n0_ n1_ n2_ n3_; clear hb hbox hg) | ((with_reducible refine gate_dst (N := 4) rfl ?_); refine bx_ 4 (cs := #[.int .i64 a1_0, .int .i64 a1_1]) (t := 33) ?_; intro gb306 hg w9 hbox hb; have n0_ := Aside0.mk (blk_below (bf BK305.out) hb); have n1_ := Aside0.mk (below_step (lb HB.out) hb); have n2_ := Aside0.mk (hbox); have n3_ := Aside0.mk ((by rw [hg]; exact (below_size (lb HB.out)) : w.heap.size ≤ gb306)); have n4_ := Aside0.mk ((by rw [hg]; exact (below_size (lb HB.out)) : w.heap.size ≤ gb306)); have n5_ := Aside0.mk ((by rw [hg]; exact Nat.ne_of_lt (blk_lt (bf BK305.out)) : gb305 ≠ gb306)); have n6_ := Aside0.mk ((by rw [hg]; exact Nat.ne_of_gt (blk_lt (bf BK305.out)) : gb306 ≠ gb305)); clear BK305; clear HB; have BK305 := n0_; have HB := n1_; have BK306 := n2_; have GW306 := n3_; have GE306 := n4_; have NB305_306 := n5_; have NB306_305 := n6_; clear n0_ n1_ n2_ n3_ n4_ n5_ n6_; clear hb hbox hg) | ((with_reducible refine gate_dst (N := 5) rfl ?_); refine bx_ 5 (cs := #[.int .i64 a2_0, .int .i64 a2_1]) (t := 33) ?_; intro gb307 hg w10 hbox hb; have n0_ := Aside0.mk (blk_below (bf BK305.out) hb); have n1_ := Aside0.mk (blk_below (bf BK306.out) hb); have n2_ := Aside0.mk (below_step (lb HB.out) hb); have n3_ := Aside0.mk (hbox); have n4_ := Aside0.mk ((by rw [hg]; exact (below_size (lb HB.out)) : w.heap.size ≤ gb307)); have n5_ := Aside0.mk ((by rw [hg]; exact (below_size (lb HB.out)) : w.heap.size ≤ gb307)); have n6_ := Aside0.mk ((by rw [hg]; exact Nat.ne_of_lt (blk_lt (bf BK305.out)) : gb305 ≠ gb307)); have n7_ := Aside0.mk ((by rw [hg]; exact Nat.ne_of_gt (blk_lt (bf BK305.out)) : gb307 ≠ gb305)); have n8_ := Aside0.mk ((by rw [hg]; exact Nat.ne_of_lt (blk_lt (bf BK306.out)) : gb306 ≠ gb307)); have n9_ := Aside0.mk ((by rw [hg]; exact Nat.ne_of_gt (blk_lt (bf BK306.out)) : gb307 ≠ gb306)); clear BK305; clear BK306; clear HB; have BK305 := n0_; have BK306 := n1_; have HB := n2_; have BK307 := n3_; have GW307 := n4_; have GE307 := n5_; have NB305_307 := n6_; have NB307_305 := n7_; have NB306_307 := n8_; have NB307_306 := n9_; clear n0_ n1_ n2_ n3_ n4_ n5_ n6_ n7_ n8_ n9_; clear hb hbox hg))
 have n0_ := Aside0.mk (blk_drew BK305.out)
 have n1_ := Aside0.mk (blk_drew BK306.out)
 have n2_ := Aside0.mk (blk_drew BK307.out)
 have n3_ := Aside0.mk (below_drew1 HB.out)
 clear BK305 BK306 BK307 HB
 have BK305 := n0_
 have BK306 := n1_
 have BK307 := n2_
 have HB := n3_
 clear n0_ n1_ n2_ n3_
 refine start_ (n := 9) (S := fun w' => w'.cell? ⟨gb305, 0, none⟩ = some (.int .i64 a0_0) ∧ w'.cell? ⟨gb305, 1, none⟩ = some (.int .i64 a0_1) ∧ w'.cell? ⟨gb306, 0, none⟩ = some (.int .i64 a1_0) ∧ w'.cell? ⟨gb306, 1, none⟩ = some (.int .i64 a1_1) ∧ w'.cell? ⟨gb307, 0, none⟩ = some (.int .i64 a2_0) ∧ w'.cell? ⟨gb307, 1, none⟩ = some (.int .i64 a2_1)) (ds := []) #[false,false,false,false,false,false,false,false,false] (by kernel_rfl) rfl rfl ⟨(blk_cell BK305.out 0).trans rfl, (blk_cell BK305.out 1).trans rfl, (blk_cell BK306.out 0).trans rfl, (blk_cell BK306.out 1).trans rfl, (blk_cell BK307.out 0).trans rfl, (blk_cell BK307.out 1).trans rfl⟩ (fun hHeld => ?_); refine with_tabW spec_l31Side.tab1 spec_l31Side.bits1 (fun HT_ HW_ => ?_)
 generalize w10.drew = w11 at BK305 BK306 BK307 HB hHeld ⊢
 refine tq_ 0 (some 7) ?_
 refine tq_ 1 (some 8) ?_
 refine tq_ 3 (some 10) ?_
 refine tq_ 4 (some 11) ?_
 refine one_ (i := 2) (N := some 9) #[true,true,true,true,true,false,false,false,false] rfl rfl (one_of HT_.out (by kernel_rfl)) (by decide) (fun K hK => ?_)
 refine goes_ Try.func84 (by kernel_rfl) rfl #[.agg #[.int .i64 a0_0, .int .i64 a0_1], .agg #[.int .i64 a1_0, .int .i64 a1_1]] (by rfl) rfl rfl al ?_
 with_reducible refine (spec_l2Step.calls a0_0 a0_1 a1_0 a1_1 t308 t309 _ A4.out).mono ?_
 rintro e w12 ⟨rfl, hb⟩
 refine ⟨_, rfl, ?_⟩
 have n0_ := Aside0.mk (blk_below (bf BK305.out) hb)
 have n1_ := Aside0.mk (blk_below (bf BK306.out) hb)
 have n2_ := Aside0.mk (blk_below (bf BK307.out) hb)
 have n3_ := Aside0.mk (below_step (lb HB.out) hb)
 clear BK305 BK306 BK307 HB
 have BK305 := n0_
 have BK306 := n1_
 have BK307 := n2_
 have HB := n3_
 clear n0_ n1_ n2_ n3_
 (try clear hb);(try clear hb2);(try clear hk);(try clear hi)
 refine hK.out _ _ ⟨(blk_cell BK305.out 0).trans rfl, (blk_cell BK305.out 1).trans rfl, (blk_cell BK306.out 0).trans rfl, (blk_cell BK306.out 1).trans rfl, (blk_cell BK307.out 0).trans rfl, (blk_cell BK307.out 1).trans rfl⟩ (fun hHeld => ?_)
 clear hK K
 refine norm_ (a' := ?_) ?_ ?_
 rotate_left
 ·show Act.put _ (some 9) _ = _
  simp only [Act.put, List.setIfInBounds_toArray, List.set_cons_zero, List.set_cons_succ, i64_w, i32_w]
  rfl
 refine one_ (i := 5) (N := some 12) #[true,true,true,true,true,true,false,false,false] rfl rfl (one_of HT_.out (by kernel_rfl)) (by decide) (fun K hK => ?_)
 refine goes_ Try.func84 (by kernel_rfl) rfl #[.agg #[.int .i64 a0_0, .int .i64 a0_1], .agg #[.int .i64 a2_0, .int .i64 a2_1]] (by rfl) rfl rfl al ?_
 with_reducible refine (spec_l2Step.calls a0_0 a0_1 a2_0 a2_1 t310 t311 _ A5.out).mono ?_
 rintro e w13 ⟨rfl, hb⟩
 refine ⟨_, rfl, ?_⟩
 have n0_ := Aside0.mk (blk_below (bf BK305.out) hb)
 have n1_ := Aside0.mk (blk_below (bf BK306.out) hb)
 have n2_ := Aside0.mk (blk_below (bf BK307.out) hb)
 have n3_ := Aside0.mk (below_step (lb HB.out) hb)
 clear BK305 BK306 BK307 HB
 have BK305 := n0_
 have BK306 := n1_
 have BK307 := n2_
 have HB := n3_
 clear n0_ n1_ n2_ n3_
 (try clear hb);(try clear hb2);(try clear hk);(try clear hi)
 refine hK.out _ _ ⟨(blk_cell BK305.out 0).trans rfl, (blk_cell BK305.out 1).trans rfl, (blk_cell BK306.out 0).trans rfl, (blk_cell BK306.out 1).trans rfl, (blk_cell BK307.out 0).trans rfl, (blk_cell BK307.out 1).trans rfl⟩ (fun hHeld => ?_)
 clear hK K
 refine norm_ (a' := ?_) ?_ ?_
 rotate_left
 ·show Act.put _ (some 12) _ = _
  simp only [Act.put, List.setIfInBounds_toArray, List.set_cons_zero, List.set_cons_succ, i64_w, i32_w]
  rfl
 refine one_ (i := 6) (N := some 13) #[true,true,true,true,true,true,true,false,false] rfl rfl (one_of HT_.out (by kernel_rfl)) (by decide) (fun K hK => ?_)
 refine goes_ Try.func78 (by kernel_rfl) rfl #[.agg #[.int .i64 t308, .int .i64 t309], .agg #[.int .i64 t310, .int .i64 t311]] (by rfl) rfl rfl al ?_
 with_reducible refine (spec_l2Cross.calls t308 t309 t310 t311 t312 _ A6.out).mono ?_
 rintro e w14 ⟨rfl, hb⟩
 refine ⟨_, rfl, ?_⟩
 have n0_ := Aside0.mk (blk_below (bf BK305.out) hb)
 have n1_ := Aside0.mk (blk_below (bf BK306.out) hb)
 have n2_ := Aside0.mk (blk_below (bf BK307.out) hb)
 have n3_ := Aside0.mk (below_step (lb HB.out) hb)
 clear BK305 BK306 BK307 HB
 have BK305 := n0_
 have BK306 := n1_
 have BK307 := n2_
 have HB := n3_
 clear n0_ n1_ n2_ n3_
 (try clear hb);(try clear hb2);(try clear hk);(try clear hi)
 refine hK.out _ _ ⟨(blk_cell BK305.out 0).trans rfl, (blk_cell BK305.out 1).trans rfl, (blk_cell BK306.out 0).trans rfl, (blk_cell BK306.out 1).trans rfl, (blk_cell BK307.out 0).trans rfl, (blk_cell BK307.out 1).trans rfl⟩ (fun hHeld => ?_)
 clear hK K
 refine norm_ (a' := ?_) ?_ ?_
 rotate_left
 ·show Act.put _ (some 13) _ = _
  simp only [Act.put, List.setIfInBounds_toArray, List.set_cons_zero, List.set_cons_succ, i64_w, i32_w]
  rfl
 refine one_ (i := 7) (N := some 14) #[true,true,true,true,true,true,true,true,false] rfl rfl (one_of HT_.out (by kernel_rfl)) (by decide) (fun K hK => ?_)
 refine goes_ Try.func83 (by kernel_rfl) rfl #[.int .i64 t312] (by rfl) rfl rfl al ?_
 with_reducible refine (spec_l1Sign.calls t312 t313 _ A7.out).mono ?_
 rintro e w15 ⟨rfl, hb⟩
 refine ⟨_, rfl, ?_⟩
 have n0_ := Aside0.mk (blk_below (bf BK305.out) hb)
 have n1_ := Aside0.mk (blk_below (bf BK306.out) hb)
 have n2_ := Aside0.mk (blk_below (bf BK307.out) hb)
 have n3_ := Aside0.mk (below_step (lb HB.out) hb)
 clear BK305 BK306 BK307 HB
 have BK305 := n0_
 have BK306 := n1_
 have BK307 := n2_
 have HB := n3_
 clear n0_ n1_ n2_ n3_
 (try clear hb);(try clear hb2);(try clear hk);(try clear hi)
 refine hK.out _ _ ⟨(blk_cell BK305.out 0).trans rfl, (blk_cell BK305.out 1).trans rfl, (blk_cell BK306.out 0).trans rfl, (blk_cell BK306.out 1).trans rfl, (blk_cell BK307.out 0).trans rfl, (blk_cell BK307.out 1).trans rfl⟩ (fun hHeld => ?_)
 clear hK K
 refine norm_ (a' := ?_) ?_ ?_
 rotate_left
 ·show Act.put _ (some 14) _ = _
  simp only [Act.put, List.setIfInBounds_toArray, List.set_cons_zero, List.set_cons_succ, i64_w, i32_w]
  rfl
 refine pq_ 8 (some 6) ?_
 refine done_ (done_of HT_.out (by kernel_rfl)) ?_
 try go_wp2
 go_ret
 exact ⟨er, lb HB.out⟩
def spec_l2On.f (a0_0 : Int) (a0_1 : Int) (a1_0 : Int) (a1_1 : Int) (a2_0 : Int) (a2_1 : Int) : Option (Bool) := (spec_l2Step.f a0_0 a0_1 a1_0 a1_1).bind fun bt317 => ((spec_l2Step.f a0_0 a0_1 a2_0 a2_1).bind fun bt319 => ((spec_l2Cross.f bt317.1 bt317.2 bt319.1 bt319.2).bind fun t321 => (if t321 = 0 then ((spec_l6In.f a2_0 (mn a0_0 a1_0) (mx a0_0 a1_0)).bind fun t322 => (if t322 = true then ((spec_l6In.f a2_1 (mn a0_1 a1_1) (mx a0_1 a1_1)).bind fun t323 => (some t323)) else (some false))) else (some false))))
def spec_l2On.T1 : Bool × List (List Nat × List Nat) := (true,[([],[]),([],[]),([0,1],[0,1]),([],[]),([],[]),([3,4,2],[3,4]),([2,5,5],[2,5]),([6],[6])])
def spec_l2On.B1 : List Nat := [0,0,3,0,0,31,63,127]
theorem spec_l2On.tab1 : rtab .any (opsOf Try.f87 1) = spec_l2On.T1 := by kernel_rfl
theorem spec_l2On.bits1 : waitsOk spec_l2On.T1.2 spec_l2On.B1 = true := by kernel_rfl
set_option maxHeartbeats 8000000 in
set_option maxRecDepth 100000 in
theorem spec_l2On.calls (a0_0 : Int) (a0_1 : Int) (a1_0 : Int) (a1_1 : Int) (a2_0 : Int) (a2_1 : Int) (r : Bool) (w : World) (h : spec_l2On.f a0_0 a0_1 a1_0 a1_1 a2_0 a2_1 = some r) :
  Calls Try.prog 87 #[.agg #[.int .i64 a0_0, .int .i64 a0_1], .agg #[.int .i64 a1_0, .int .i64 a1_1], .agg #[.int .i64 a2_0, .int .i64 a2_1]] w fun e w' => e = .returned (.bool r) ∧ Below w.heap.size w w' := by
 have hu33 := Try.underlying33
 have HB := Aside0.mk (Below.refl w.heap.size w)
 have H : ((spec_l2Step.f a0_0 a0_1 a1_0 a1_1).bind fun bt317 => ((spec_l2Step.f a0_0 a0_1 a2_0 a2_1).bind fun bt319 => ((spec_l2Cross.f bt317.1 bt317.2 bt319.1 bt319.2).bind fun t321 => (if t321 = 0 then ((spec_l6In.f a2_0 (mn a0_0 a1_0) (mx a0_0 a1_0)).bind fun t322 => (if t322 = true then ((spec_l6In.f a2_1 (mn a0_1 a1_1) (mx a0_1 a1_1)).bind fun t323 => (some t323)) else (some false))) else (some false))))) = some r := h
 clear h
 replace H := Option.bind_eq_some_iff.mp H
 obtain ⟨⟨t317, t318⟩, A40, H⟩ := H
 replace H : ((spec_l2Step.f a0_0 a0_1 a2_0 a2_1).bind fun bt319 => ((spec_l2Cross.f t317 t318 bt319.1 bt319.2).bind fun t321 => (if t321 = 0 then ((spec_l6In.f a2_0 (mn a0_0 a1_0) (mx a0_0 a1_0)).bind fun t322 => (if t322 = true then ((spec_l6In.f a2_1 (mn a0_1 a1_1) (mx a0_1 a1_1)).bind fun t323 => (some t323)) else (some false))) else (some false)))) = some r := H
 have A4 := Aside0.mk A40
 clear A40
 replace H := Option.bind_eq_some_iff.mp H
 obtain ⟨⟨t319, t320⟩, A50, H⟩ := H
 replace H : ((spec_l2Cross.f t317 t318 t319 t320).bind fun t321 => (if t321 = 0 then ((spec_l6In.f a2_0 (mn a0_0 a1_0) (mx a0_0 a1_0)).bind fun t322 => (if t322 = true then ((spec_l6In.f a2_1 (mn a0_1 a1_1) (mx a0_1 a1_1)).bind fun t323 => (some t323)) else (some false))) else (some false))) = some r := H
 have A5 := Aside0.mk A50
 clear A50
 replace H := Option.bind_eq_some_iff.mp H
 obtain ⟨t321, A60, H⟩ := H
 replace H : (if t321 = 0 then ((spec_l6In.f a2_0 (mn a0_0 a1_0) (mx a0_0 a1_0)).bind fun t322 => (if t322 = true then ((spec_l6In.f a2_1 (mn a0_1 a1_1) (mx a0_1 a1_1)).bind fun t323 => (some t323)) else (some false))) else (some false)) = some r := H
 have A6 := Aside0.mk A60
 clear A60
 by_cases c7 : t321 = 0
 ·rw [if_pos c7] at H
  have c7b0 : (t321 == 0) = true := beq_iff_eq.mpr c7
  have c7b1 : (t321 != 0) = false := bne_eq_false_iff_eq.mpr c7
  clear c7
  obtain ⟨ji8, hji8⟩ : ∃ j_ : Int, (mn a0_0 a1_0) = j_ := ⟨_, rfl⟩
  replace H : ((spec_l6In.f a2_0 (ji8) (mx a0_0 a1_0)).bind fun t322 => (if t322 = true then ((spec_l6In.f a2_1 (mn a0_1 a1_1) (mx a0_1 a1_1)).bind fun t323 => (some t323)) else (some false))) = some r := by first | (rw [hji8] at H; exact H) | (simp only [hji8] at H ⊢; exact H)
  (try rw [hji8] at A4)
  (try rw [hji8] at A5)
  (try rw [hji8] at A6)
  have hji8_ : (if a1_0 < a0_0 then a1_0 else a0_0) = ji8 := hji8
  obtain ⟨ji9, hji9⟩ : ∃ j_ : Int, (mx a0_0 a1_0) = j_ := ⟨_, rfl⟩
  replace H : ((spec_l6In.f a2_0 (ji8) (ji9)).bind fun t322 => (if t322 = true then ((spec_l6In.f a2_1 (mn a0_1 a1_1) (mx a0_1 a1_1)).bind fun t323 => (some t323)) else (some false))) = some r := by first | (rw [hji9] at H; exact H) | (simp only [hji9] at H ⊢; exact H)
  (try rw [hji9] at A4)
  (try rw [hji9] at A5)
  (try rw [hji9] at A6)
  have hji9_ : (if a0_0 < a1_0 then a1_0 else a0_0) = ji9 := hji9
  replace H := Option.bind_eq_some_iff.mp H
  obtain ⟨t322, A100, H⟩ := H
  replace H : (if t322 = true then ((spec_l6In.f a2_1 (mn a0_1 a1_1) (mx a0_1 a1_1)).bind fun t323 => (some t323)) else (some false)) = some r := H
  have A10 := Aside0.mk A100
  clear A100
  by_cases c11 : t322 = true
  ·subst c11
   have H1 : ((spec_l6In.f a2_1 (mn a0_1 a1_1) (mx a0_1 a1_1)).bind fun t323 => (some t323)) = some r := by rw [if_pos rfl] at H; exact H
   clear H
   have H := H1
   clear H1
   obtain ⟨ji12, hji12⟩ : ∃ j_ : Int, (mn a0_1 a1_1) = j_ := ⟨_, rfl⟩
   replace H : ((spec_l6In.f a2_1 (ji12) (mx a0_1 a1_1)).bind fun t323 => (some t323)) = some r := by first | (rw [hji12] at H; exact H) | (simp only [hji12] at H ⊢; exact H)
   (try rw [hji12] at A4)
   (try rw [hji12] at A5)
   (try rw [hji12] at A6)
   (try rw [hji12] at A10)
   have hji12_ : (if a1_1 < a0_1 then a1_1 else a0_1) = ji12 := hji12
   obtain ⟨ji13, hji13⟩ : ∃ j_ : Int, (mx a0_1 a1_1) = j_ := ⟨_, rfl⟩
   replace H : ((spec_l6In.f a2_1 (ji12) (ji13)).bind fun t323 => (some t323)) = some r := by first | (rw [hji13] at H; exact H) | (simp only [hji13] at H ⊢; exact H)
   (try rw [hji13] at A4)
   (try rw [hji13] at A5)
   (try rw [hji13] at A6)
   (try rw [hji13] at A10)
   have hji13_ : (if a0_1 < a1_1 then a1_1 else a0_1) = ji13 := hji13
   replace H := Option.bind_eq_some_iff.mp H
   obtain ⟨t323, A140, H⟩ := H
   replace H : (some t323) = some r := H
   have A14 := Aside0.mk A140
   clear A140
   obtain rfl := Option.some.inj H
   go_enter Try.func87, Try.ntmps87
   try go_wp2_with (first | ((with_reducible refine gate_dst (N := 3) rfl ?_); (try (refine gate_guard (by rfl) ?_; dsimp only)); refine bx_ 3 (cs := #[.int .i64 a0_0, .int .i64 a0_1]) (t := 33) ?_; intro gb314 hg w15 hbox hb; have n0_ := Aside0.mk (below_step (lb HB.out) hb); have n1_ := Aside0.mk (hbox); have n2_ := Aside0.mk ((by rw [hg]; exact (below_size (lb HB.out)) : w.heap.size ≤ gb314)); have n3_ := Aside0.mk ((by rw [hg]; exact (below_size (lb HB.out)) : w.heap.size ≤ gb314)); clear HB; have HB := n0_; have BK314 := n1_; have GW314 := n2_; have GE314 := n3_; clear n0_ n1_ n2_ n3_; clear hb hbox hg) | ((with_reducible refine gate_dst (N := 4) rfl ?_); (try (refine gate_guard (by rfl) ?_; dsimp only)); refine bx_ 4 (cs := #[.int .i64 a1_0, .int .i64 a1_1]) (t := 33) ?_; intro gb315 hg w16 hbox hb; have n0_ := Aside0.mk (blk_below (bf BK314.out) hb); have n1_ := Aside0.mk (below_step (lb HB.out) hb); have n2_ := Aside0.mk (hbox); have n3_ := Aside0.mk ((by rw [hg]; exact (below_size (lb HB.out)) : w.heap.size ≤ gb315)); have n4_ := Aside0.mk ((by rw [hg]; exact (below_size (lb HB.out)) : w.heap.size ≤ gb315)); have n5_ := Aside0.mk ((by rw [hg]; exact Nat.ne_of_lt (blk_lt (bf BK314.out)) : gb314 ≠ gb315)); have n6_ := Aside0.mk ((by rw [hg]; exact Nat.ne_of_gt (blk_lt (bf BK314.out)) : gb315 ≠ gb314)); clear BK314; clear HB; have BK314 := n0_; have HB := n1_; have BK315 := n2_; have GW315 := n3_; have GE315 := n4_; have NB314_315 := n5_; have NB315_314 := n6_; clear n0_ n1_ n2_ n3_ n4_ n5_ n6_; clear hb hbox hg) | ((with_reducible refine gate_dst (N := 5) rfl ?_); (try (refine gate_guard (by rfl) ?_; dsimp only)); refine bx_ 5 (cs := #[.int .i64 a2_0, .int .i64 a2_1]) (t := 33) ?_; intro gb316 hg w17 hbox hb; have n0_ := Aside0.mk (blk_below (bf BK314.out) hb); have n1_ := Aside0.mk (blk_below (bf BK315.out) hb); have n2_ := Aside0.mk (below_step (lb HB.out) hb); have n3_ := Aside0.mk (hbox); have n4_ := Aside0.mk ((by rw [hg]; exact (below_size (lb HB.out)) : w.heap.size ≤ gb316)); have n5_ := Aside0.mk ((by rw [hg]; exact (below_size (lb HB.out)) : w.heap.size ≤ gb316)); have n6_ := Aside0.mk ((by rw [hg]; exact Nat.ne_of_lt (blk_lt (bf BK314.out)) : gb314 ≠ gb316)); have n7_ := Aside0.mk ((by rw [hg]; exact Nat.ne_of_gt (blk_lt (bf BK314.out)) : gb316 ≠ gb314)); have n8_ := Aside0.mk ((by rw [hg]; exact Nat.ne_of_lt (blk_lt (bf BK315.out)) : gb315 ≠ gb316)); have n9_ := Aside0.mk ((by rw [hg]; exact Nat.ne_of_gt (blk_lt (bf BK315.out)) : gb316 ≠ gb315)); clear BK314; clear BK315; clear HB; have BK314 := n0_; have BK315 := n1_; have HB := n2_; have BK316 := n3_; have GW316 := n4_; have GE316 := n5_; have NB314_316 := n6_; have NB316_314 := n7_; have NB315_316 := n8_; have NB316_315 := n9_; clear n0_ n1_ n2_ n3_ n4_ n5_ n6_ n7_ n8_ n9_; clear hb hbox hg))
   have n0_ := Aside0.mk (blk_drew BK314.out)
   have n1_ := Aside0.mk (blk_drew BK315.out)
   have n2_ := Aside0.mk (blk_drew BK316.out)
   have n3_ := Aside0.mk (below_drew1 HB.out)
   clear BK314 BK315 BK316 HB
   have BK314 := n0_
   have BK315 := n1_
   have BK316 := n2_
   have HB := n3_
   clear n0_ n1_ n2_ n3_
   refine start_ (n := 8) (S := fun w' => w'.cell? ⟨gb314, 0, none⟩ = some (.int .i64 a0_0) ∧ w'.cell? ⟨gb314, 1, none⟩ = some (.int .i64 a0_1) ∧ w'.cell? ⟨gb315, 0, none⟩ = some (.int .i64 a1_0) ∧ w'.cell? ⟨gb315, 1, none⟩ = some (.int .i64 a1_1) ∧ w'.cell? ⟨gb316, 0, none⟩ = some (.int .i64 a2_0) ∧ w'.cell? ⟨gb316, 1, none⟩ = some (.int .i64 a2_1)) (ds := []) #[false,false,false,false,false,false,false,false] (by kernel_rfl) rfl rfl ⟨(blk_cell BK314.out 0).trans rfl, (blk_cell BK314.out 1).trans rfl, (blk_cell BK315.out 0).trans rfl, (blk_cell BK315.out 1).trans rfl, (blk_cell BK316.out 0).trans rfl, (blk_cell BK316.out 1).trans rfl⟩ (fun hHeld => ?_); refine with_tabW spec_l2On.tab1 spec_l2On.bits1 (fun HT_ HW_ => ?_)
   generalize w17.drew = w18 at BK314 BK315 BK316 HB hHeld ⊢
   refine tq_ 0 (some 7) ?_
   refine tq_ 1 (some 8) ?_
   refine tq_ 3 (some 10) ?_
   refine tq_ 4 (some 11) ?_
   refine one_ (i := 2) (N := some 9) #[true,true,true,true,true,false,false,false] rfl rfl (one_of HT_.out (by kernel_rfl)) (by decide) (fun K hK => ?_)
   refine goes_ Try.func84 (by kernel_rfl) rfl #[.agg #[.int .i64 a0_0, .int .i64 a0_1], .agg #[.int .i64 a1_0, .int .i64 a1_1]] (by rfl) rfl rfl al ?_
   with_reducible refine (spec_l2Step.calls a0_0 a0_1 a1_0 a1_1 t317 t318 _ A4.out).mono ?_
   rintro e w19 ⟨rfl, hb⟩
   refine ⟨_, rfl, ?_⟩
   have n0_ := Aside0.mk (blk_below (bf BK314.out) hb)
   have n1_ := Aside0.mk (blk_below (bf BK315.out) hb)
   have n2_ := Aside0.mk (blk_below (bf BK316.out) hb)
   have n3_ := Aside0.mk (below_step (lb HB.out) hb)
   clear BK314 BK315 BK316 HB
   have BK314 := n0_
   have BK315 := n1_
   have BK316 := n2_
   have HB := n3_
   clear n0_ n1_ n2_ n3_
   (try clear hb);(try clear hb2);(try clear hk);(try clear hi)
   refine hK.out _ _ ⟨(blk_cell BK314.out 0).trans rfl, (blk_cell BK314.out 1).trans rfl, (blk_cell BK315.out 0).trans rfl, (blk_cell BK315.out 1).trans rfl, (blk_cell BK316.out 0).trans rfl, (blk_cell BK316.out 1).trans rfl⟩ (fun hHeld => ?_)
   clear hK K
   refine norm_ (a' := ?_) ?_ ?_
   rotate_left
   ·show Act.put _ (some 9) _ = _
    simp only [Act.put, List.setIfInBounds_toArray, List.set_cons_zero, List.set_cons_succ, i64_w, i32_w]
    rfl
   refine one_ (i := 5) (N := some 12) #[true,true,true,true,true,true,false,false] rfl rfl (one_of HT_.out (by kernel_rfl)) (by decide) (fun K hK => ?_)
   refine goes_ Try.func84 (by kernel_rfl) rfl #[.agg #[.int .i64 a0_0, .int .i64 a0_1], .agg #[.int .i64 a2_0, .int .i64 a2_1]] (by rfl) rfl rfl al ?_
   with_reducible refine (spec_l2Step.calls a0_0 a0_1 a2_0 a2_1 t319 t320 _ A5.out).mono ?_
   rintro e w20 ⟨rfl, hb⟩
   refine ⟨_, rfl, ?_⟩
   have n0_ := Aside0.mk (blk_below (bf BK314.out) hb)
   have n1_ := Aside0.mk (blk_below (bf BK315.out) hb)
   have n2_ := Aside0.mk (blk_below (bf BK316.out) hb)
   have n3_ := Aside0.mk (below_step (lb HB.out) hb)
   clear BK314 BK315 BK316 HB
   have BK314 := n0_
   have BK315 := n1_
   have BK316 := n2_
   have HB := n3_
   clear n0_ n1_ n2_ n3_
   (try clear hb);(try clear hb2);(try clear hk);(try clear hi)
   refine hK.out _ _ ⟨(blk_cell BK314.out 0).trans rfl, (blk_cell BK314.out 1).trans rfl, (blk_cell BK315.out 0).trans rfl, (blk_cell BK315.out 1).trans rfl, (blk_cell BK316.out 0).trans rfl, (blk_cell BK316.out 1).trans rfl⟩ (fun hHeld => ?_)
   clear hK K
   refine norm_ (a' := ?_) ?_ ?_
   rotate_left
   ·show Act.put _ (some 12) _ = _
    simp only [Act.put, List.setIfInBounds_toArray, List.set_cons_zero, List.set_cons_succ, i64_w, i32_w]
    rfl
   refine one_ (i := 6) (N := some 13) #[true,true,true,true,true,true,true,false] rfl rfl (one_of HT_.out (by kernel_rfl)) (by decide) (fun K hK => ?_)
   refine goes_ Try.func78 (by kernel_rfl) rfl #[.agg #[.int .i64 t317, .int .i64 t318], .agg #[.int .i64 t319, .int .i64 t320]] (by rfl) rfl rfl al ?_
   with_reducible refine (spec_l2Cross.calls t317 t318 t319 t320 t321 _ A6.out).mono ?_
   rintro e w21 ⟨rfl, hb⟩
   refine ⟨_, rfl, ?_⟩
   have n0_ := Aside0.mk (blk_below (bf BK314.out) hb)
   have n1_ := Aside0.mk (blk_below (bf BK315.out) hb)
   have n2_ := Aside0.mk (blk_below (bf BK316.out) hb)
   have n3_ := Aside0.mk (below_step (lb HB.out) hb)
   clear BK314 BK315 BK316 HB
   have BK314 := n0_
   have BK315 := n1_
   have BK316 := n2_
   have HB := n3_
   clear n0_ n1_ n2_ n3_
   (try clear hb);(try clear hb2);(try clear hk);(try clear hi)
   refine hK.out _ _ ⟨(blk_cell BK314.out 0).trans rfl, (blk_cell BK314.out 1).trans rfl, (blk_cell BK315.out 0).trans rfl, (blk_cell BK315.out 1).trans rfl, (blk_cell BK316.out 0).trans rfl, (blk_cell BK316.out 1).trans rfl⟩ (fun hHeld => ?_)
   clear hK K
   refine norm_ (a' := ?_) ?_ ?_
   rotate_left
   ·show Act.put _ (some 13) _ = _
    simp only [Act.put, List.setIfInBounds_toArray, List.set_cons_zero, List.set_cons_succ, i64_w, i32_w]
    rfl
   refine pq_ 7 (some 14) ?_
   refine done_ (done_of HT_.out (by kernel_rfl)) ?_
   have hnb22 := NB316_314.out
   have hnc22 := NB314_316.out
   have hnb23 := NB316_315.out
   have hnc23 := NB315_316.out
   have hcz24_0 : w21.cell? ⟨gb316, 0, none⟩ = some (.int .i64 a2_0) := (blk_cell BK316.out 0).trans rfl
   have hcz24_1 : w21.cell? ⟨gb316, 1, none⟩ = some (.int .i64 a2_1) := (blk_cell BK316.out 1).trans rfl
   have hfz24_0 := blk_frozen BK316.out 0
   have hfz24_1 := blk_frozen BK316.out 1
   have hnb25 := NB314_315.out
   have hnc25 := NB315_314.out
   have hcz26_0 : w21.cell? ⟨gb314, 0, none⟩ = some (.int .i64 a0_0) := (blk_cell BK314.out 0).trans rfl
   have hcz26_1 : w21.cell? ⟨gb314, 1, none⟩ = some (.int .i64 a0_1) := (blk_cell BK314.out 1).trans rfl
   have hfz26_0 := blk_frozen BK314.out 0
   have hfz26_1 := blk_frozen BK314.out 1
   have hcz27_0 : w21.cell? ⟨gb315, 0, none⟩ = some (.int .i64 a1_0) := (blk_cell BK315.out 0).trans rfl
   have hcz27_1 : w21.cell? ⟨gb315, 1, none⟩ = some (.int .i64 a1_1) := (blk_cell BK315.out 1).trans rfl
   have hfz27_0 := blk_frozen BK315.out 0
   have hfz27_1 := blk_frozen BK315.out 1
   try go_wp2_with (first | ((with_reducible refine gate_callee (f := 36) rfl ?_); refine goesL_ (some 27) rfl rfl Try.func36 (by kernel_rfl) rfl #[.int .i64 a2_0, .int .i64 ji8, .int .i64 ji9] rfl (by (try simp only [List.map_toArray, List.map_cons, List.map_nil]); first | done | (simp only [hji8, hji9]; rfl) | rfl | (simp only [List.length_drop, List.length_take]; rfl)) ?_; (with_reducible refine (spec_l6In.calls a2_0 ji8 ji9 true _ A10.out).mono ?_); rintro e w' ⟨rfl, ⟨nd, rfl⟩⟩; refine ⟨_, rfl, ?_⟩) | (go_at_call 36; (with_reducible refine (spec_l6In.calls a2_1 ji12 ji13 t323 _ A14.out).mono ?_); rintro e w' ⟨rfl, ⟨nd, rfl⟩⟩))
   go_ret
   exact ⟨by first | rfl | (simp [errW_none, errW_some] <;> rfl) | (simp only [← hji8, ← hji9, ← hji12, ← hji13]; first | rfl | (simp [errW_none, errW_some] <;> rfl)) | (simp [*, errW_none, errW_some] <;> rfl), lb HB.out⟩
  ·replace c11 := Bool.eq_false_iff.mpr c11
   subst c11
   have H1 : (some false) = some r := by rw [if_neg (show ¬ (false = true) by decide)] at H; exact H
   clear H
   have H := H1
   clear H1
   obtain rfl := Option.some.inj H
   go_enter Try.func87, Try.ntmps87
   try go_wp2_with (first | ((with_reducible refine gate_dst (N := 3) rfl ?_); (try (refine gate_guard (by rfl) ?_; dsimp only)); refine bx_ 3 (cs := #[.int .i64 a0_0, .int .i64 a0_1]) (t := 33) ?_; intro gb314 hg w28 hbox hb; have n0_ := Aside0.mk (below_step (lb HB.out) hb); have n1_ := Aside0.mk (hbox); have n2_ := Aside0.mk ((by rw [hg]; exact (below_size (lb HB.out)) : w.heap.size ≤ gb314)); have n3_ := Aside0.mk ((by rw [hg]; exact (below_size (lb HB.out)) : w.heap.size ≤ gb314)); clear HB; have HB := n0_; have BK314 := n1_; have GW314 := n2_; have GE314 := n3_; clear n0_ n1_ n2_ n3_; clear hb hbox hg) | ((with_reducible refine gate_dst (N := 4) rfl ?_); (try (refine gate_guard (by rfl) ?_; dsimp only)); refine bx_ 4 (cs := #[.int .i64 a1_0, .int .i64 a1_1]) (t := 33) ?_; intro gb315 hg w29 hbox hb; have n0_ := Aside0.mk (blk_below (bf BK314.out) hb); have n1_ := Aside0.mk (below_step (lb HB.out) hb); have n2_ := Aside0.mk (hbox); have n3_ := Aside0.mk ((by rw [hg]; exact (below_size (lb HB.out)) : w.heap.size ≤ gb315)); have n4_ := Aside0.mk ((by rw [hg]; exact (below_size (lb HB.out)) : w.heap.size ≤ gb315)); have n5_ := Aside0.mk ((by rw [hg]; exact Nat.ne_of_lt (blk_lt (bf BK314.out)) : gb314 ≠ gb315)); have n6_ := Aside0.mk ((by rw [hg]; exact Nat.ne_of_gt (blk_lt (bf BK314.out)) : gb315 ≠ gb314)); clear BK314; clear HB; have BK314 := n0_; have HB := n1_; have BK315 := n2_; have GW315 := n3_; have GE315 := n4_; have NB314_315 := n5_; have NB315_314 := n6_; clear n0_ n1_ n2_ n3_ n4_ n5_ n6_; clear hb hbox hg) | ((with_reducible refine gate_dst (N := 5) rfl ?_); (try (refine gate_guard (by rfl) ?_; dsimp only)); refine bx_ 5 (cs := #[.int .i64 a2_0, .int .i64 a2_1]) (t := 33) ?_; intro gb316 hg w30 hbox hb; have n0_ := Aside0.mk (blk_below (bf BK314.out) hb); have n1_ := Aside0.mk (blk_below (bf BK315.out) hb); have n2_ := Aside0.mk (below_step (lb HB.out) hb); have n3_ := Aside0.mk (hbox); have n4_ := Aside0.mk ((by rw [hg]; exact (below_size (lb HB.out)) : w.heap.size ≤ gb316)); have n5_ := Aside0.mk ((by rw [hg]; exact (below_size (lb HB.out)) : w.heap.size ≤ gb316)); have n6_ := Aside0.mk ((by rw [hg]; exact Nat.ne_of_lt (blk_lt (bf BK314.out)) : gb314 ≠ gb316)); have n7_ := Aside0.mk ((by rw [hg]; exact Nat.ne_of_gt (blk_lt (bf BK314.out)) : gb316 ≠ gb314)); have n8_ := Aside0.mk ((by rw [hg]; exact Nat.ne_of_lt (blk_lt (bf BK315.out)) : gb315 ≠ gb316)); have n9_ := Aside0.mk ((by rw [hg]; exact Nat.ne_of_gt (blk_lt (bf BK315.out)) : gb316 ≠ gb315)); clear BK314; clear BK315; clear HB; have BK314 := n0_; have BK315 := n1_; have HB := n2_; have BK316 := n3_; have GW316 := n4_; have GE316 := n5_; have NB314_316 := n6_; have NB316_314 := n7_; have NB315_316 := n8_; have NB316_315 := n9_; clear n0_ n1_ n2_ n3_ n4_ n5_ n6_ n7_ n8_ n9_; clear hb hbox hg))
   have n0_ := Aside0.mk (blk_drew BK314.out)
   have n1_ := Aside0.mk (blk_drew BK315.out)
   have n2_ := Aside0.mk (blk_drew BK316.out)
   have n3_ := Aside0.mk (below_drew1 HB.out)
   clear BK314 BK315 BK316 HB
   have BK314 := n0_
   have BK315 := n1_
   have BK316 := n2_
   have HB := n3_
   clear n0_ n1_ n2_ n3_
   refine start_ (n := 8) (S := fun w' => w'.cell? ⟨gb314, 0, none⟩ = some (.int .i64 a0_0) ∧ w'.cell? ⟨gb314, 1, none⟩ = some (.int .i64 a0_1) ∧ w'.cell? ⟨gb315, 0, none⟩ = some (.int .i64 a1_0) ∧ w'.cell? ⟨gb315, 1, none⟩ = some (.int .i64 a1_1) ∧ w'.cell? ⟨gb316, 0, none⟩ = some (.int .i64 a2_0) ∧ w'.cell? ⟨gb316, 1, none⟩ = some (.int .i64 a2_1)) (ds := []) #[false,false,false,false,false,false,false,false] (by kernel_rfl) rfl rfl ⟨(blk_cell BK314.out 0).trans rfl, (blk_cell BK314.out 1).trans rfl, (blk_cell BK315.out 0).trans rfl, (blk_cell BK315.out 1).trans rfl, (blk_cell BK316.out 0).trans rfl, (blk_cell BK316.out 1).trans rfl⟩ (fun hHeld => ?_); refine with_tabW spec_l2On.tab1 spec_l2On.bits1 (fun HT_ HW_ => ?_)
   generalize w30.drew = w31 at BK314 BK315 BK316 HB hHeld ⊢
   refine tq_ 0 (some 7) ?_
   refine tq_ 1 (some 8) ?_
   refine tq_ 3 (some 10) ?_
   refine tq_ 4 (some 11) ?_
   refine one_ (i := 2) (N := some 9) #[true,true,true,true,true,false,false,false] rfl rfl (one_of HT_.out (by kernel_rfl)) (by decide) (fun K hK => ?_)
   refine goes_ Try.func84 (by kernel_rfl) rfl #[.agg #[.int .i64 a0_0, .int .i64 a0_1], .agg #[.int .i64 a1_0, .int .i64 a1_1]] (by rfl) rfl rfl al ?_
   with_reducible refine (spec_l2Step.calls a0_0 a0_1 a1_0 a1_1 t317 t318 _ A4.out).mono ?_
   rintro e w32 ⟨rfl, hb⟩
   refine ⟨_, rfl, ?_⟩
   have n0_ := Aside0.mk (blk_below (bf BK314.out) hb)
   have n1_ := Aside0.mk (blk_below (bf BK315.out) hb)
   have n2_ := Aside0.mk (blk_below (bf BK316.out) hb)
   have n3_ := Aside0.mk (below_step (lb HB.out) hb)
   clear BK314 BK315 BK316 HB
   have BK314 := n0_
   have BK315 := n1_
   have BK316 := n2_
   have HB := n3_
   clear n0_ n1_ n2_ n3_
   (try clear hb);(try clear hb2);(try clear hk);(try clear hi)
   refine hK.out _ _ ⟨(blk_cell BK314.out 0).trans rfl, (blk_cell BK314.out 1).trans rfl, (blk_cell BK315.out 0).trans rfl, (blk_cell BK315.out 1).trans rfl, (blk_cell BK316.out 0).trans rfl, (blk_cell BK316.out 1).trans rfl⟩ (fun hHeld => ?_)
   clear hK K
   refine norm_ (a' := ?_) ?_ ?_
   rotate_left
   ·show Act.put _ (some 9) _ = _
    simp only [Act.put, List.setIfInBounds_toArray, List.set_cons_zero, List.set_cons_succ, i64_w, i32_w]
    rfl
   refine one_ (i := 5) (N := some 12) #[true,true,true,true,true,true,false,false] rfl rfl (one_of HT_.out (by kernel_rfl)) (by decide) (fun K hK => ?_)
   refine goes_ Try.func84 (by kernel_rfl) rfl #[.agg #[.int .i64 a0_0, .int .i64 a0_1], .agg #[.int .i64 a2_0, .int .i64 a2_1]] (by rfl) rfl rfl al ?_
   with_reducible refine (spec_l2Step.calls a0_0 a0_1 a2_0 a2_1 t319 t320 _ A5.out).mono ?_
   rintro e w33 ⟨rfl, hb⟩
   refine ⟨_, rfl, ?_⟩
   have n0_ := Aside0.mk (blk_below (bf BK314.out) hb)
   have n1_ := Aside0.mk (blk_below (bf BK315.out) hb)
   have n2_ := Aside0.mk (blk_below (bf BK316.out) hb)
   have n3_ := Aside0.mk (below_step (lb HB.out) hb)
   clear BK314 BK315 BK316 HB
   have BK314 := n0_
   have BK315 := n1_
   have BK316 := n2_
   have HB := n3_
   clear n0_ n1_ n2_ n3_
   (try clear hb);(try clear hb2);(try clear hk);(try clear hi)
   refine hK.out _ _ ⟨(blk_cell BK314.out 0).trans rfl, (blk_cell BK314.out 1).trans rfl, (blk_cell BK315.out 0).trans rfl, (blk_cell BK315.out 1).trans rfl, (blk_cell BK316.out 0).trans rfl, (blk_cell BK316.out 1).trans rfl⟩ (fun hHeld => ?_)
   clear hK K
   refine norm_ (a' := ?_) ?_ ?_
   rotate_left
   ·show Act.put _ (some 12) _ = _
    simp only [Act.put, List.setIfInBounds_toArray, List.set_cons_zero, List.set_cons_succ, i64_w, i32_w]
    rfl
   refine one_ (i := 6) (N := some 13) #[true,true,true,true,true,true,true,false] rfl rfl (one_of HT_.out (by kernel_rfl)) (by decide) (fun K hK => ?_)
   refine goes_ Try.func78 (by kernel_rfl) rfl #[.agg #[.int .i64 t317, .int .i64 t318], .agg #[.int .i64 t319, .int .i64 t320]] (by rfl) rfl rfl al ?_
   with_reducible refine (spec_l2Cross.calls t317 t318 t319 t320 t321 _ A6.out).mono ?_
   rintro e w34 ⟨rfl, hb⟩
   refine ⟨_, rfl, ?_⟩
   have n0_ := Aside0.mk (blk_below (bf BK314.out) hb)
   have n1_ := Aside0.mk (blk_below (bf BK315.out) hb)
   have n2_ := Aside0.mk (blk_below (bf BK316.out) hb)
   have n3_ := Aside0.mk (below_step (lb HB.out) hb)
   clear BK314 BK315 BK316 HB
   have BK314 := n0_
   have BK315 := n1_
   have BK316 := n2_
   have HB := n3_
   clear n0_ n1_ n2_ n3_
   (try clear hb);(try clear hb2);(try clear hk);(try clear hi)
   refine hK.out _ _ ⟨(blk_cell BK314.out 0).trans rfl, (blk_cell BK314.out 1).trans rfl, (blk_cell BK315.out 0).trans rfl, (blk_cell BK315.out 1).trans rfl, (blk_cell BK316.out 0).trans rfl, (blk_cell BK316.out 1).trans rfl⟩ (fun hHeld => ?_)
   clear hK K
   refine norm_ (a' := ?_) ?_ ?_
   rotate_left
   ·show Act.put _ (some 13) _ = _
    simp only [Act.put, List.setIfInBounds_toArray, List.set_cons_zero, List.set_cons_succ, i64_w, i32_w]
    rfl
   refine pq_ 7 (some 14) ?_
   refine done_ (done_of HT_.out (by kernel_rfl)) ?_
   have hnb35 := NB316_314.out
   have hnc35 := NB314_316.out
   have hnb36 := NB316_315.out
   have hnc36 := NB315_316.out
   have hcz37_0 : w34.cell? ⟨gb316, 0, none⟩ = some (.int .i64 a2_0) := (blk_cell BK316.out 0).trans rfl
   have hcz37_1 : w34.cell? ⟨gb316, 1, none⟩ = some (.int .i64 a2_1) := (blk_cell BK316.out 1).trans rfl
   have hfz37_0 := blk_frozen BK316.out 0
   have hfz37_1 := blk_frozen BK316.out 1
   have hnb38 := NB314_315.out
   have hnc38 := NB315_314.out
   have hcz39_0 : w34.cell? ⟨gb314, 0, none⟩ = some (.int .i64 a0_0) := (blk_cell BK314.out 0).trans rfl
   have hcz39_1 : w34.cell? ⟨gb314, 1, none⟩ = some (.int .i64 a0_1) := (blk_cell BK314.out 1).trans rfl
   have hfz39_0 := blk_frozen BK314.out 0
   have hfz39_1 := blk_frozen BK314.out 1
   have hcz40_0 : w34.cell? ⟨gb315, 0, none⟩ = some (.int .i64 a1_0) := (blk_cell BK315.out 0).trans rfl
   have hcz40_1 : w34.cell? ⟨gb315, 1, none⟩ = some (.int .i64 a1_1) := (blk_cell BK315.out 1).trans rfl
   have hfz40_0 := blk_frozen BK315.out 0
   have hfz40_1 := blk_frozen BK315.out 1
   try go_wp2_with (first | ((with_reducible refine gate_callee (f := 36) rfl ?_); refine goesL_ (some 27) rfl rfl Try.func36 (by kernel_rfl) rfl #[.int .i64 a2_0, .int .i64 ji8, .int .i64 ji9] rfl (by (try simp only [List.map_toArray, List.map_cons, List.map_nil]); first | done | (simp only [hji8, hji9]; rfl) | rfl | (simp only [List.length_drop, List.length_take]; rfl)) ?_; (with_reducible refine (spec_l6In.calls a2_0 ji8 ji9 false _ A10.out).mono ?_); rintro e w' ⟨rfl, ⟨nd, rfl⟩⟩; refine ⟨_, rfl, ?_⟩))
   go_ret
   exact ⟨by first | rfl | (simp [errW_none, errW_some] <;> rfl) | (simp only [← hji8, ← hji9]; first | rfl | (simp [errW_none, errW_some] <;> rfl)) | (simp [*, errW_none, errW_some] <;> rfl), lb HB.out⟩
 ·rw [if_neg c7] at H
  have c7b0 : (t321 == 0) = false := beq_eq_false_iff_ne.mpr c7
  have c7b1 : (t321 != 0) = true := bne_iff_ne.mpr c7
  obtain rfl := Option.some.inj H
  go_enter Try.func87, Try.ntmps87
  try go_wp2_with (first | ((with_reducible refine gate_dst (N := 3) rfl ?_); (try (refine gate_guard (by rfl) ?_; dsimp only)); refine bx_ 3 (cs := #[.int .i64 a0_0, .int .i64 a0_1]) (t := 33) ?_; intro gb314 hg w41 hbox hb; have n0_ := Aside0.mk (below_step (lb HB.out) hb); have n1_ := Aside0.mk (hbox); have n2_ := Aside0.mk ((by rw [hg]; exact (below_size (lb HB.out)) : w.heap.size ≤ gb314)); have n3_ := Aside0.mk ((by rw [hg]; exact (below_size (lb HB.out)) : w.heap.size ≤ gb314)); clear HB; have HB := n0_; have BK314 := n1_; have GW314 := n2_; have GE314 := n3_; clear n0_ n1_ n2_ n3_; clear hb hbox hg) | ((with_reducible refine gate_dst (N := 4) rfl ?_); (try (refine gate_guard (by rfl) ?_; dsimp only)); refine bx_ 4 (cs := #[.int .i64 a1_0, .int .i64 a1_1]) (t := 33) ?_; intro gb315 hg w42 hbox hb; have n0_ := Aside0.mk (blk_below (bf BK314.out) hb); have n1_ := Aside0.mk (below_step (lb HB.out) hb); have n2_ := Aside0.mk (hbox); have n3_ := Aside0.mk ((by rw [hg]; exact (below_size (lb HB.out)) : w.heap.size ≤ gb315)); have n4_ := Aside0.mk ((by rw [hg]; exact (below_size (lb HB.out)) : w.heap.size ≤ gb315)); have n5_ := Aside0.mk ((by rw [hg]; exact Nat.ne_of_lt (blk_lt (bf BK314.out)) : gb314 ≠ gb315)); have n6_ := Aside0.mk ((by rw [hg]; exact Nat.ne_of_gt (blk_lt (bf BK314.out)) : gb315 ≠ gb314)); clear BK314; clear HB; have BK314 := n0_; have HB := n1_; have BK315 := n2_; have GW315 := n3_; have GE315 := n4_; have NB314_315 := n5_; have NB315_314 := n6_; clear n0_ n1_ n2_ n3_ n4_ n5_ n6_; clear hb hbox hg) | ((with_reducible refine gate_dst (N := 5) rfl ?_); (try (refine gate_guard (by rfl) ?_; dsimp only)); refine bx_ 5 (cs := #[.int .i64 a2_0, .int .i64 a2_1]) (t := 33) ?_; intro gb316 hg w43 hbox hb; have n0_ := Aside0.mk (blk_below (bf BK314.out) hb); have n1_ := Aside0.mk (blk_below (bf BK315.out) hb); have n2_ := Aside0.mk (below_step (lb HB.out) hb); have n3_ := Aside0.mk (hbox); have n4_ := Aside0.mk ((by rw [hg]; exact (below_size (lb HB.out)) : w.heap.size ≤ gb316)); have n5_ := Aside0.mk ((by rw [hg]; exact (below_size (lb HB.out)) : w.heap.size ≤ gb316)); have n6_ := Aside0.mk ((by rw [hg]; exact Nat.ne_of_lt (blk_lt (bf BK314.out)) : gb314 ≠ gb316)); have n7_ := Aside0.mk ((by rw [hg]; exact Nat.ne_of_gt (blk_lt (bf BK314.out)) : gb316 ≠ gb314)); have n8_ := Aside0.mk ((by rw [hg]; exact Nat.ne_of_lt (blk_lt (bf BK315.out)) : gb315 ≠ gb316)); have n9_ := Aside0.mk ((by rw [hg]; exact Nat.ne_of_gt (blk_lt (bf BK315.out)) : gb316 ≠ gb315)); clear BK314; clear BK315; clear HB; have BK314 := n0_; have BK315 := n1_; have HB := n2_; have BK316 := n3_; have GW316 := n4_; have GE316 := n5_; have NB314_316 := n6_; have NB316_314 := n7_; have NB315_316 := n8_; have NB316_315 := n9_; clear n0_ n1_ n2_ n3_ n4_ n5_ n6_ n7_ n8_ n9_; clear hb hbox hg))
  have n0_ := Aside0.mk (blk_drew BK314.out)
  have n1_ := Aside0.mk (blk_drew BK315.out)
  have n2_ := Aside0.mk (blk_drew BK316.out)
  have n3_ := Aside0.mk (below_drew1 HB.out)
  clear BK314 BK315 BK316 HB
  have BK314 := n0_
  have BK315 := n1_
  have BK316 := n2_
  have HB := n3_
  clear n0_ n1_ n2_ n3_
  refine start_ (n := 8) (S := fun w' => w'.cell? ⟨gb314, 0, none⟩ = some (.int .i64 a0_0) ∧ w'.cell? ⟨gb314, 1, none⟩ = some (.int .i64 a0_1) ∧ w'.cell? ⟨gb315, 0, none⟩ = some (.int .i64 a1_0) ∧ w'.cell? ⟨gb315, 1, none⟩ = some (.int .i64 a1_1) ∧ w'.cell? ⟨gb316, 0, none⟩ = some (.int .i64 a2_0) ∧ w'.cell? ⟨gb316, 1, none⟩ = some (.int .i64 a2_1)) (ds := []) #[false,false,false,false,false,false,false,false] (by kernel_rfl) rfl rfl ⟨(blk_cell BK314.out 0).trans rfl, (blk_cell BK314.out 1).trans rfl, (blk_cell BK315.out 0).trans rfl, (blk_cell BK315.out 1).trans rfl, (blk_cell BK316.out 0).trans rfl, (blk_cell BK316.out 1).trans rfl⟩ (fun hHeld => ?_); refine with_tabW spec_l2On.tab1 spec_l2On.bits1 (fun HT_ HW_ => ?_)
  generalize w43.drew = w44 at BK314 BK315 BK316 HB hHeld ⊢
  refine tq_ 0 (some 7) ?_
  refine tq_ 1 (some 8) ?_
  refine tq_ 3 (some 10) ?_
  refine tq_ 4 (some 11) ?_
  refine one_ (i := 2) (N := some 9) #[true,true,true,true,true,false,false,false] rfl rfl (one_of HT_.out (by kernel_rfl)) (by decide) (fun K hK => ?_)
  refine goes_ Try.func84 (by kernel_rfl) rfl #[.agg #[.int .i64 a0_0, .int .i64 a0_1], .agg #[.int .i64 a1_0, .int .i64 a1_1]] (by rfl) rfl rfl al ?_
  with_reducible refine (spec_l2Step.calls a0_0 a0_1 a1_0 a1_1 t317 t318 _ A4.out).mono ?_
  rintro e w45 ⟨rfl, hb⟩
  refine ⟨_, rfl, ?_⟩
  have n0_ := Aside0.mk (blk_below (bf BK314.out) hb)
  have n1_ := Aside0.mk (blk_below (bf BK315.out) hb)
  have n2_ := Aside0.mk (blk_below (bf BK316.out) hb)
  have n3_ := Aside0.mk (below_step (lb HB.out) hb)
  clear BK314 BK315 BK316 HB
  have BK314 := n0_
  have BK315 := n1_
  have BK316 := n2_
  have HB := n3_
  clear n0_ n1_ n2_ n3_
  (try clear hb);(try clear hb2);(try clear hk);(try clear hi)
  refine hK.out _ _ ⟨(blk_cell BK314.out 0).trans rfl, (blk_cell BK314.out 1).trans rfl, (blk_cell BK315.out 0).trans rfl, (blk_cell BK315.out 1).trans rfl, (blk_cell BK316.out 0).trans rfl, (blk_cell BK316.out 1).trans rfl⟩ (fun hHeld => ?_)
  clear hK K
  refine norm_ (a' := ?_) ?_ ?_
  rotate_left
  ·show Act.put _ (some 9) _ = _
   simp only [Act.put, List.setIfInBounds_toArray, List.set_cons_zero, List.set_cons_succ, i64_w, i32_w]
   rfl
  refine one_ (i := 5) (N := some 12) #[true,true,true,true,true,true,false,false] rfl rfl (one_of HT_.out (by kernel_rfl)) (by decide) (fun K hK => ?_)
  refine goes_ Try.func84 (by kernel_rfl) rfl #[.agg #[.int .i64 a0_0, .int .i64 a0_1], .agg #[.int .i64 a2_0, .int .i64 a2_1]] (by rfl) rfl rfl al ?_
  with_reducible refine (spec_l2Step.calls a0_0 a0_1 a2_0 a2_1 t319 t320 _ A5.out).mono ?_
  rintro e w46 ⟨rfl, hb⟩
  refine ⟨_, rfl, ?_⟩
  have n0_ := Aside0.mk (blk_below (bf BK314.out) hb)
  have n1_ := Aside0.mk (blk_below (bf BK315.out) hb)
  have n2_ := Aside0.mk (blk_below (bf BK316.out) hb)
  have n3_ := Aside0.mk (below_step (lb HB.out) hb)
  clear BK314 BK315 BK316 HB
  have BK314 := n0_
  have BK315 := n1_
  have BK316 := n2_
  have HB := n3_
  clear n0_ n1_ n2_ n3_
  (try clear hb);(try clear hb2);(try clear hk);(try clear hi)
  refine hK.out _ _ ⟨(blk_cell BK314.out 0).trans rfl, (blk_cell BK314.out 1).trans rfl, (blk_cell BK315.out 0).trans rfl, (blk_cell BK315.out 1).trans rfl, (blk_cell BK316.out 0).trans rfl, (blk_cell BK316.out 1).trans rfl⟩ (fun hHeld => ?_)
  clear hK K
  refine norm_ (a' := ?_) ?_ ?_
  rotate_left
  ·show Act.put _ (some 12) _ = _
   simp only [Act.put, List.setIfInBounds_toArray, List.set_cons_zero, List.set_cons_succ, i64_w, i32_w]
   rfl
  refine one_ (i := 6) (N := some 13) #[true,true,true,true,true,true,true,false] rfl rfl (one_of HT_.out (by kernel_rfl)) (by decide) (fun K hK => ?_)
  refine goes_ Try.func78 (by kernel_rfl) rfl #[.agg #[.int .i64 t317, .int .i64 t318], .agg #[.int .i64 t319, .int .i64 t320]] (by rfl) rfl rfl al ?_
  with_reducible refine (spec_l2Cross.calls t317 t318 t319 t320 t321 _ A6.out).mono ?_
  rintro e w47 ⟨rfl, hb⟩
  refine ⟨_, rfl, ?_⟩
  have n0_ := Aside0.mk (blk_below (bf BK314.out) hb)
  have n1_ := Aside0.mk (blk_below (bf BK315.out) hb)
  have n2_ := Aside0.mk (blk_below (bf BK316.out) hb)
  have n3_ := Aside0.mk (below_step (lb HB.out) hb)
  clear BK314 BK315 BK316 HB
  have BK314 := n0_
  have BK315 := n1_
  have BK316 := n2_
  have HB := n3_
  clear n0_ n1_ n2_ n3_
  (try clear hb);(try clear hb2);(try clear hk);(try clear hi)
  refine hK.out _ _ ⟨(blk_cell BK314.out 0).trans rfl, (blk_cell BK314.out 1).trans rfl, (blk_cell BK315.out 0).trans rfl, (blk_cell BK315.out 1).trans rfl, (blk_cell BK316.out 0).trans rfl, (blk_cell BK316.out 1).trans rfl⟩ (fun hHeld => ?_)
  clear hK K
  refine norm_ (a' := ?_) ?_ ?_
  rotate_left
  ·show Act.put _ (some 13) _ = _
   simp only [Act.put, List.setIfInBounds_toArray, List.set_cons_zero, List.set_cons_succ, i64_w, i32_w]
   rfl
  refine pq_ 7 (some 14) ?_
  refine done_ (done_of HT_.out (by kernel_rfl)) ?_
  try go_wp2
  go_ret
  exact ⟨er, lb HB.out⟩
def spec_l31Meet.j0 : Nat → Bool → Int → Int → Int → Int → Int → Int → Int → Int → Option (Bool)
 | 0, _, _, _, _, _, _, _, _, _ => none
 | k + 1, x30, x325000, x325001, x326000, x326001, x327000, x327001, x328000, x328001 => if x30 = true then (some true) else ((spec_l31Side.f x325000 x325001 x326000 x326001 x327000 x327001).bind fun t332 => ((spec_l31Side.f x325000 x325001 x326000 x326001 x328000 x328001).bind fun t333 => (if (wrap64 (t332 * t333)) < 0 then ((spec_l31Side.f x327000 x327001 x328000 x328001 x325000 x325001).bind fun t334 => ((spec_l31Side.f x327000 x327001 x328000 x328001 x326000 x326001).bind fun t335 => (some (decide ((wrap64 (t334 * t335)) < 0))))) else (some false))))
def spec_l31Meet.f (k : Nat) (a0_0 : Int) (a0_1 : Int) (a1_0 : Int) (a1_1 : Int) (a2_0 : Int) (a2_1 : Int) (a3_0 : Int) (a3_1 : Int) : Option (Bool) := (spec_l2On.f a0_0 a0_1 a1_0 a1_1 a2_0 a2_1).bind fun t328 => (if t328 = true then (spec_l31Meet.j0 k true a0_0 a0_1 a1_0 a1_1 a2_0 a2_1 a3_0 a3_1) else ((spec_l2On.f a0_0 a0_1 a1_0 a1_1 a3_0 a3_1).bind fun t329 => (if t329 = true then (spec_l31Meet.j0 k true a0_0 a0_1 a1_0 a1_1 a2_0 a2_1 a3_0 a3_1) else ((spec_l2On.f a2_0 a2_1 a3_0 a3_1 a0_0 a0_1).bind fun t330 => (if t330 = true then (spec_l31Meet.j0 k true a0_0 a0_1 a1_0 a1_1 a2_0 a2_1 a3_0 a3_1) else ((spec_l2On.f a2_0 a2_1 a3_0 a3_1 a1_0 a1_1).bind fun t331 => (spec_l31Meet.j0 k t331 a0_0 a0_1 a1_0 a1_1 a2_0 a2_1 a3_0 a3_1)))))))
theorem spec_l31Meet.mono_l : ∀ k, (∀ y0 y1 y2 y3 y4 y5 y6 y7 y8, LeO (spec_l31Meet.j0 k y0 y1 y2 y3 y4 y5 y6 y7 y8) (spec_l31Meet.j0 (k + 1) y0 y1 y2 y3 y4 y5 y6 y7 y8))
 | 0 => fun _ _ _ _ _ _ _ _ _ r h => by simp [spec_l31Meet.j0] at h
 | k + 1 => by
  have ih0 := spec_l31Meet.mono_l k
  ·intro y0 y1 y2 y3 y4 y5 y6 y7 y8
   unfold spec_l31Meet.j0
   repeat' first
   | (with_reducible exact ih0 _ _ _ _ _ _ _ _ _)
   | (with_reducible exact LeO.refl _)
   | (with_reducible exact LeO.none _)
   | (with_reducible refine LeO.ite ?_ ?_)
   | (with_reducible refine LeO.bind ?_ (fun _ => ?_))
   | exact ih0 _ _ _ _ _ _ _ _ _
   | exact LeO.none _
   | refine LeO.ite ?_ ?_
   | refine LeO.bind ?_ (fun _ => ?_)
theorem spec_l31Meet.mono : ∀ a0 a1 a2 a3 a4 a5 a6 a7 k, LeO (spec_l31Meet.f k a0 a1 a2 a3 a4 a5 a6 a7) (spec_l31Meet.f (k + 1) a0 a1 a2 a3 a4 a5 a6 a7) := by
 intro a0 a1 a2 a3 a4 a5 a6 a7 k
 have ih0 := spec_l31Meet.mono_l k
 unfold spec_l31Meet.f
 repeat' first
   | (with_reducible exact ih0 _ _ _ _ _ _ _ _ _)
   | (with_reducible exact LeO.refl _)
   | (with_reducible exact LeO.none _)
   | (with_reducible refine LeO.ite ?_ ?_)
   | (with_reducible refine LeO.bind ?_ (fun _ => ?_))
   | exact ih0 _ _ _ _ _ _ _ _ _
   | exact LeO.none _
   | refine LeO.ite ?_ ?_
   | refine LeO.bind ?_ (fun _ => ?_)
def spec_l31Meet.T3 : Bool × List (List Nat × List Nat) := (true,[([],[]),([],[]),([],[]),([0,1,2],[0,1,2]),([],[]),([],[]),([],[]),([4,5,6,3],[4,5,6]),([3,7],[3,7]),([8],[8]),([9,7],[9]),([10],[10]),([10],[10]),([10],[10]),([11,12,13,10,10],[10,11,12,13]),([10],[10]),([10],[10]),([10],[10]),([15,16,17,14,10],[10,15,16,17]),([14,18,10],[10,14,18]),([19,10],[10,19]),([10,20],[10,20]),([21,18,0,1,2,3,4,5,6,7,8,9,10,11,12,13,14,15,16,17,18,19,20,21],[21])])
def spec_l31Meet.B3 : List Nat := [0,0,0,7,0,0,0,127,255,511,1023,2047,2047,2047,16383,2047,2047,2047,262143,524287,1048575,2097151,4194303]
theorem spec_l31Meet.tab3 : rtab .any (opsOf Try.f62 3) = spec_l31Meet.T3 := by kernel_rfl
theorem spec_l31Meet.bits3 : waitsOk spec_l31Meet.T3.2 spec_l31Meet.B3 = true := by kernel_rfl
set_option maxHeartbeats 8000000 in
set_option maxRecDepth 100000 in
theorem spec_l31Meet.calls (k : Nat) (a0_0 : Int) (a0_1 : Int) (a1_0 : Int) (a1_1 : Int) (a2_0 : Int) (a2_1 : Int) (a3_0 : Int) (a3_1 : Int) (r : Bool) (w : World) (h : spec_l31Meet.f k a0_0 a0_1 a1_0 a1_1 a2_0 a2_1 a3_0 a3_1 = some r) :
  Calls Try.prog 62 #[.agg #[.int .i64 a0_0, .int .i64 a0_1], .agg #[.int .i64 a1_0, .int .i64 a1_1], .agg #[.int .i64 a2_0, .int .i64 a2_1], .agg #[.int .i64 a3_0, .int .i64 a3_1]] w fun e w' => e = .returned (.bool r) ∧ Below w.heap.size w w' := by
 have hu33 := Try.underlying33
 have HB := Aside0.mk (Below.refl w.heap.size w)
 have H : ((spec_l2On.f a0_0 a0_1 a1_0 a1_1 a2_0 a2_1).bind fun t328 => (if t328 = true then (spec_l31Meet.j0 k true a0_0 a0_1 a1_0 a1_1 a2_0 a2_1 a3_0 a3_1) else ((spec_l2On.f a0_0 a0_1 a1_0 a1_1 a3_0 a3_1).bind fun t329 => (if t329 = true then (spec_l31Meet.j0 k true a0_0 a0_1 a1_0 a1_1 a2_0 a2_1 a3_0 a3_1) else ((spec_l2On.f a2_0 a2_1 a3_0 a3_1 a0_0 a0_1).bind fun t330 => (if t330 = true then (spec_l31Meet.j0 k true a0_0 a0_1 a1_0 a1_1 a2_0 a2_1 a3_0 a3_1) else ((spec_l2On.f a2_0 a2_1 a3_0 a3_1 a1_0 a1_1).bind fun t331 => (spec_l31Meet.j0 k t331 a0_0 a0_1 a1_0 a1_1 a2_0 a2_1 a3_0 a3_1)))))))) = some r := h
 clear h
 have HC5 := Aside0.mk H
 clear H
 go_enter Try.func62, Try.ntmps62
 go_upto_region 1 with (first | ((with_reducible refine gate_dst (N := 4) rfl ?_); refine bx_ 4 (cs := #[.int .i64 a0_0, .int .i64 a0_1]) (t := 33) ?_; intro gb324 hg w6 hbox hb; have n0_ := Aside0.mk (below_step (lb HB.out) hb); have n1_ := Aside0.mk (hbox); have n2_ := Aside0.mk ((by rw [hg]; exact (below_size (lb HB.out)) : w.heap.size ≤ gb324)); have n3_ := Aside0.mk ((by rw [hg]; exact (below_size (lb HB.out)) : w.heap.size ≤ gb324)); clear HB; have HB := n0_; have BK324 := n1_; have GW324 := n2_; have GE324 := n3_; clear n0_ n1_ n2_ n3_; clear hb hbox hg) | ((with_reducible refine gate_dst (N := 5) rfl ?_); refine bx_ 5 (cs := #[.int .i64 a1_0, .int .i64 a1_1]) (t := 33) ?_; intro gb325 hg w7 hbox hb; have n0_ := Aside0.mk (blk_below (bf BK324.out) hb); have n1_ := Aside0.mk (below_step (lb HB.out) hb); have n2_ := Aside0.mk (hbox); have n3_ := Aside0.mk ((by rw [hg]; exact (below_size (lb HB.out)) : w.heap.size ≤ gb325)); have n4_ := Aside0.mk ((by rw [hg]; exact (below_size (lb HB.out)) : w.heap.size ≤ gb325)); have n5_ := Aside0.mk ((by rw [hg]; exact Nat.ne_of_lt (blk_lt (bf BK324.out)) : gb324 ≠ gb325)); have n6_ := Aside0.mk ((by rw [hg]; exact Nat.ne_of_gt (blk_lt (bf BK324.out)) : gb325 ≠ gb324)); clear BK324; clear HB; have BK324 := n0_; have HB := n1_; have BK325 := n2_; have GW325 := n3_; have GE325 := n4_; have NB324_325 := n5_; have NB325_324 := n6_; clear n0_ n1_ n2_ n3_ n4_ n5_ n6_; clear hb hbox hg) | ((with_reducible refine gate_dst (N := 6) rfl ?_); refine bx_ 6 (cs := #[.int .i64 a2_0, .int .i64 a2_1]) (t := 33) ?_; intro gb326 hg w8 hbox hb; have n0_ := Aside0.mk (blk_below (bf BK324.out) hb); have n1_ := Aside0.mk (blk_below (bf BK325.out) hb); have n2_ := Aside0.mk (below_step (lb HB.out) hb); have n3_ := Aside0.mk (hbox); have n4_ := Aside0.mk ((by rw [hg]; exact (below_size (lb HB.out)) : w.heap.size ≤ gb326)); have n5_ := Aside0.mk ((by rw [hg]; exact (below_size (lb HB.out)) : w.heap.size ≤ gb326)); have n6_ := Aside0.mk ((by rw [hg]; exact Nat.ne_of_lt (blk_lt (bf BK324.out)) : gb324 ≠ gb326)); have n7_ := Aside0.mk ((by rw [hg]; exact Nat.ne_of_gt (blk_lt (bf BK324.out)) : gb326 ≠ gb324)); have n8_ := Aside0.mk ((by rw [hg]; exact Nat.ne_of_lt (blk_lt (bf BK325.out)) : gb325 ≠ gb326)); have n9_ := Aside0.mk ((by rw [hg]; exact Nat.ne_of_gt (blk_lt (bf BK325.out)) : gb326 ≠ gb325)); clear BK324; clear BK325; clear HB; have BK324 := n0_; have BK325 := n1_; have HB := n2_; have BK326 := n3_; have GW326 := n4_; have GE326 := n5_; have NB324_326 := n6_; have NB326_324 := n7_; have NB325_326 := n8_; have NB326_325 := n9_; clear n0_ n1_ n2_ n3_ n4_ n5_ n6_ n7_ n8_ n9_; clear hb hbox hg) | ((with_reducible refine gate_dst (N := 7) rfl ?_); refine bx_ 7 (cs := #[.int .i64 a3_0, .int .i64 a3_1]) (t := 33) ?_; intro gb327 hg w9 hbox hb; have n0_ := Aside0.mk (blk_below (bf BK324.out) hb); have n1_ := Aside0.mk (blk_below (bf BK325.out) hb); have n2_ := Aside0.mk (blk_below (bf BK326.out) hb); have n3_ := Aside0.mk (below_step (lb HB.out) hb); have n4_ := Aside0.mk (hbox); have n5_ := Aside0.mk ((by rw [hg]; exact (below_size (lb HB.out)) : w.heap.size ≤ gb327)); have n6_ := Aside0.mk ((by rw [hg]; exact (below_size (lb HB.out)) : w.heap.size ≤ gb327)); have n7_ := Aside0.mk ((by rw [hg]; exact Nat.ne_of_lt (blk_lt (bf BK324.out)) : gb324 ≠ gb327)); have n8_ := Aside0.mk ((by rw [hg]; exact Nat.ne_of_gt (blk_lt (bf BK324.out)) : gb327 ≠ gb324)); have n9_ := Aside0.mk ((by rw [hg]; exact Nat.ne_of_lt (blk_lt (bf BK325.out)) : gb325 ≠ gb327)); have n10_ := Aside0.mk ((by rw [hg]; exact Nat.ne_of_gt (blk_lt (bf BK325.out)) : gb327 ≠ gb325)); have n11_ := Aside0.mk ((by rw [hg]; exact Nat.ne_of_lt (blk_lt (bf BK326.out)) : gb326 ≠ gb327)); have n12_ := Aside0.mk ((by rw [hg]; exact Nat.ne_of_gt (blk_lt (bf BK326.out)) : gb327 ≠ gb326)); clear BK324; clear BK325; clear BK326; clear HB; have BK324 := n0_; have BK325 := n1_; have BK326 := n2_; have HB := n3_; have BK327 := n4_; have GW327 := n5_; have GE327 := n6_; have NB324_327 := n7_; have NB327_324 := n8_; have NB325_327 := n9_; have NB327_325 := n10_; have NB326_327 := n11_; have NB327_326 := n12_; clear n0_ n1_ n2_ n3_ n4_ n5_ n6_ n7_ n8_ n9_ n10_ n11_ n12_; clear hb hbox hg))
 (try simp only [Act.put, List.setIfInBounds_toArray, List.set_cons_zero, List.set_cons_succ])
 go_cut [30] (fun v30 wc => ∃ (kq : Nat) (x30_4 : Bool), v30 = .bool x30_4 ∧ Aside0 (spec_l31Meet.j0 kq x30_4 a0_0 a0_1 a1_0 a1_1 a2_0 a2_1 a3_0 a3_1 = some r) ∧ Aside0 (kq ≤ k) ∧ Aside0 (wc.heap[gb324]? = some (.cells #[.int .i64 a0_0, .int .i64 a0_1] 33 (0, 0))) ∧ Aside0 (wc.heap[gb325]? = some (.cells #[.int .i64 a1_0, .int .i64 a1_1] 33 (0, 0))) ∧ Aside0 (wc.heap[gb326]? = some (.cells #[.int .i64 a2_0, .int .i64 a2_1] 33 (0, 0))) ∧ Aside0 (wc.heap[gb327]? = some (.cells #[.int .i64 a3_0, .int .i64 a3_1] 33 (0, 0))) ∧ Aside0 (Below w.heap.size w wc))
 case first =>
  have H := HC5.out
  clear HC5
  replace H := Option.bind_eq_some_iff.mp H
  obtain ⟨t328, A100, H⟩ := H
  replace H : (if t328 = true then (spec_l31Meet.j0 k true a0_0 a0_1 a1_0 a1_1 a2_0 a2_1 a3_0 a3_1) else ((spec_l2On.f a0_0 a0_1 a1_0 a1_1 a3_0 a3_1).bind fun t329 => (if t329 = true then (spec_l31Meet.j0 k true a0_0 a0_1 a1_0 a1_1 a2_0 a2_1 a3_0 a3_1) else ((spec_l2On.f a2_0 a2_1 a3_0 a3_1 a0_0 a0_1).bind fun t330 => (if t330 = true then (spec_l31Meet.j0 k true a0_0 a0_1 a1_0 a1_1 a2_0 a2_1 a3_0 a3_1) else ((spec_l2On.f a2_0 a2_1 a3_0 a3_1 a1_0 a1_1).bind fun t331 => (spec_l31Meet.j0 k t331 a0_0 a0_1 a1_0 a1_1 a2_0 a2_1 a3_0 a3_1))))))) = some r := H
  have A10 := Aside0.mk A100
  clear A100
  by_cases c11 : t328 = true
  ·subst c11
   have H1 : (spec_l31Meet.j0 k true a0_0 a0_1 a1_0 a1_1 a2_0 a2_1 a3_0 a3_1) = some r := by rw [if_pos rfl] at H; exact H
   clear H
   have H := H1
   clear H1
   have H' := Aside0.mk H
   clear H
   have hnb12 := NB324_325.out
   have hnc12 := NB325_324.out
   have hnb13 := NB324_326.out
   have hnc13 := NB326_324.out
   have hnb14 := NB324_327.out
   have hnc14 := NB327_324.out
   have hcz15_0 : w9.cell? ⟨gb324, 0, none⟩ = some (.int .i64 a0_0) := (blk_cell BK324.out 0).trans rfl
   have hcz15_1 : w9.cell? ⟨gb324, 1, none⟩ = some (.int .i64 a0_1) := (blk_cell BK324.out 1).trans rfl
   have hfz15_0 := blk_frozen BK324.out 0
   have hfz15_1 := blk_frozen BK324.out 1
   have hnb16 := NB325_326.out
   have hnc16 := NB326_325.out
   have hnb17 := NB325_327.out
   have hnc17 := NB327_325.out
   have hcz18_0 : w9.cell? ⟨gb325, 0, none⟩ = some (.int .i64 a1_0) := (blk_cell BK325.out 0).trans rfl
   have hcz18_1 : w9.cell? ⟨gb325, 1, none⟩ = some (.int .i64 a1_1) := (blk_cell BK325.out 1).trans rfl
   have hfz18_0 := blk_frozen BK325.out 0
   have hfz18_1 := blk_frozen BK325.out 1
   have hnb19 := NB326_327.out
   have hnc19 := NB327_326.out
   have hcz20_0 : w9.cell? ⟨gb326, 0, none⟩ = some (.int .i64 a2_0) := (blk_cell BK326.out 0).trans rfl
   have hcz20_1 : w9.cell? ⟨gb326, 1, none⟩ = some (.int .i64 a2_1) := (blk_cell BK326.out 1).trans rfl
   have hfz20_0 := blk_frozen BK326.out 0
   have hfz20_1 := blk_frozen BK326.out 1
   go_wp2_with (first | ((with_reducible refine gate_callee (f := 87) rfl ?_); refine goesL_ (some 12) rfl rfl Try.func87 (by kernel_rfl) rfl #[.agg #[.int .i64 a0_0, .int .i64 a0_1], .agg #[.int .i64 a1_0, .int .i64 a1_1], .agg #[.int .i64 a2_0, .int .i64 a2_1]] rfl al ?_; (with_reducible refine (spec_l2On.calls a0_0 a0_1 a1_0 a1_1 a2_0 a2_1 true _ A10.out).mono ?_); rintro e w21 ⟨rfl, hb⟩; refine ⟨_, rfl, ?_⟩; have n0_ := Aside0.mk (blk_below (bf BK324.out) hb); have n1_ := Aside0.mk (blk_below (bf BK325.out) hb); have n2_ := Aside0.mk (blk_below (bf BK326.out) hb); have n3_ := Aside0.mk (blk_below (bf BK327.out) hb); have n4_ := Aside0.mk (below_step (lb HB.out) hb); clear BK324; clear BK325; clear BK326; clear BK327; clear HB; have BK324 := n0_; have BK325 := n1_; have BK326 := n2_; have BK327 := n3_; have HB := n4_; clear n0_ n1_ n2_ n3_ n4_; (try clear hb); (try clear hb2); (try clear hk); (try clear hi)))
   go_meet
   case rel => exact ⟨_, (true), (by first | rfl | (simp; done) | (simp [*]; done)), H', ⟨by first | omega | exact Nat.le_refl _⟩, ⟨bu BK324.out⟩, ⟨bu BK325.out⟩, ⟨bu BK326.out⟩, ⟨bu BK327.out⟩, ⟨lb HB.out⟩⟩
  ·replace c11 := Bool.eq_false_iff.mpr c11
   subst c11
   have H1 : ((spec_l2On.f a0_0 a0_1 a1_0 a1_1 a3_0 a3_1).bind fun t329 => (if t329 = true then (spec_l31Meet.j0 k true a0_0 a0_1 a1_0 a1_1 a2_0 a2_1 a3_0 a3_1) else ((spec_l2On.f a2_0 a2_1 a3_0 a3_1 a0_0 a0_1).bind fun t330 => (if t330 = true then (spec_l31Meet.j0 k true a0_0 a0_1 a1_0 a1_1 a2_0 a2_1 a3_0 a3_1) else ((spec_l2On.f a2_0 a2_1 a3_0 a3_1 a1_0 a1_1).bind fun t331 => (spec_l31Meet.j0 k t331 a0_0 a0_1 a1_0 a1_1 a2_0 a2_1 a3_0 a3_1)))))) = some r := by rw [if_neg (show ¬ (false = true) by decide)] at H; exact H
   clear H
   have H := H1
   clear H1
   replace H := Option.bind_eq_some_iff.mp H
   obtain ⟨t329, A220, H⟩ := H
   replace H : (if t329 = true then (spec_l31Meet.j0 k true a0_0 a0_1 a1_0 a1_1 a2_0 a2_1 a3_0 a3_1) else ((spec_l2On.f a2_0 a2_1 a3_0 a3_1 a0_0 a0_1).bind fun t330 => (if t330 = true then (spec_l31Meet.j0 k true a0_0 a0_1 a1_0 a1_1 a2_0 a2_1 a3_0 a3_1) else ((spec_l2On.f a2_0 a2_1 a3_0 a3_1 a1_0 a1_1).bind fun t331 => (spec_l31Meet.j0 k t331 a0_0 a0_1 a1_0 a1_1 a2_0 a2_1 a3_0 a3_1))))) = some r := H
   have A22 := Aside0.mk A220
   clear A220
   by_cases c23 : t329 = true
   ·subst c23
    have H1 : (spec_l31Meet.j0 k true a0_0 a0_1 a1_0 a1_1 a2_0 a2_1 a3_0 a3_1) = some r := by rw [if_pos rfl] at H; exact H
    clear H
    have H := H1
    clear H1
    have H' := Aside0.mk H
    clear H
    have hnb24 := NB324_325.out
    have hnc24 := NB325_324.out
    have hnb25 := NB324_326.out
    have hnc25 := NB326_324.out
    have hnb26 := NB324_327.out
    have hnc26 := NB327_324.out
    have hcz27_0 : w9.cell? ⟨gb324, 0, none⟩ = some (.int .i64 a0_0) := (blk_cell BK324.out 0).trans rfl
    have hcz27_1 : w9.cell? ⟨gb324, 1, none⟩ = some (.int .i64 a0_1) := (blk_cell BK324.out 1).trans rfl
    have hfz27_0 := blk_frozen BK324.out 0
    have hfz27_1 := blk_frozen BK324.out 1
    have hnb28 := NB325_326.out
    have hnc28 := NB326_325.out
    have hnb29 := NB325_327.out
    have hnc29 := NB327_325.out
    have hcz30_0 : w9.cell? ⟨gb325, 0, none⟩ = some (.int .i64 a1_0) := (blk_cell BK325.out 0).trans rfl
    have hcz30_1 : w9.cell? ⟨gb325, 1, none⟩ = some (.int .i64 a1_1) := (blk_cell BK325.out 1).trans rfl
    have hfz30_0 := blk_frozen BK325.out 0
    have hfz30_1 := blk_frozen BK325.out 1
    have hnb31 := NB326_327.out
    have hnc31 := NB327_326.out
    have hcz32_0 : w9.cell? ⟨gb326, 0, none⟩ = some (.int .i64 a2_0) := (blk_cell BK326.out 0).trans rfl
    have hcz32_1 : w9.cell? ⟨gb326, 1, none⟩ = some (.int .i64 a2_1) := (blk_cell BK326.out 1).trans rfl
    have hfz32_0 := blk_frozen BK326.out 0
    have hfz32_1 := blk_frozen BK326.out 1
    go_wp2_with (first | ((with_reducible refine gate_callee (f := 87) rfl ?_); refine goesL_ (some 12) rfl rfl Try.func87 (by kernel_rfl) rfl #[.agg #[.int .i64 a0_0, .int .i64 a0_1], .agg #[.int .i64 a1_0, .int .i64 a1_1], .agg #[.int .i64 a2_0, .int .i64 a2_1]] rfl al ?_; (with_reducible refine (spec_l2On.calls a0_0 a0_1 a1_0 a1_1 a2_0 a2_1 false _ A10.out).mono ?_); rintro e w33 ⟨rfl, hb⟩; refine ⟨_, rfl, ?_⟩; have n0_ := Aside0.mk (blk_below (bf BK324.out) hb); have n1_ := Aside0.mk (blk_below (bf BK325.out) hb); have n2_ := Aside0.mk (blk_below (bf BK326.out) hb); have n3_ := Aside0.mk (blk_below (bf BK327.out) hb); have n4_ := Aside0.mk (below_step (lb HB.out) hb); clear BK324; clear BK325; clear BK326; clear BK327; clear HB; have BK324 := n0_; have BK325 := n1_; have BK326 := n2_; have BK327 := n3_; have HB := n4_; clear n0_ n1_ n2_ n3_ n4_; (try clear hb); (try clear hb2); (try clear hk); (try clear hi); have hcz34_0 : w33.cell? ⟨gb324, 0, none⟩ = some (.int .i64 a0_0) := (blk_cell BK324.out 0).trans rfl; have hcz34_1 : w33.cell? ⟨gb324, 1, none⟩ = some (.int .i64 a0_1) := (blk_cell BK324.out 1).trans rfl; have hfz34_0 := blk_frozen BK324.out 0; have hfz34_1 := blk_frozen BK324.out 1; have hcz35_0 : w33.cell? ⟨gb325, 0, none⟩ = some (.int .i64 a1_0) := (blk_cell BK325.out 0).trans rfl; have hcz35_1 : w33.cell? ⟨gb325, 1, none⟩ = some (.int .i64 a1_1) := (blk_cell BK325.out 1).trans rfl; have hfz35_0 := blk_frozen BK325.out 0; have hfz35_1 := blk_frozen BK325.out 1; have hcz36_0 : w33.cell? ⟨gb327, 0, none⟩ = some (.int .i64 a3_0) := (blk_cell BK327.out 0).trans rfl; have hcz36_1 : w33.cell? ⟨gb327, 1, none⟩ = some (.int .i64 a3_1) := (blk_cell BK327.out 1).trans rfl; have hfz36_0 := blk_frozen BK327.out 0; have hfz36_1 := blk_frozen BK327.out 1) | (go_at_call 87; (with_reducible refine (spec_l2On.calls a0_0 a0_1 a1_0 a1_1 a3_0 a3_1 true _ A22.out).mono ?_); rintro e w37 ⟨rfl, hb⟩; have n0_ := Aside0.mk (blk_below (bf BK324.out) hb); have n1_ := Aside0.mk (blk_below (bf BK325.out) hb); have n2_ := Aside0.mk (blk_below (bf BK326.out) hb); have n3_ := Aside0.mk (blk_below (bf BK327.out) hb); have n4_ := Aside0.mk (below_step (lb HB.out) hb); clear BK324; clear BK325; clear BK326; clear BK327; clear HB; have BK324 := n0_; have BK325 := n1_; have BK326 := n2_; have BK327 := n3_; have HB := n4_; clear n0_ n1_ n2_ n3_ n4_; (try clear hb); (try clear hb2); (try clear hk); (try clear hi)))
    go_meet
    case rel => exact ⟨_, (true), (by first | rfl | (simp; done) | (simp [*]; done)), H', ⟨by first | omega | exact Nat.le_refl _⟩, ⟨bu BK324.out⟩, ⟨bu BK325.out⟩, ⟨bu BK326.out⟩, ⟨bu BK327.out⟩, ⟨lb HB.out⟩⟩
   ·replace c23 := Bool.eq_false_iff.mpr c23
    subst c23
    have H1 : ((spec_l2On.f a2_0 a2_1 a3_0 a3_1 a0_0 a0_1).bind fun t330 => (if t330 = true then (spec_l31Meet.j0 k true a0_0 a0_1 a1_0 a1_1 a2_0 a2_1 a3_0 a3_1) else ((spec_l2On.f a2_0 a2_1 a3_0 a3_1 a1_0 a1_1).bind fun t331 => (spec_l31Meet.j0 k t331 a0_0 a0_1 a1_0 a1_1 a2_0 a2_1 a3_0 a3_1)))) = some r := by rw [if_neg (show ¬ (false = true) by decide)] at H; exact H
    clear H
    have H := H1
    clear H1
    replace H := Option.bind_eq_some_iff.mp H
    obtain ⟨t330, A380, H⟩ := H
    replace H : (if t330 = true then (spec_l31Meet.j0 k true a0_0 a0_1 a1_0 a1_1 a2_0 a2_1 a3_0 a3_1) else ((spec_l2On.f a2_0 a2_1 a3_0 a3_1 a1_0 a1_1).bind fun t331 => (spec_l31Meet.j0 k t331 a0_0 a0_1 a1_0 a1_1 a2_0 a2_1 a3_0 a3_1))) = some r := H
    have A38 := Aside0.mk A380
    clear A380
    by_cases c39 : t330 = true
    ·subst c39
     have H1 : (spec_l31Meet.j0 k true a0_0 a0_1 a1_0 a1_1 a2_0 a2_1 a3_0 a3_1) = some r := by rw [if_pos rfl] at H; exact H
     clear H
     have H := H1
     clear H1
     have H' := Aside0.mk H
     clear H
     have hnb40 := NB324_325.out
     have hnc40 := NB325_324.out
     have hnb41 := NB324_326.out
     have hnc41 := NB326_324.out
     have hnb42 := NB324_327.out
     have hnc42 := NB327_324.out
     have hcz43_0 : w9.cell? ⟨gb324, 0, none⟩ = some (.int .i64 a0_0) := (blk_cell BK324.out 0).trans rfl
     have hcz43_1 : w9.cell? ⟨gb324, 1, none⟩ = some (.int .i64 a0_1) := (blk_cell BK324.out 1).trans rfl
     have hfz43_0 := blk_frozen BK324.out 0
     have hfz43_1 := blk_frozen BK324.out 1
     have hnb44 := NB325_326.out
     have hnc44 := NB326_325.out
     have hnb45 := NB325_327.out
     have hnc45 := NB327_325.out
     have hcz46_0 : w9.cell? ⟨gb325, 0, none⟩ = some (.int .i64 a1_0) := (blk_cell BK325.out 0).trans rfl
     have hcz46_1 : w9.cell? ⟨gb325, 1, none⟩ = some (.int .i64 a1_1) := (blk_cell BK325.out 1).trans rfl
     have hfz46_0 := blk_frozen BK325.out 0
     have hfz46_1 := blk_frozen BK325.out 1
     have hnb47 := NB326_327.out
     have hnc47 := NB327_326.out
     have hcz48_0 : w9.cell? ⟨gb326, 0, none⟩ = some (.int .i64 a2_0) := (blk_cell BK326.out 0).trans rfl
     have hcz48_1 : w9.cell? ⟨gb326, 1, none⟩ = some (.int .i64 a2_1) := (blk_cell BK326.out 1).trans rfl
     have hfz48_0 := blk_frozen BK326.out 0
     have hfz48_1 := blk_frozen BK326.out 1
     go_wp2_with (first | ((with_reducible refine gate_callee (f := 87) rfl ?_); refine goesL_ (some 12) rfl rfl Try.func87 (by kernel_rfl) rfl #[.agg #[.int .i64 a0_0, .int .i64 a0_1], .agg #[.int .i64 a1_0, .int .i64 a1_1], .agg #[.int .i64 a2_0, .int .i64 a2_1]] rfl al ?_; (with_reducible refine (spec_l2On.calls a0_0 a0_1 a1_0 a1_1 a2_0 a2_1 false _ A10.out).mono ?_); rintro e w49 ⟨rfl, hb⟩; refine ⟨_, rfl, ?_⟩; have n0_ := Aside0.mk (blk_below (bf BK324.out) hb); have n1_ := Aside0.mk (blk_below (bf BK325.out) hb); have n2_ := Aside0.mk (blk_below (bf BK326.out) hb); have n3_ := Aside0.mk (blk_below (bf BK327.out) hb); have n4_ := Aside0.mk (below_step (lb HB.out) hb); clear BK324; clear BK325; clear BK326; clear BK327; clear HB; have BK324 := n0_; have BK325 := n1_; have BK326 := n2_; have BK327 := n3_; have HB := n4_; clear n0_ n1_ n2_ n3_ n4_; (try clear hb); (try clear hb2); (try clear hk); (try clear hi); have hcz50_0 : w49.cell? ⟨gb324, 0, none⟩ = some (.int .i64 a0_0) := (blk_cell BK324.out 0).trans rfl; have hcz50_1 : w49.cell? ⟨gb324, 1, none⟩ = some (.int .i64 a0_1) := (blk_cell BK324.out 1).trans rfl; have hfz50_0 := blk_frozen BK324.out 0; have hfz50_1 := blk_frozen BK324.out 1; have hcz51_0 : w49.cell? ⟨gb325, 0, none⟩ = some (.int .i64 a1_0) := (blk_cell BK325.out 0).trans rfl; have hcz51_1 : w49.cell? ⟨gb325, 1, none⟩ = some (.int .i64 a1_1) := (blk_cell BK325.out 1).trans rfl; have hfz51_0 := blk_frozen BK325.out 0; have hfz51_1 := blk_frozen BK325.out 1; have hcz52_0 : w49.cell? ⟨gb327, 0, none⟩ = some (.int .i64 a3_0) := (blk_cell BK327.out 0).trans rfl; have hcz52_1 : w49.cell? ⟨gb327, 1, none⟩ = some (.int .i64 a3_1) := (blk_cell BK327.out 1).trans rfl; have hfz52_0 := blk_frozen BK327.out 0; have hfz52_1 := blk_frozen BK327.out 1) | (go_at_call 87; (with_reducible refine (spec_l2On.calls a0_0 a0_1 a1_0 a1_1 a3_0 a3_1 false _ A22.out).mono ?_); rintro e w53 ⟨rfl, hb⟩; have n0_ := Aside0.mk (blk_below (bf BK324.out) hb); have n1_ := Aside0.mk (blk_below (bf BK325.out) hb); have n2_ := Aside0.mk (blk_below (bf BK326.out) hb); have n3_ := Aside0.mk (blk_below (bf BK327.out) hb); have n4_ := Aside0.mk (below_step (lb HB.out) hb); clear BK324; clear BK325; clear BK326; clear BK327; clear HB; have BK324 := n0_; have BK325 := n1_; have BK326 := n2_; have BK327 := n3_; have HB := n4_; clear n0_ n1_ n2_ n3_ n4_; (try clear hb); (try clear hb2); (try clear hk); (try clear hi); have hcz54_0 : w53.cell? ⟨gb326, 0, none⟩ = some (.int .i64 a2_0) := (blk_cell BK326.out 0).trans rfl; have hcz54_1 : w53.cell? ⟨gb326, 1, none⟩ = some (.int .i64 a2_1) := (blk_cell BK326.out 1).trans rfl; have hfz54_0 := blk_frozen BK326.out 0; have hfz54_1 := blk_frozen BK326.out 1; have hcz55_0 : w53.cell? ⟨gb327, 0, none⟩ = some (.int .i64 a3_0) := (blk_cell BK327.out 0).trans rfl; have hcz55_1 : w53.cell? ⟨gb327, 1, none⟩ = some (.int .i64 a3_1) := (blk_cell BK327.out 1).trans rfl; have hfz55_0 := blk_frozen BK327.out 0; have hfz55_1 := blk_frozen BK327.out 1; have hcz56_0 : w53.cell? ⟨gb324, 0, none⟩ = some (.int .i64 a0_0) := (blk_cell BK324.out 0).trans rfl; have hcz56_1 : w53.cell? ⟨gb324, 1, none⟩ = some (.int .i64 a0_1) := (blk_cell BK324.out 1).trans rfl; have hfz56_0 := blk_frozen BK324.out 0; have hfz56_1 := blk_frozen BK324.out 1) | (go_at_call 87; (with_reducible refine (spec_l2On.calls a2_0 a2_1 a3_0 a3_1 a0_0 a0_1 true _ A38.out).mono ?_); rintro e w57 ⟨rfl, hb⟩; have n0_ := Aside0.mk (blk_below (bf BK324.out) hb); have n1_ := Aside0.mk (blk_below (bf BK325.out) hb); have n2_ := Aside0.mk (blk_below (bf BK326.out) hb); have n3_ := Aside0.mk (blk_below (bf BK327.out) hb); have n4_ := Aside0.mk (below_step (lb HB.out) hb); clear BK324; clear BK325; clear BK326; clear BK327; clear HB; have BK324 := n0_; have BK325 := n1_; have BK326 := n2_; have BK327 := n3_; have HB := n4_; clear n0_ n1_ n2_ n3_ n4_; (try clear hb); (try clear hb2); (try clear hk); (try clear hi)))
     go_meet
     case rel => exact ⟨_, (true), (by first | rfl | (simp; done) | (simp [*]; done)), H', ⟨by first | omega | exact Nat.le_refl _⟩, ⟨bu BK324.out⟩, ⟨bu BK325.out⟩, ⟨bu BK326.out⟩, ⟨bu BK327.out⟩, ⟨lb HB.out⟩⟩
    ·replace c39 := Bool.eq_false_iff.mpr c39
     subst c39
     have H1 : ((spec_l2On.f a2_0 a2_1 a3_0 a3_1 a1_0 a1_1).bind fun t331 => (spec_l31Meet.j0 k t331 a0_0 a0_1 a1_0 a1_1 a2_0 a2_1 a3_0 a3_1)) = some r := by rw [if_neg (show ¬ (false = true) by decide)] at H; exact H
     clear H
     have H := H1
     clear H1
     replace H := Option.bind_eq_some_iff.mp H
     obtain ⟨t331, A580, H⟩ := H
     replace H : (spec_l31Meet.j0 k t331 a0_0 a0_1 a1_0 a1_1 a2_0 a2_1 a3_0 a3_1) = some r := H
     have A58 := Aside0.mk A580
     clear A580
     have H' := Aside0.mk H
     clear H
     have hnb59 := NB324_325.out
     have hnc59 := NB325_324.out
     have hnb60 := NB324_326.out
     have hnc60 := NB326_324.out
     have hnb61 := NB324_327.out
     have hnc61 := NB327_324.out
     have hcz62_0 : w9.cell? ⟨gb324, 0, none⟩ = some (.int .i64 a0_0) := (blk_cell BK324.out 0).trans rfl
     have hcz62_1 : w9.cell? ⟨gb324, 1, none⟩ = some (.int .i64 a0_1) := (blk_cell BK324.out 1).trans rfl
     have hfz62_0 := blk_frozen BK324.out 0
     have hfz62_1 := blk_frozen BK324.out 1
     have hnb63 := NB325_326.out
     have hnc63 := NB326_325.out
     have hnb64 := NB325_327.out
     have hnc64 := NB327_325.out
     have hcz65_0 : w9.cell? ⟨gb325, 0, none⟩ = some (.int .i64 a1_0) := (blk_cell BK325.out 0).trans rfl
     have hcz65_1 : w9.cell? ⟨gb325, 1, none⟩ = some (.int .i64 a1_1) := (blk_cell BK325.out 1).trans rfl
     have hfz65_0 := blk_frozen BK325.out 0
     have hfz65_1 := blk_frozen BK325.out 1
     have hnb66 := NB326_327.out
     have hnc66 := NB327_326.out
     have hcz67_0 : w9.cell? ⟨gb326, 0, none⟩ = some (.int .i64 a2_0) := (blk_cell BK326.out 0).trans rfl
     have hcz67_1 : w9.cell? ⟨gb326, 1, none⟩ = some (.int .i64 a2_1) := (blk_cell BK326.out 1).trans rfl
     have hfz67_0 := blk_frozen BK326.out 0
     have hfz67_1 := blk_frozen BK326.out 1
     go_wp2_with (first | ((with_reducible refine gate_callee (f := 87) rfl ?_); refine goesL_ (some 12) rfl rfl Try.func87 (by kernel_rfl) rfl #[.agg #[.int .i64 a0_0, .int .i64 a0_1], .agg #[.int .i64 a1_0, .int .i64 a1_1], .agg #[.int .i64 a2_0, .int .i64 a2_1]] rfl al ?_; (with_reducible refine (spec_l2On.calls a0_0 a0_1 a1_0 a1_1 a2_0 a2_1 false _ A10.out).mono ?_); rintro e w68 ⟨rfl, hb⟩; refine ⟨_, rfl, ?_⟩; have n0_ := Aside0.mk (blk_below (bf BK324.out) hb); have n1_ := Aside0.mk (blk_below (bf BK325.out) hb); have n2_ := Aside0.mk (blk_below (bf BK326.out) hb); have n3_ := Aside0.mk (blk_below (bf BK327.out) hb); have n4_ := Aside0.mk (below_step (lb HB.out) hb); clear BK324; clear BK325; clear BK326; clear BK327; clear HB; have BK324 := n0_; have BK325 := n1_; have BK326 := n2_; have BK327 := n3_; have HB := n4_; clear n0_ n1_ n2_ n3_ n4_; (try clear hb); (try clear hb2); (try clear hk); (try clear hi); have hcz69_0 : w68.cell? ⟨gb324, 0, none⟩ = some (.int .i64 a0_0) := (blk_cell BK324.out 0).trans rfl; have hcz69_1 : w68.cell? ⟨gb324, 1, none⟩ = some (.int .i64 a0_1) := (blk_cell BK324.out 1).trans rfl; have hfz69_0 := blk_frozen BK324.out 0; have hfz69_1 := blk_frozen BK324.out 1; have hcz70_0 : w68.cell? ⟨gb325, 0, none⟩ = some (.int .i64 a1_0) := (blk_cell BK325.out 0).trans rfl; have hcz70_1 : w68.cell? ⟨gb325, 1, none⟩ = some (.int .i64 a1_1) := (blk_cell BK325.out 1).trans rfl; have hfz70_0 := blk_frozen BK325.out 0; have hfz70_1 := blk_frozen BK325.out 1; have hcz71_0 : w68.cell? ⟨gb327, 0, none⟩ = some (.int .i64 a3_0) := (blk_cell BK327.out 0).trans rfl; have hcz71_1 : w68.cell? ⟨gb327, 1, none⟩ = some (.int .i64 a3_1) := (blk_cell BK327.out 1).trans rfl; have hfz71_0 := blk_frozen BK327.out 0; have hfz71_1 := blk_frozen BK327.out 1) | (go_at_call 87; (with_reducible refine (spec_l2On.calls a0_0 a0_1 a1_0 a1_1 a3_0 a3_1 false _ A22.out).mono ?_); rintro e w72 ⟨rfl, hb⟩; have n0_ := Aside0.mk (blk_below (bf BK324.out) hb); have n1_ := Aside0.mk (blk_below (bf BK325.out) hb); have n2_ := Aside0.mk (blk_below (bf BK326.out) hb); have n3_ := Aside0.mk (blk_below (bf BK327.out) hb); have n4_ := Aside0.mk (below_step (lb HB.out) hb); clear BK324; clear BK325; clear BK326; clear BK327; clear HB; have BK324 := n0_; have BK325 := n1_; have BK326 := n2_; have BK327 := n3_; have HB := n4_; clear n0_ n1_ n2_ n3_ n4_; (try clear hb); (try clear hb2); (try clear hk); (try clear hi); have hcz73_0 : w72.cell? ⟨gb326, 0, none⟩ = some (.int .i64 a2_0) := (blk_cell BK326.out 0).trans rfl; have hcz73_1 : w72.cell? ⟨gb326, 1, none⟩ = some (.int .i64 a2_1) := (blk_cell BK326.out 1).trans rfl; have hfz73_0 := blk_frozen BK326.out 0; have hfz73_1 := blk_frozen BK326.out 1; have hcz74_0 : w72.cell? ⟨gb327, 0, none⟩ = some (.int .i64 a3_0) := (blk_cell BK327.out 0).trans rfl; have hcz74_1 : w72.cell? ⟨gb327, 1, none⟩ = some (.int .i64 a3_1) := (blk_cell BK327.out 1).trans rfl; have hfz74_0 := blk_frozen BK327.out 0; have hfz74_1 := blk_frozen BK327.out 1; have hcz75_0 : w72.cell? ⟨gb324, 0, none⟩ = some (.int .i64 a0_0) := (blk_cell BK324.out 0).trans rfl; have hcz75_1 : w72.cell? ⟨gb324, 1, none⟩ = some (.int .i64 a0_1) := (blk_cell BK324.out 1).trans rfl; have hfz75_0 := blk_frozen BK324.out 0; have hfz75_1 := blk_frozen BK324.out 1) | (go_at_call 87; (with_reducible refine (spec_l2On.calls a2_0 a2_1 a3_0 a3_1 a0_0 a0_1 false _ A38.out).mono ?_); rintro e w76 ⟨rfl, hb⟩; have n0_ := Aside0.mk (blk_below (bf BK324.out) hb); have n1_ := Aside0.mk (blk_below (bf BK325.out) hb); have n2_ := Aside0.mk (blk_below (bf BK326.out) hb); have n3_ := Aside0.mk (blk_below (bf BK327.out) hb); have n4_ := Aside0.mk (below_step (lb HB.out) hb); clear BK324; clear BK325; clear BK326; clear BK327; clear HB; have BK324 := n0_; have BK325 := n1_; have BK326 := n2_; have BK327 := n3_; have HB := n4_; clear n0_ n1_ n2_ n3_ n4_; (try clear hb); (try clear hb2); (try clear hk); (try clear hi); have hcz77_0 : w76.cell? ⟨gb326, 0, none⟩ = some (.int .i64 a2_0) := (blk_cell BK326.out 0).trans rfl; have hcz77_1 : w76.cell? ⟨gb326, 1, none⟩ = some (.int .i64 a2_1) := (blk_cell BK326.out 1).trans rfl; have hfz77_0 := blk_frozen BK326.out 0; have hfz77_1 := blk_frozen BK326.out 1; have hcz78_0 : w76.cell? ⟨gb327, 0, none⟩ = some (.int .i64 a3_0) := (blk_cell BK327.out 0).trans rfl; have hcz78_1 : w76.cell? ⟨gb327, 1, none⟩ = some (.int .i64 a3_1) := (blk_cell BK327.out 1).trans rfl; have hfz78_0 := blk_frozen BK327.out 0; have hfz78_1 := blk_frozen BK327.out 1; have hcz79_0 : w76.cell? ⟨gb325, 0, none⟩ = some (.int .i64 a1_0) := (blk_cell BK325.out 0).trans rfl; have hcz79_1 : w76.cell? ⟨gb325, 1, none⟩ = some (.int .i64 a1_1) := (blk_cell BK325.out 1).trans rfl; have hfz79_0 := blk_frozen BK325.out 0; have hfz79_1 := blk_frozen BK325.out 1) | (go_at_call 87; (with_reducible refine (spec_l2On.calls a2_0 a2_1 a3_0 a3_1 a1_0 a1_1 t331 _ A58.out).mono ?_); rintro e w80 ⟨rfl, hb⟩; have n0_ := Aside0.mk (blk_below (bf BK324.out) hb); have n1_ := Aside0.mk (blk_below (bf BK325.out) hb); have n2_ := Aside0.mk (blk_below (bf BK326.out) hb); have n3_ := Aside0.mk (blk_below (bf BK327.out) hb); have n4_ := Aside0.mk (below_step (lb HB.out) hb); clear BK324; clear BK325; clear BK326; clear BK327; clear HB; have BK324 := n0_; have BK325 := n1_; have BK326 := n2_; have BK327 := n3_; have HB := n4_; clear n0_ n1_ n2_ n3_ n4_; (try clear hb); (try clear hb2); (try clear hk); (try clear hi)))
     go_meet
     case rel => exact ⟨_, (t331), (by first | rfl | (simp; done) | (simp [*]; done)), H', ⟨by first | omega | exact Nat.le_refl _⟩, ⟨bu BK324.out⟩, ⟨bu BK325.out⟩, ⟨bu BK326.out⟩, ⟨bu BK327.out⟩, ⟨lb HB.out⟩⟩
 case rest =>
  clear HC5
  try clear c1
  try clear c2
  try clear p2
  try clear c3
  try clear c4
  try clear c5
  try clear c6
  try clear c8
  try clear c11
  try clear c12
  try clear c13
  try clear c14
  try clear c16
  try clear c17
  try clear c19
  try clear c23
  try clear c24
  try clear c25
  try clear c26
  try clear c28
  try clear c29
  try clear c31
  try clear c39
  try clear c40
  try clear c41
  try clear c42
  try clear c44
  try clear c45
  try clear c47
  try clear c59
  try clear c60
  try clear c61
  try clear c62
  try clear c63
  try clear c64
  try clear c66
  try clear hcz15_0
  try clear hcz15_1
  try clear hcz18_0
  try clear hcz18_1
  try clear hcz20_0
  try clear hcz20_1
  try clear hcz27_0
  try clear hcz27_1
  try clear hcz30_0
  try clear hcz30_1
  try clear hcz32_0
  try clear hcz32_1
  try clear hcz34_0
  try clear hcz34_1
  try clear hcz35_0
  try clear hcz35_1
  try clear hcz36_0
  try clear hcz36_1
  try clear hcz43_0
  try clear hcz43_1
  try clear hcz46_0
  try clear hcz46_1
  try clear hcz48_0
  try clear hcz48_1
  try clear hcz50_0
  try clear hcz50_1
  try clear hcz51_0
  try clear hcz51_1
  try clear hcz52_0
  try clear hcz52_1
  try clear hcz54_0
  try clear hcz54_1
  try clear hcz55_0
  try clear hcz55_1
  try clear hcz56_0
  try clear hcz56_1
  try clear hcz62_0
  try clear hcz62_1
  try clear hcz65_0
  try clear hcz65_1
  try clear hcz67_0
  try clear hcz67_1
  try clear hcz69_0
  try clear hcz69_1
  try clear hcz70_0
  try clear hcz70_1
  try clear hcz71_0
  try clear hcz71_1
  try clear hcz73_0
  try clear hcz73_1
  try clear hcz74_0
  try clear hcz74_1
  try clear hcz75_0
  try clear hcz75_1
  try clear hcz77_0
  try clear hcz77_1
  try clear hcz78_0
  try clear hcz78_1
  try clear hcz79_0
  try clear hcz79_1
  try clear hfz15_0
  try clear hfz15_1
  try clear hfz18_0
  try clear hfz18_1
  try clear hfz20_0
  try clear hfz20_1
  try clear hfz27_0
  try clear hfz27_1
  try clear hfz30_0
  try clear hfz30_1
  try clear hfz32_0
  try clear hfz32_1
  try clear hfz34_0
  try clear hfz34_1
  try clear hfz35_0
  try clear hfz35_1
  try clear hfz36_0
  try clear hfz36_1
  try clear hfz43_0
  try clear hfz43_1
  try clear hfz46_0
  try clear hfz46_1
  try clear hfz48_0
  try clear hfz48_1
  try clear hfz50_0
  try clear hfz50_1
  try clear hfz51_0
  try clear hfz51_1
  try clear hfz52_0
  try clear hfz52_1
  try clear hfz54_0
  try clear hfz54_1
  try clear hfz55_0
  try clear hfz55_1
  try clear hfz56_0
  try clear hfz56_1
  try clear hfz62_0
  try clear hfz62_1
  try clear hfz65_0
  try clear hfz65_1
  try clear hfz67_0
  try clear hfz67_1
  try clear hfz69_0
  try clear hfz69_1
  try clear hfz70_0
  try clear hfz70_1
  try clear hfz71_0
  try clear hfz71_1
  try clear hfz73_0
  try clear hfz73_1
  try clear hfz74_0
  try clear hfz74_1
  try clear hfz75_0
  try clear hfz75_1
  try clear hfz77_0
  try clear hfz77_1
  try clear hfz78_0
  try clear hfz78_1
  try clear hfz79_0
  try clear hfz79_1
  obtain ⟨kq, x30_4, rfl, HA, HJ4, BK324, BK325, BK326, BK327, HB⟩ := hcut
  cases kq with
  | zero => exact absurd HA.out (by simp [spec_l31Meet.j0])
  | succ kj4 =>
   have H := HA.out
   clear HA
   simp only [spec_l31Meet.j0] at H
   by_cases c81 : x30_4 = true
   ·subst c81
    have H1 : (some true) = some r := by rw [if_pos rfl] at H; exact H
    clear H
    have H := H1
    clear H1
    obtain rfl := Option.some.inj H
    go_wp2
    go_ret
    exact ⟨er, lb HB.out⟩
   ·replace c81 := Bool.eq_false_iff.mpr c81
    subst c81
    have H1 : ((spec_l31Side.f a0_0 a0_1 a1_0 a1_1 a2_0 a2_1).bind fun t332 => ((spec_l31Side.f a0_0 a0_1 a1_0 a1_1 a3_0 a3_1).bind fun t333 => (if (wrap64 (t332 * t333)) < 0 then ((spec_l31Side.f a2_0 a2_1 a3_0 a3_1 a0_0 a0_1).bind fun t334 => ((spec_l31Side.f a2_0 a2_1 a3_0 a3_1 a1_0 a1_1).bind fun t335 => (some (decide ((wrap64 (t334 * t335)) < 0))))) else (some false)))) = some r := by rw [if_neg (show ¬ (false = true) by decide)] at H; exact H
    clear H
    have H := H1
    clear H1
    replace H := Option.bind_eq_some_iff.mp H
    obtain ⟨t332, A820, H⟩ := H
    replace H : ((spec_l31Side.f a0_0 a0_1 a1_0 a1_1 a3_0 a3_1).bind fun t333 => (if (wrap64 (t332 * t333)) < 0 then ((spec_l31Side.f a2_0 a2_1 a3_0 a3_1 a0_0 a0_1).bind fun t334 => ((spec_l31Side.f a2_0 a2_1 a3_0 a3_1 a1_0 a1_1).bind fun t335 => (some (decide ((wrap64 (t334 * t335)) < 0))))) else (some false))) = some r := H
    have A82 := Aside0.mk A820
    clear A820
    replace H := Option.bind_eq_some_iff.mp H
    obtain ⟨t333, A830, H⟩ := H
    replace H : (if (wrap64 (t332 * t333)) < 0 then ((spec_l31Side.f a2_0 a2_1 a3_0 a3_1 a0_0 a0_1).bind fun t334 => ((spec_l31Side.f a2_0 a2_1 a3_0 a3_1 a1_0 a1_1).bind fun t335 => (some (decide ((wrap64 (t334 * t335)) < 0))))) else (some false)) = some r := H
    have A83 := Aside0.mk A830
    clear A830
    by_cases c84 : (wrap64 (t332 * t333)) < 0
    ·rw [if_pos c84] at H
     have c84b0 : decide ((wrap64 (t332 * t333)) < 0) = true := decide_eq_true c84
     clear c84
     replace H := Option.bind_eq_some_iff.mp H
     obtain ⟨t334, A850, H⟩ := H
     replace H : ((spec_l31Side.f a2_0 a2_1 a3_0 a3_1 a1_0 a1_1).bind fun t335 => (some (decide ((wrap64 (t334 * t335)) < 0)))) = some r := H
     have A85 := Aside0.mk A850
     clear A850
     replace H := Option.bind_eq_some_iff.mp H
     obtain ⟨t335, A860, H⟩ := H
     replace H : (some (decide ((wrap64 (t334 * t335)) < 0))) = some r := H
     have A86 := Aside0.mk A860
     clear A860
     obtain rfl := Option.some.inj H
     try go_wp2
     have n0_ := Aside0.mk (blk_drew BK324.out)
     have n1_ := Aside0.mk (blk_drew BK325.out)
     have n2_ := Aside0.mk (blk_drew BK326.out)
     have n3_ := Aside0.mk (blk_drew BK327.out)
     have n4_ := Aside0.mk (below_drew1 HB.out)
     clear BK324 BK325 BK326 BK327 HB
     have BK324 := n0_
     have BK325 := n1_
     have BK326 := n2_
     have BK327 := n3_
     have HB := n4_
     clear n0_ n1_ n2_ n3_ n4_
     refine start_ (n := 23) (S := fun w' => w'.cell? ⟨gb324, 0, none⟩ = some (.int .i64 a0_0) ∧ w'.cell? ⟨gb324, 1, none⟩ = some (.int .i64 a0_1) ∧ w'.cell? ⟨gb325, 0, none⟩ = some (.int .i64 a1_0) ∧ w'.cell? ⟨gb325, 1, none⟩ = some (.int .i64 a1_1) ∧ w'.cell? ⟨gb326, 0, none⟩ = some (.int .i64 a2_0) ∧ w'.cell? ⟨gb326, 1, none⟩ = some (.int .i64 a2_1) ∧ w'.cell? ⟨gb327, 0, none⟩ = some (.int .i64 a3_0) ∧ w'.cell? ⟨gb327, 1, none⟩ = some (.int .i64 a3_1)) (ds := []) #[false,false,false,false,false,false,false,false,false,false,false,false,false,false,false,false,false,false,false,false,false,false,false] (by kernel_rfl) rfl rfl ⟨(blk_cell BK324.out 0).trans rfl, (blk_cell BK324.out 1).trans rfl, (blk_cell BK325.out 0).trans rfl, (blk_cell BK325.out 1).trans rfl, (blk_cell BK326.out 0).trans rfl, (blk_cell BK326.out 1).trans rfl, (blk_cell BK327.out 0).trans rfl, (blk_cell BK327.out 1).trans rfl⟩ (fun hHeld => ?_); refine with_tabW spec_l31Meet.tab3 spec_l31Meet.bits3 (fun HT_ HW_ => ?_)
     generalize wc.drew = w87 at BK324 BK325 BK326 BK327 HB hHeld ⊢
     refine tq_ 0 (some 31) ?_
     refine tq_ 1 (some 32) ?_
     refine tq_ 2 (some 33) ?_
     refine tq_ 4 (some 35) ?_
     refine tq_ 5 (some 36) ?_
     refine tq_ 6 (some 37) ?_
     refine one_ (i := 3) (N := some 34) #[true,true,true,true,true,true,true,false,false,false,false,false,false,false,false,false,false,false,false,false,false,false,false] rfl rfl (one_of HT_.out (by kernel_rfl)) (by decide) (fun K hK => ?_)
     refine goes_ Try.func55 (by kernel_rfl) rfl #[.agg #[.int .i64 a0_0, .int .i64 a0_1], .agg #[.int .i64 a1_0, .int .i64 a1_1], .agg #[.int .i64 a2_0, .int .i64 a2_1]] (by rfl) rfl rfl al ?_
     with_reducible refine (spec_l31Side.calls a0_0 a0_1 a1_0 a1_1 a2_0 a2_1 t332 _ A82.out).mono ?_
     rintro e w88 ⟨rfl, hb⟩
     refine ⟨_, rfl, ?_⟩
     have n0_ := Aside0.mk (blk_below (bf BK324.out) hb)
     have n1_ := Aside0.mk (blk_below (bf BK325.out) hb)
     have n2_ := Aside0.mk (blk_below (bf BK326.out) hb)
     have n3_ := Aside0.mk (blk_below (bf BK327.out) hb)
     have n4_ := Aside0.mk (below_step (lb HB.out) hb)
     clear BK324 BK325 BK326 BK327 HB
     have BK324 := n0_
     have BK325 := n1_
     have BK326 := n2_
     have BK327 := n3_
     have HB := n4_
     clear n0_ n1_ n2_ n3_ n4_
     (try clear hb);(try clear hb2);(try clear hk);(try clear hi)
     refine hK.out _ _ ⟨(blk_cell BK324.out 0).trans rfl, (blk_cell BK324.out 1).trans rfl, (blk_cell BK325.out 0).trans rfl, (blk_cell BK325.out 1).trans rfl, (blk_cell BK326.out 0).trans rfl, (blk_cell BK326.out 1).trans rfl, (blk_cell BK327.out 0).trans rfl, (blk_cell BK327.out 1).trans rfl⟩ (fun hHeld => ?_)
     clear hK K
     refine norm_ (a' := ?_) ?_ ?_
     rotate_left
     ·show Act.put _ (some 34) _ = _
      simp only [Act.put, List.setIfInBounds_toArray, List.set_cons_zero, List.set_cons_succ, i64_w, i32_w]
      rfl
     refine one_ (i := 7) (N := some 38) #[true,true,true,true,true,true,true,true,false,false,false,false,false,false,false,false,false,false,false,false,false,false,false] rfl rfl (one_of HT_.out (by kernel_rfl)) (by decide) (fun K hK => ?_)
     refine goes_ Try.func55 (by kernel_rfl) rfl #[.agg #[.int .i64 a0_0, .int .i64 a0_1], .agg #[.int .i64 a1_0, .int .i64 a1_1], .agg #[.int .i64 a3_0, .int .i64 a3_1]] (by rfl) rfl rfl al ?_
     with_reducible refine (spec_l31Side.calls a0_0 a0_1 a1_0 a1_1 a3_0 a3_1 t333 _ A83.out).mono ?_
     rintro e w89 ⟨rfl, hb⟩
     refine ⟨_, rfl, ?_⟩
     have n0_ := Aside0.mk (blk_below (bf BK324.out) hb)
     have n1_ := Aside0.mk (blk_below (bf BK325.out) hb)
     have n2_ := Aside0.mk (blk_below (bf BK326.out) hb)
     have n3_ := Aside0.mk (blk_below (bf BK327.out) hb)
     have n4_ := Aside0.mk (below_step (lb HB.out) hb)
     clear BK324 BK325 BK326 BK327 HB
     have BK324 := n0_
     have BK325 := n1_
     have BK326 := n2_
     have BK327 := n3_
     have HB := n4_
     clear n0_ n1_ n2_ n3_ n4_
     (try clear hb);(try clear hb2);(try clear hk);(try clear hi)
     refine hK.out _ _ ⟨(blk_cell BK324.out 0).trans rfl, (blk_cell BK324.out 1).trans rfl, (blk_cell BK325.out 0).trans rfl, (blk_cell BK325.out 1).trans rfl, (blk_cell BK326.out 0).trans rfl, (blk_cell BK326.out 1).trans rfl, (blk_cell BK327.out 0).trans rfl, (blk_cell BK327.out 1).trans rfl⟩ (fun hHeld => ?_)
     clear hK K
     refine norm_ (a' := ?_) ?_ ?_
     rotate_left
     ·show Act.put _ (some 38) _ = _
      simp only [Act.put, List.setIfInBounds_toArray, List.set_cons_zero, List.set_cons_succ, i64_w, i32_w]
      rfl
     refine pq_ 8 (some 39) ?_
     refine pq_ 9 (some 40) ?_
     refine pq_ 10 (some 41) ?_
     refine tq_ 11 (some 42) ?_
     refine tq_ 12 (some 43) ?_
     refine tq_ 13 (some 44) ?_
     refine tq_ 15 (some 46) ?_
     refine tq_ 16 (some 47) ?_
     refine tq_ 17 (some 48) ?_
     refine one_ (i := 14) (N := some 45) #[true,true,true,true,true,true,true,true,true,true,true,true,true,true,true,true,true,true,false,false,false,false,false] rfl rfl (one_of HT_.out (by kernel_rfl)) (by decide) (fun K hK => ?_)
     refine goes_ Try.func55 (by kernel_rfl) rfl #[.agg #[.int .i64 a2_0, .int .i64 a2_1], .agg #[.int .i64 a3_0, .int .i64 a3_1], .agg #[.int .i64 a0_0, .int .i64 a0_1]] (by rfl) rfl rfl al ?_
     with_reducible refine (spec_l31Side.calls a2_0 a2_1 a3_0 a3_1 a0_0 a0_1 t334 _ A85.out).mono ?_
     rintro e w90 ⟨rfl, hb⟩
     refine ⟨_, rfl, ?_⟩
     have n0_ := Aside0.mk (blk_below (bf BK324.out) hb)
     have n1_ := Aside0.mk (blk_below (bf BK325.out) hb)
     have n2_ := Aside0.mk (blk_below (bf BK326.out) hb)
     have n3_ := Aside0.mk (blk_below (bf BK327.out) hb)
     have n4_ := Aside0.mk (below_step (lb HB.out) hb)
     clear BK324 BK325 BK326 BK327 HB
     have BK324 := n0_
     have BK325 := n1_
     have BK326 := n2_
     have BK327 := n3_
     have HB := n4_
     clear n0_ n1_ n2_ n3_ n4_
     (try clear hb);(try clear hb2);(try clear hk);(try clear hi)
     refine hK.out _ _ ⟨(blk_cell BK324.out 0).trans rfl, (blk_cell BK324.out 1).trans rfl, (blk_cell BK325.out 0).trans rfl, (blk_cell BK325.out 1).trans rfl, (blk_cell BK326.out 0).trans rfl, (blk_cell BK326.out 1).trans rfl, (blk_cell BK327.out 0).trans rfl, (blk_cell BK327.out 1).trans rfl⟩ (fun hHeld => ?_)
     clear hK K
     refine norm_ (a' := ?_) ?_ ?_
     rotate_left
     ·show Act.put _ (some 45) _ = _
      simp only [Act.put, List.setIfInBounds_toArray, List.set_cons_zero, List.set_cons_succ, i64_w, i32_w]
      rfl
     refine one_ (i := 18) (N := some 49) #[true,true,true,true,true,true,true,true,true,true,true,true,true,true,true,true,true,true,true,false,false,false,false] rfl rfl (one_of HT_.out (by kernel_rfl)) (by decide) (fun K hK => ?_)
     refine goes_ Try.func55 (by kernel_rfl) rfl #[.agg #[.int .i64 a2_0, .int .i64 a2_1], .agg #[.int .i64 a3_0, .int .i64 a3_1], .agg #[.int .i64 a1_0, .int .i64 a1_1]] (by rfl) rfl rfl al ?_
     with_reducible refine (spec_l31Side.calls a2_0 a2_1 a3_0 a3_1 a1_0 a1_1 t335 _ A86.out).mono ?_
     rintro e w91 ⟨rfl, hb⟩
     refine ⟨_, rfl, ?_⟩
     have n0_ := Aside0.mk (blk_below (bf BK324.out) hb)
     have n1_ := Aside0.mk (blk_below (bf BK325.out) hb)
     have n2_ := Aside0.mk (blk_below (bf BK326.out) hb)
     have n3_ := Aside0.mk (blk_below (bf BK327.out) hb)
     have n4_ := Aside0.mk (below_step (lb HB.out) hb)
     clear BK324 BK325 BK326 BK327 HB
     have BK324 := n0_
     have BK325 := n1_
     have BK326 := n2_
     have BK327 := n3_
     have HB := n4_
     clear n0_ n1_ n2_ n3_ n4_
     (try clear hb);(try clear hb2);(try clear hk);(try clear hi)
     refine hK.out _ _ ⟨(blk_cell BK324.out 0).trans rfl, (blk_cell BK324.out 1).trans rfl, (blk_cell BK325.out 0).trans rfl, (blk_cell BK325.out 1).trans rfl, (blk_cell BK326.out 0).trans rfl, (blk_cell BK326.out 1).trans rfl, (blk_cell BK327.out 0).trans rfl, (blk_cell BK327.out 1).trans rfl⟩ (fun hHeld => ?_)
     clear hK K
     refine norm_ (a' := ?_) ?_ ?_
     rotate_left
     ·show Act.put _ (some 49) _ = _
      simp only [Act.put, List.setIfInBounds_toArray, List.set_cons_zero, List.set_cons_succ, i64_w, i32_w]
      rfl
     refine pq_ 19 (some 50) ?_
     refine pq_ 20 (some 51) ?_
     refine pq_ 21 (some 52) ?_
     refine pq_ 22 (some 8) ?_
     refine done_ (done_of HT_.out (by kernel_rfl)) ?_
     try go_wp2
     go_ret
     exact ⟨er, lb HB.out⟩
    ·rw [if_neg c84] at H
     have c84b0 : decide ((wrap64 (t332 * t333)) < 0) = false := decide_eq_false c84
     clear c84
     obtain rfl := Option.some.inj H
     try go_wp2
     have n0_ := Aside0.mk (blk_drew BK324.out)
     have n1_ := Aside0.mk (blk_drew BK325.out)
     have n2_ := Aside0.mk (blk_drew BK326.out)
     have n3_ := Aside0.mk (blk_drew BK327.out)
     have n4_ := Aside0.mk (below_drew1 HB.out)
     clear BK324 BK325 BK326 BK327 HB
     have BK324 := n0_
     have BK325 := n1_
     have BK326 := n2_
     have BK327 := n3_
     have HB := n4_
     clear n0_ n1_ n2_ n3_ n4_
     refine start_ (n := 23) (S := fun w' => w'.cell? ⟨gb324, 0, none⟩ = some (.int .i64 a0_0) ∧ w'.cell? ⟨gb324, 1, none⟩ = some (.int .i64 a0_1) ∧ w'.cell? ⟨gb325, 0, none⟩ = some (.int .i64 a1_0) ∧ w'.cell? ⟨gb325, 1, none⟩ = some (.int .i64 a1_1) ∧ w'.cell? ⟨gb326, 0, none⟩ = some (.int .i64 a2_0) ∧ w'.cell? ⟨gb326, 1, none⟩ = some (.int .i64 a2_1) ∧ w'.cell? ⟨gb327, 0, none⟩ = some (.int .i64 a3_0) ∧ w'.cell? ⟨gb327, 1, none⟩ = some (.int .i64 a3_1)) (ds := []) #[false,false,false,false,false,false,false,false,false,false,false,false,false,false,false,false,false,false,false,false,false,false,false] (by kernel_rfl) rfl rfl ⟨(blk_cell BK324.out 0).trans rfl, (blk_cell BK324.out 1).trans rfl, (blk_cell BK325.out 0).trans rfl, (blk_cell BK325.out 1).trans rfl, (blk_cell BK326.out 0).trans rfl, (blk_cell BK326.out 1).trans rfl, (blk_cell BK327.out 0).trans rfl, (blk_cell BK327.out 1).trans rfl⟩ (fun hHeld => ?_); refine with_tabW spec_l31Meet.tab3 spec_l31Meet.bits3 (fun HT_ HW_ => ?_)
     generalize wc.drew = w92 at BK324 BK325 BK326 BK327 HB hHeld ⊢
     refine tq_ 0 (some 31) ?_
     refine tq_ 1 (some 32) ?_
     refine tq_ 2 (some 33) ?_
     refine tq_ 4 (some 35) ?_
     refine tq_ 5 (some 36) ?_
     refine tq_ 6 (some 37) ?_
     refine one_ (i := 3) (N := some 34) #[true,true,true,true,true,true,true,false,false,false,false,false,false,false,false,false,false,false,false,false,false,false,false] rfl rfl (one_of HT_.out (by kernel_rfl)) (by decide) (fun K hK => ?_)
     refine goes_ Try.func55 (by kernel_rfl) rfl #[.agg #[.int .i64 a0_0, .int .i64 a0_1], .agg #[.int .i64 a1_0, .int .i64 a1_1], .agg #[.int .i64 a2_0, .int .i64 a2_1]] (by rfl) rfl rfl al ?_
     with_reducible refine (spec_l31Side.calls a0_0 a0_1 a1_0 a1_1 a2_0 a2_1 t332 _ A82.out).mono ?_
     rintro e w93 ⟨rfl, hb⟩
     refine ⟨_, rfl, ?_⟩
     have n0_ := Aside0.mk (blk_below (bf BK324.out) hb)
     have n1_ := Aside0.mk (blk_below (bf BK325.out) hb)
     have n2_ := Aside0.mk (blk_below (bf BK326.out) hb)
     have n3_ := Aside0.mk (blk_below (bf BK327.out) hb)
     have n4_ := Aside0.mk (below_step (lb HB.out) hb)
     clear BK324 BK325 BK326 BK327 HB
     have BK324 := n0_
     have BK325 := n1_
     have BK326 := n2_
     have BK327 := n3_
     have HB := n4_
     clear n0_ n1_ n2_ n3_ n4_
     (try clear hb);(try clear hb2);(try clear hk);(try clear hi)
     refine hK.out _ _ ⟨(blk_cell BK324.out 0).trans rfl, (blk_cell BK324.out 1).trans rfl, (blk_cell BK325.out 0).trans rfl, (blk_cell BK325.out 1).trans rfl, (blk_cell BK326.out 0).trans rfl, (blk_cell BK326.out 1).trans rfl, (blk_cell BK327.out 0).trans rfl, (blk_cell BK327.out 1).trans rfl⟩ (fun hHeld => ?_)
     clear hK K
     refine norm_ (a' := ?_) ?_ ?_
     rotate_left
     ·show Act.put _ (some 34) _ = _
      simp only [Act.put, List.setIfInBounds_toArray, List.set_cons_zero, List.set_cons_succ, i64_w, i32_w]
      rfl
     refine one_ (i := 7) (N := some 38) #[true,true,true,true,true,true,true,true,false,false,false,false,false,false,false,false,false,false,false,false,false,false,false] rfl rfl (one_of HT_.out (by kernel_rfl)) (by decide) (fun K hK => ?_)
     refine goes_ Try.func55 (by kernel_rfl) rfl #[.agg #[.int .i64 a0_0, .int .i64 a0_1], .agg #[.int .i64 a1_0, .int .i64 a1_1], .agg #[.int .i64 a3_0, .int .i64 a3_1]] (by rfl) rfl rfl al ?_
     with_reducible refine (spec_l31Side.calls a0_0 a0_1 a1_0 a1_1 a3_0 a3_1 t333 _ A83.out).mono ?_
     rintro e w94 ⟨rfl, hb⟩
     refine ⟨_, rfl, ?_⟩
     have n0_ := Aside0.mk (blk_below (bf BK324.out) hb)
     have n1_ := Aside0.mk (blk_below (bf BK325.out) hb)
     have n2_ := Aside0.mk (blk_below (bf BK326.out) hb)
     have n3_ := Aside0.mk (blk_below (bf BK327.out) hb)
     have n4_ := Aside0.mk (below_step (lb HB.out) hb)
     clear BK324 BK325 BK326 BK327 HB
     have BK324 := n0_
     have BK325 := n1_
     have BK326 := n2_
     have BK327 := n3_
     have HB := n4_
     clear n0_ n1_ n2_ n3_ n4_
     (try clear hb);(try clear hb2);(try clear hk);(try clear hi)
     refine hK.out _ _ ⟨(blk_cell BK324.out 0).trans rfl, (blk_cell BK324.out 1).trans rfl, (blk_cell BK325.out 0).trans rfl, (blk_cell BK325.out 1).trans rfl, (blk_cell BK326.out 0).trans rfl, (blk_cell BK326.out 1).trans rfl, (blk_cell BK327.out 0).trans rfl, (blk_cell BK327.out 1).trans rfl⟩ (fun hHeld => ?_)
     clear hK K
     refine norm_ (a' := ?_) ?_ ?_
     rotate_left
     ·show Act.put _ (some 38) _ = _
      simp only [Act.put, List.setIfInBounds_toArray, List.set_cons_zero, List.set_cons_succ, i64_w, i32_w]
      rfl
     refine pq_ 8 (some 39) ?_
     refine pq_ 9 (some 40) ?_
     refine pq_ 10 (some 41) ?_
     refine pure_ (i := 11) (N := some 42) (v := undef) (a' := ?_) #[true,true,true,true,true,true,true,true,true,true,true,true,false,false,false,false,false,false,false,false,false,false,false] rfl rfl (any_of HT_.out (by kernel_rfl)) (fun _ _ _ h => h) (Or.inr ⟨by rfl, rfl⟩) ?_ ?_
     rotate_left
     ·simp only [Act.put, List.setIfInBounds_toArray, List.set_cons_zero, List.set_cons_succ, i64_w, i32_w]
      rfl
     refine pure_ (i := 12) (N := some 43) (v := undef) (a' := ?_) #[true,true,true,true,true,true,true,true,true,true,true,true,true,false,false,false,false,false,false,false,false,false,false] rfl rfl (any_of HT_.out (by kernel_rfl)) (fun _ _ _ h => h) (Or.inr ⟨by rfl, rfl⟩) ?_ ?_
     rotate_left
     ·simp only [Act.put, List.setIfInBounds_toArray, List.set_cons_zero, List.set_cons_succ, i64_w, i32_w]
      rfl
     refine pure_ (i := 13) (N := some 44) (v := undef) (a' := ?_) #[true,true,true,true,true,true,true,true,true,true,true,true,true,true,false,false,false,false,false,false,false,false,false] rfl rfl (any_of HT_.out (by kernel_rfl)) (fun _ _ _ h => h) (Or.inr ⟨by rfl, rfl⟩) ?_ ?_
     rotate_left
     ·simp only [Act.put, List.setIfInBounds_toArray, List.set_cons_zero, List.set_cons_succ, i64_w, i32_w]
      rfl
     refine pure_ (i := 14) (N := some 45) (v := undef) (a' := ?_) #[true,true,true,true,true,true,true,true,true,true,true,true,true,true,true,false,false,false,false,false,false,false,false] rfl rfl (any_of HT_.out (by kernel_rfl)) (fun _ _ _ h => h) (Or.inr ⟨by rfl, rfl⟩) ?_ ?_
     rotate_left
     ·simp only [Act.put, List.setIfInBounds_toArray, List.set_cons_zero, List.set_cons_succ, i64_w, i32_w]
      rfl
     refine pure_ (i := 15) (N := some 46) (v := undef) (a' := ?_) #[true,true,true,true,true,true,true,true,true,true,true,true,true,true,true,true,false,false,false,false,false,false,false] rfl rfl (any_of HT_.out (by kernel_rfl)) (fun _ _ _ h => h) (Or.inr ⟨by rfl, rfl⟩) ?_ ?_
     rotate_left
     ·simp only [Act.put, List.setIfInBounds_toArray, List.set_cons_zero, List.set_cons_succ, i64_w, i32_w]
      rfl
     refine pure_ (i := 16) (N := some 47) (v := undef) (a' := ?_) #[true,true,true,true,true,true,true,true,true,true,true,true,true,true,true,true,true,false,false,false,false,false,false] rfl rfl (any_of HT_.out (by kernel_rfl)) (fun _ _ _ h => h) (Or.inr ⟨by rfl, rfl⟩) ?_ ?_
     rotate_left
     ·simp only [Act.put, List.setIfInBounds_toArray, List.set_cons_zero, List.set_cons_succ, i64_w, i32_w]
      rfl
     refine pure_ (i := 17) (N := some 48) (v := undef) (a' := ?_) #[true,true,true,true,true,true,true,true,true,true,true,true,true,true,true,true,true,true,false,false,false,false,false] rfl rfl (any_of HT_.out (by kernel_rfl)) (fun _ _ _ h => h) (Or.inr ⟨by rfl, rfl⟩) ?_ ?_
     rotate_left
     ·simp only [Act.put, List.setIfInBounds_toArray, List.set_cons_zero, List.set_cons_succ, i64_w, i32_w]
      rfl
     refine pure_ (i := 18) (N := some 49) (v := undef) (a' := ?_) #[true,true,true,true,true,true,true,true,true,true,true,true,true,true,true,true,true,true,true,false,false,false,false] rfl rfl (any_of HT_.out (by kernel_rfl)) (fun _ _ _ h => h) (Or.inr ⟨by rfl, rfl⟩) ?_ ?_
     rotate_left
     ·simp only [Act.put, List.setIfInBounds_toArray, List.set_cons_zero, List.set_cons_succ, i64_w, i32_w]
      rfl
     refine pure_ (i := 19) (N := some 50) (v := undef) (a' := ?_) #[true,true,true,true,true,true,true,true,true,true,true,true,true,true,true,true,true,true,true,true,false,false,false] rfl rfl (any_of HT_.out (by kernel_rfl)) (fun _ _ _ h => h) (Or.inr ⟨by rfl, rfl⟩) ?_ ?_
     rotate_left
     ·simp only [Act.put, List.setIfInBounds_toArray, List.set_cons_zero, List.set_cons_succ, i64_w, i32_w]
      rfl
     refine pure_ (i := 20) (N := some 51) (v := undef) (a' := ?_) #[true,true,true,true,true,true,true,true,true,true,true,true,true,true,true,true,true,true,true,true,true,false,false] rfl rfl (any_of HT_.out (by kernel_rfl)) (fun _ _ _ h => h) (Or.inr ⟨by rfl, rfl⟩) ?_ ?_
     rotate_left
     ·simp only [Act.put, List.setIfInBounds_toArray, List.set_cons_zero, List.set_cons_succ, i64_w, i32_w]
      rfl
     refine pq_ 21 (some 52) ?_
     refine pq_ 22 (some 8) ?_
     refine done_ (done_of HT_.out (by kernel_rfl)) ?_
     try go_wp2
     go_ret
     exact ⟨er, lb HB.out⟩
end Go.Proofs.Ytfonigbkoligmaa.P
-- squeezed

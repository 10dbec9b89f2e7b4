-- Written by a program of this session (wip/xprint.py over the print's own program), not by print.sh. Lean checks it.
import Derived.Test.YtgoejfdciejikaaPx0
import Derived.Test.YtgoejfdciejikaaPx4
import Derived.Test.YtgoejfdciejikaaPx19
import Derived.Test.YtgoejfdciejikaaPx21
import Derived.Test.YtgoejfdciejikaaPx22
namespace Go.Proofs.Ytgoejfdciejikaa.P
open Go.RowKit Go.Proofs.YtgoejfdciejikaaW.PrintWords Go.Proofs.YtgoejfdciejikaaW.PrintLast Go.Proofs.YtgoejfdciejikaaW.PrintMore
attribute [local go_sem] max2_int min2_int max_two min_two max_three min_three max_four min_four   -- for this text's walks alone
set_option linter.unusedVariables false
set_option linter.unusedSimpArgs false

/-! ### laws_FnExactCrossOf: function 5 -/
def laws_FnExactCrossOf.f (k : Nat) (a0_0 : Int) (a0_1 : Int) (a1_0 : Int) (a1_1 : Int) (a2_0 : Int) (a2_1 : Int) (a3_0 : Int) (a3_1 : Int) : Option (Bool) := (laws_toPoint.f a0_0 a0_1).bind fun bt264 => ((laws_toPoint.f a1_0 a1_1).bind fun bt266 => ((laws_toPoint.f a2_0 a2_1).bind fun bt268 => ((laws_toPoint.f a3_0 a3_1).bind fun bt270 => ((spec_CrossOf.f k bt264.1 bt264.2 bt266.1 bt266.2 bt268.1 bt268.2 bt270.1 bt270.2).bind fun bt272 => ((laws_toPoint.f a0_0 a0_1).bind fun bt276 => ((laws_toPoint.f a1_0 a1_1).bind fun bt278 => ((laws_toPoint.f a2_0 a2_1).bind fun bt280 => ((laws_toPoint.f a3_0 a3_1).bind fun bt282 => ((impl_CrossOf.f k bt276.1 bt276.2 bt278.1 bt278.2 bt280.1 bt280.2 bt282.1 bt282.2).bind fun bt284 => ((laws_eqQuo.f bt284.1 bt284.2.1 bt272.1 bt272.2.1).bind fun t288 => (if t288 = true then (if (bt284.2.2 != bt272.2.2) = true then (some false) else (some true)) else (some false))))))))))))
theorem laws_FnExactCrossOf.mono : ∀ a0 a1 a2 a3 a4 a5 a6 a7 k, LeO (laws_FnExactCrossOf.f k a0 a1 a2 a3 a4 a5 a6 a7) (laws_FnExactCrossOf.f (k + 1) a0 a1 a2 a3 a4 a5 a6 a7) := by
  intro a0 a1 a2 a3 a4 a5 a6 a7 k
  unfold laws_FnExactCrossOf.f
  repeat' first
      | (with_reducible exact impl_CrossOf.mono _ _ _ _ _ _ _ _ _)
      | (with_reducible exact spec_CrossOf.mono _ _ _ _ _ _ _ _ _)
      | (with_reducible exact LeO.refl _)
      | (with_reducible exact LeO.none _)
      | (with_reducible refine LeO.ite ?_ ?_)
      | (with_reducible refine LeO.bind ?_ (fun _ => ?_))
      | exact impl_CrossOf.mono _ _ _ _ _ _ _ _ _
      | exact spec_CrossOf.mono _ _ _ _ _ _ _ _ _
      | exact LeO.none _
      | refine LeO.ite ?_ ?_
      | refine LeO.bind ?_ (fun _ => ?_)
def laws_FnExactCrossOf.T1 : Bool × List (List Nat × List Nat) := (true, [([], []), ([0], [0]), ([], []), ([2, 1], [2]), ([], []), ([4, 3], [4]), ([], []), ([6, 5], [6]), ([1, 3, 5, 7, 7], [1, 3, 5, 7]), ([8], [8]), ([9], [9]), ([9], [9]), ([], []), ([12, 10, 8, 0, 1, 2, 3, 4, 5, 6, 7, 8, 9, 10, 12], [10, 12]), ([11, 13, 0, 1, 2, 3, 4, 5, 6, 7, 8, 9, 10, 11, 12, 13], [11])])
def laws_FnExactCrossOf.B1 : List Nat := [0, 1, 0, 7, 0, 31, 0, 127, 255, 511, 1023, 1023, 0, 6143, 16383]
theorem laws_FnExactCrossOf.tab1 : rtab .any (opsOf Try.f5 1) = laws_FnExactCrossOf.T1 := by kernel_rfl
theorem laws_FnExactCrossOf.bits1 : waitsOk laws_FnExactCrossOf.T1.2 laws_FnExactCrossOf.B1 = true := by kernel_rfl
def laws_FnExactCrossOf.T2 : Bool × List (List Nat × List Nat) := (true, [([], []), ([0], [0]), ([], []), ([2, 1], [2]), ([], []), ([4, 3], [4]), ([], []), ([6, 5], [6]), ([1, 3, 5, 7, 7], [1, 3, 5, 7]), ([8], [8]), ([9], [9]), ([9], [9]), ([], []), ([12, 10, 8, 0, 1, 2, 3, 4, 5, 6, 7, 8, 9, 10, 12], [10, 12]), ([11, 13, 0, 1, 2, 3, 4, 5, 6, 7, 8, 9, 10, 11, 12, 13], [11])])
def laws_FnExactCrossOf.B2 : List Nat := [0, 1, 0, 7, 0, 31, 0, 127, 255, 511, 1023, 1023, 0, 6143, 16383]
theorem laws_FnExactCrossOf.tab2 : rtab .any (opsOf Try.f5 2) = laws_FnExactCrossOf.T2 := by kernel_rfl
theorem laws_FnExactCrossOf.bits2 : waitsOk laws_FnExactCrossOf.T2.2 laws_FnExactCrossOf.B2 = true := by kernel_rfl
set_option maxHeartbeats 8000000 in
set_option maxRecDepth 100000 in
theorem laws_FnExactCrossOf.calls (k : Nat) (a0_0 : Int) (a0_1 : Int) (a1_0 : Int) (a1_1 : Int) (a2_0 : Int) (a2_1 : Int) (a3_0 : Int) (a3_1 : Int) (r : Bool) (w : World) (h : laws_FnExactCrossOf.f k a0_0 a0_1 a1_0 a1_1 a2_0 a2_1 a3_0 a3_1 = some r) :
    Calls Try.prog 5 #[.agg #[.int .i64 a0_0, .int .i64 a0_1], .agg #[.int .i64 a1_0, .int .i64 a1_1], .agg #[.int .i64 a2_0, .int .i64 a2_1], .agg #[.int .i64 a3_0, .int .i64 a3_1]] w fun e w' => e = .returned (.bool r) ∧ Below w.heap.size w w' := by
  have hu23 := Try.underlying23
  have hu29 := Try.underlying29
  have HB := Aside0.mk (Below.refl w.heap.size w)
  have H : ((laws_toPoint.f a0_0 a0_1).bind fun bt264 => ((laws_toPoint.f a1_0 a1_1).bind fun bt266 => ((laws_toPoint.f a2_0 a2_1).bind fun bt268 => ((laws_toPoint.f a3_0 a3_1).bind fun bt270 => ((spec_CrossOf.f k bt264.1 bt264.2 bt266.1 bt266.2 bt268.1 bt268.2 bt270.1 bt270.2).bind fun bt272 => ((laws_toPoint.f a0_0 a0_1).bind fun bt276 => ((laws_toPoint.f a1_0 a1_1).bind fun bt278 => ((laws_toPoint.f a2_0 a2_1).bind fun bt280 => ((laws_toPoint.f a3_0 a3_1).bind fun bt282 => ((impl_CrossOf.f k bt276.1 bt276.2 bt278.1 bt278.2 bt280.1 bt280.2 bt282.1 bt282.2).bind fun bt284 => ((laws_eqQuo.f bt284.1 bt284.2.1 bt272.1 bt272.2.1).bind fun t288 => (if t288 = true then (if (bt284.2.2 != bt272.2.2) = true then (some false) else (some true)) else (some false))))))))))))) = some r := h
  clear h
  replace H := Option.bind_eq_some_iff.mp H
  obtain ⟨⟨t264, t265⟩, A50, H⟩ := H
  replace H : ((laws_toPoint.f a1_0 a1_1).bind fun bt266 => ((laws_toPoint.f a2_0 a2_1).bind fun bt268 => ((laws_toPoint.f a3_0 a3_1).bind fun bt270 => ((spec_CrossOf.f k t264 t265 bt266.1 bt266.2 bt268.1 bt268.2 bt270.1 bt270.2).bind fun bt272 => ((laws_toPoint.f a0_0 a0_1).bind fun bt276 => ((laws_toPoint.f a1_0 a1_1).bind fun bt278 => ((laws_toPoint.f a2_0 a2_1).bind fun bt280 => ((laws_toPoint.f a3_0 a3_1).bind fun bt282 => ((impl_CrossOf.f k bt276.1 bt276.2 bt278.1 bt278.2 bt280.1 bt280.2 bt282.1 bt282.2).bind fun bt284 => ((laws_eqQuo.f bt284.1 bt284.2.1 bt272.1 bt272.2.1).bind fun t288 => (if t288 = true then (if (bt284.2.2 != bt272.2.2) = true then (some false) else (some true)) else (some false)))))))))))) = some r := H
  have A5 := Aside0.mk A50
  clear A50
  replace H := Option.bind_eq_some_iff.mp H
  obtain ⟨⟨t266, t267⟩, A60, H⟩ := H
  replace H : ((laws_toPoint.f a2_0 a2_1).bind fun bt268 => ((laws_toPoint.f a3_0 a3_1).bind fun bt270 => ((spec_CrossOf.f k t264 t265 t266 t267 bt268.1 bt268.2 bt270.1 bt270.2).bind fun bt272 => ((laws_toPoint.f a0_0 a0_1).bind fun bt276 => ((laws_toPoint.f a1_0 a1_1).bind fun bt278 => ((laws_toPoint.f a2_0 a2_1).bind fun bt280 => ((laws_toPoint.f a3_0 a3_1).bind fun bt282 => ((impl_CrossOf.f k bt276.1 bt276.2 bt278.1 bt278.2 bt280.1 bt280.2 bt282.1 bt282.2).bind fun bt284 => ((laws_eqQuo.f bt284.1 bt284.2.1 bt272.1 bt272.2.1).bind fun t288 => (if t288 = true then (if (bt284.2.2 != bt272.2.2) = true then (some false) else (some true)) else (some false))))))))))) = some r := H
  have A6 := Aside0.mk A60
  clear A60
  replace H := Option.bind_eq_some_iff.mp H
  obtain ⟨⟨t268, t269⟩, A70, H⟩ := H
  replace H : ((laws_toPoint.f a3_0 a3_1).bind fun bt270 => ((spec_CrossOf.f k t264 t265 t266 t267 t268 t269 bt270.1 bt270.2).bind fun bt272 => ((laws_toPoint.f a0_0 a0_1).bind fun bt276 => ((laws_toPoint.f a1_0 a1_1).bind fun bt278 => ((laws_toPoint.f a2_0 a2_1).bind fun bt280 => ((laws_toPoint.f a3_0 a3_1).bind fun bt282 => ((impl_CrossOf.f k bt276.1 bt276.2 bt278.1 bt278.2 bt280.1 bt280.2 bt282.1 bt282.2).bind fun bt284 => ((laws_eqQuo.f bt284.1 bt284.2.1 bt272.1 bt272.2.1).bind fun t288 => (if t288 = true then (if (bt284.2.2 != bt272.2.2) = true then (some false) else (some true)) else (some false)))))))))) = some r := H
  have A7 := Aside0.mk A70
  clear A70
  replace H := Option.bind_eq_some_iff.mp H
  obtain ⟨⟨t270, t271⟩, A80, H⟩ := H
  replace H : ((spec_CrossOf.f k t264 t265 t266 t267 t268 t269 t270 t271).bind fun bt272 => ((laws_toPoint.f a0_0 a0_1).bind fun bt276 => ((laws_toPoint.f a1_0 a1_1).bind fun bt278 => ((laws_toPoint.f a2_0 a2_1).bind fun bt280 => ((laws_toPoint.f a3_0 a3_1).bind fun bt282 => ((impl_CrossOf.f k bt276.1 bt276.2 bt278.1 bt278.2 bt280.1 bt280.2 bt282.1 bt282.2).bind fun bt284 => ((laws_eqQuo.f bt284.1 bt284.2.1 bt272.1 bt272.2.1).bind fun t288 => (if t288 = true then (if (bt284.2.2 != bt272.2.2) = true then (some false) else (some true)) else (some false))))))))) = some r := H
  have A8 := Aside0.mk A80
  clear A80
  replace H := Option.bind_eq_some_iff.mp H
  obtain ⟨⟨t272, t273, t274⟩, A90, H⟩ := H
  replace H : ((laws_toPoint.f a0_0 a0_1).bind fun bt276 => ((laws_toPoint.f a1_0 a1_1).bind fun bt278 => ((laws_toPoint.f a2_0 a2_1).bind fun bt280 => ((laws_toPoint.f a3_0 a3_1).bind fun bt282 => ((impl_CrossOf.f k bt276.1 bt276.2 bt278.1 bt278.2 bt280.1 bt280.2 bt282.1 bt282.2).bind fun bt284 => ((laws_eqQuo.f bt284.1 bt284.2.1 t272 t273).bind fun t288 => (if t288 = true then (if (bt284.2.2 != t274) = true then (some false) else (some true)) else (some false)))))))) = some r := H
  have A9 := Aside0.mk A90
  clear A90
  replace H := Option.bind_eq_some_iff.mp H
  obtain ⟨⟨t276, t277⟩, A100, H⟩ := H
  replace H : ((laws_toPoint.f a1_0 a1_1).bind fun bt278 => ((laws_toPoint.f a2_0 a2_1).bind fun bt280 => ((laws_toPoint.f a3_0 a3_1).bind fun bt282 => ((impl_CrossOf.f k t276 t277 bt278.1 bt278.2 bt280.1 bt280.2 bt282.1 bt282.2).bind fun bt284 => ((laws_eqQuo.f bt284.1 bt284.2.1 t272 t273).bind fun t288 => (if t288 = true then (if (bt284.2.2 != t274) = true then (some false) else (some true)) else (some false))))))) = some r := H
  have A10 := Aside0.mk A100
  clear A100
  replace H := Option.bind_eq_some_iff.mp H
  obtain ⟨⟨t278, t279⟩, A110, H⟩ := H
  replace H : ((laws_toPoint.f a2_0 a2_1).bind fun bt280 => ((laws_toPoint.f a3_0 a3_1).bind fun bt282 => ((impl_CrossOf.f k t276 t277 t278 t279 bt280.1 bt280.2 bt282.1 bt282.2).bind fun bt284 => ((laws_eqQuo.f bt284.1 bt284.2.1 t272 t273).bind fun t288 => (if t288 = true then (if (bt284.2.2 != t274) = true then (some false) else (some true)) else (some false)))))) = some r := H
  have A11 := Aside0.mk A110
  clear A110
  replace H := Option.bind_eq_some_iff.mp H
  obtain ⟨⟨t280, t281⟩, A120, H⟩ := H
  replace H : ((laws_toPoint.f a3_0 a3_1).bind fun bt282 => ((impl_CrossOf.f k t276 t277 t278 t279 t280 t281 bt282.1 bt282.2).bind fun bt284 => ((laws_eqQuo.f bt284.1 bt284.2.1 t272 t273).bind fun t288 => (if t288 = true then (if (bt284.2.2 != t274) = true then (some false) else (some true)) else (some false))))) = some r := H
  have A12 := Aside0.mk A120
  clear A120
  replace H := Option.bind_eq_some_iff.mp H
  obtain ⟨⟨t282, t283⟩, A130, H⟩ := H
  replace H : ((impl_CrossOf.f k t276 t277 t278 t279 t280 t281 t282 t283).bind fun bt284 => ((laws_eqQuo.f bt284.1 bt284.2.1 t272 t273).bind fun t288 => (if t288 = true then (if (bt284.2.2 != t274) = true then (some false) else (some true)) else (some false)))) = some r := H
  have A13 := Aside0.mk A130
  clear A130
  replace H := Option.bind_eq_some_iff.mp H
  obtain ⟨⟨t284, t285, t286⟩, A140, H⟩ := H
  replace H : ((laws_eqQuo.f t284 t285 t272 t273).bind fun t288 => (if t288 = true then (if (t286 != t274) = true then (some false) else (some true)) else (some false))) = some r := H
  have A14 := Aside0.mk A140
  clear A140
  replace H := Option.bind_eq_some_iff.mp H
  obtain ⟨t288, A150, H⟩ := H
  replace H : (if t288 = true then (if (t286 != t274) = true then (some false) else (some true)) else (some false)) = some r := H
  have A15 := Aside0.mk A150
  clear A150
  go_enter Try.func5, Try.ntmps5
  try go_wp2_with (first | ((with_reducible refine gate_dst (N := 4) rfl ?_); refine box_event ?hg (N := 4) ?hd (cs := #[.int .i64 a0_0, .int .i64 a0_1]) (t := 23) ?hr ?_; (case hd => rfl); (case hg => rfl); (case hr => first | (go_simp; done) | (go_simp; rfl)); intro gb260 hg w18 hbox hb; have n0_ := Aside0.mk (below_step (lb HB.out) hb); have n1_ := Aside0.mk (hbox); have n2_ := Aside0.mk ((by rw [hg]; exact (below_size (lb HB.out)) : w.heap.size ≤ gb260)); have n3_ := Aside0.mk ((by rw [hg]; exact (below_size (lb HB.out)) : w.heap.size ≤ gb260)); clear HB; have HB := n0_; have BK260 := n1_; have GW260 := n2_; have GE260 := n3_; clear n0_ n1_ n2_ n3_; clear hb hbox hg) | ((with_reducible refine gate_dst (N := 5) rfl ?_); refine box_event ?hg (N := 5) ?hd (cs := #[.int .i64 a1_0, .int .i64 a1_1]) (t := 23) ?hr ?_; (case hd => rfl); (case hg => rfl); (case hr => first | (go_simp; done) | (go_simp; rfl)); intro gb261 hg w19 hbox hb; have n0_ := Aside0.mk (blk_below (bf BK260.out) hb); have n1_ := Aside0.mk (below_step (lb HB.out) hb); have n2_ := Aside0.mk (hbox); have n3_ := Aside0.mk ((by rw [hg]; exact (below_size (lb HB.out)) : w.heap.size ≤ gb261)); have n4_ := Aside0.mk ((by rw [hg]; exact (below_size (lb HB.out)) : w.heap.size ≤ gb261)); have n5_ := Aside0.mk ((by rw [hg]; exact Nat.ne_of_lt (blk_lt (bf BK260.out)) : gb260 ≠ gb261)); have n6_ := Aside0.mk ((by rw [hg]; exact Nat.ne_of_gt (blk_lt (bf BK260.out)) : gb261 ≠ gb260)); clear BK260; clear HB; have BK260 := n0_; have HB := n1_; have BK261 := n2_; have GW261 := n3_; have GE261 := n4_; have NB260_261 := n5_; have NB261_260 := n6_; clear n0_ n1_ n2_ n3_ n4_ n5_ n6_; clear hb hbox hg) | ((with_reducible refine gate_dst (N := 6) rfl ?_); refine box_event ?hg (N := 6) ?hd (cs := #[.int .i64 a2_0, .int .i64 a2_1]) (t := 23) ?hr ?_; (case hd => rfl); (case hg => rfl); (case hr => first | (go_simp; done) | (go_simp; rfl)); intro gb262 hg w20 hbox hb; have n0_ := Aside0.mk (blk_below (bf BK260.out) hb); have n1_ := Aside0.mk (blk_below (bf BK261.out) hb); have n2_ := Aside0.mk (below_step (lb HB.out) hb); have n3_ := Aside0.mk (hbox); have n4_ := Aside0.mk ((by rw [hg]; exact (below_size (lb HB.out)) : w.heap.size ≤ gb262)); have n5_ := Aside0.mk ((by rw [hg]; exact (below_size (lb HB.out)) : w.heap.size ≤ gb262)); have n6_ := Aside0.mk ((by rw [hg]; exact Nat.ne_of_lt (blk_lt (bf BK260.out)) : gb260 ≠ gb262)); have n7_ := Aside0.mk ((by rw [hg]; exact Nat.ne_of_gt (blk_lt (bf BK260.out)) : gb262 ≠ gb260)); have n8_ := Aside0.mk ((by rw [hg]; exact Nat.ne_of_lt (blk_lt (bf BK261.out)) : gb261 ≠ gb262)); have n9_ := Aside0.mk ((by rw [hg]; exact Nat.ne_of_gt (blk_lt (bf BK261.out)) : gb262 ≠ gb261)); clear BK260; clear BK261; clear HB; have BK260 := n0_; have BK261 := n1_; have HB := n2_; have BK262 := n3_; have GW262 := n4_; have GE262 := n5_; have NB260_262 := n6_; have NB262_260 := n7_; have NB261_262 := n8_; have NB262_261 := n9_; clear n0_ n1_ n2_ n3_ n4_ n5_ n6_ n7_ n8_ n9_; clear hb hbox hg) | ((with_reducible refine gate_dst (N := 7) rfl ?_); refine box_event ?hg (N := 7) ?hd (cs := #[.int .i64 a3_0, .int .i64 a3_1]) (t := 23) ?hr ?_; (case hd => rfl); (case hg => rfl); (case hr => first | (go_simp; done) | (go_simp; rfl)); intro gb263 hg w21 hbox hb; have n0_ := Aside0.mk (blk_below (bf BK260.out) hb); have n1_ := Aside0.mk (blk_below (bf BK261.out) hb); have n2_ := Aside0.mk (blk_below (bf BK262.out) hb); have n3_ := Aside0.mk (below_step (lb HB.out) hb); have n4_ := Aside0.mk (hbox); have n5_ := Aside0.mk ((by rw [hg]; exact (below_size (lb HB.out)) : w.heap.size ≤ gb263)); have n6_ := Aside0.mk ((by rw [hg]; exact (below_size (lb HB.out)) : w.heap.size ≤ gb263)); have n7_ := Aside0.mk ((by rw [hg]; exact Nat.ne_of_lt (blk_lt (bf BK260.out)) : gb260 ≠ gb263)); have n8_ := Aside0.mk ((by rw [hg]; exact Nat.ne_of_gt (blk_lt (bf BK260.out)) : gb263 ≠ gb260)); have n9_ := Aside0.mk ((by rw [hg]; exact Nat.ne_of_lt (blk_lt (bf BK261.out)) : gb261 ≠ gb263)); have n10_ := Aside0.mk ((by rw [hg]; exact Nat.ne_of_gt (blk_lt (bf BK261.out)) : gb263 ≠ gb261)); have n11_ := Aside0.mk ((by rw [hg]; exact Nat.ne_of_lt (blk_lt (bf BK262.out)) : gb262 ≠ gb263)); have n12_ := Aside0.mk ((by rw [hg]; exact Nat.ne_of_gt (blk_lt (bf BK262.out)) : gb263 ≠ gb262)); clear BK260; clear BK261; clear BK262; clear HB; have BK260 := n0_; have BK261 := n1_; have BK262 := n2_; have HB := n3_; have BK263 := n4_; have GW263 := n5_; have GE263 := n6_; have NB260_263 := n7_; have NB263_260 := n8_; have NB261_263 := n9_; have NB263_261 := n10_; have NB262_263 := n11_; have NB263_262 := n12_; clear n0_ n1_ n2_ n3_ n4_ n5_ n6_ n7_ n8_ n9_ n10_ n11_ n12_; clear hb hbox hg))
  have n0_ := Aside0.mk (blk_drew BK260.out)
  have n1_ := Aside0.mk (blk_drew BK261.out)
  have n2_ := Aside0.mk (blk_drew BK262.out)
  have n3_ := Aside0.mk (blk_drew BK263.out)
  have n4_ := Aside0.mk (below_drew1 HB.out)
  clear BK260
  clear BK261
  clear BK262
  clear BK263
  clear HB
  have BK260 := n0_
  have BK261 := n1_
  have BK262 := n2_
  have BK263 := n3_
  have HB := n4_
  clear n0_ n1_ n2_ n3_ n4_
  refine start_ (n := 15) (S := fun w' => w'.cell? ⟨gb260, 0, none⟩ = some (.int .i64 a0_0) ∧ w'.cell? ⟨gb260, 1, none⟩ = some (.int .i64 a0_1) ∧ w'.cell? ⟨gb261, 0, none⟩ = some (.int .i64 a1_0) ∧ w'.cell? ⟨gb261, 1, none⟩ = some (.int .i64 a1_1) ∧ w'.cell? ⟨gb262, 0, none⟩ = some (.int .i64 a2_0) ∧ w'.cell? ⟨gb262, 1, none⟩ = some (.int .i64 a2_1) ∧ w'.cell? ⟨gb263, 0, none⟩ = some (.int .i64 a3_0) ∧ w'.cell? ⟨gb263, 1, none⟩ = some (.int .i64 a3_1)) (ds := []) #[false,false,false,false,false,false,false,false,false,false,false,false,false,false,false] (by kernel_rfl) rfl rfl ⟨(blk_cell BK260.out 0).trans rfl, (blk_cell BK260.out 1).trans rfl, (blk_cell BK261.out 0).trans rfl, (blk_cell BK261.out 1).trans rfl, (blk_cell BK262.out 0).trans rfl, (blk_cell BK262.out 1).trans rfl, (blk_cell BK263.out 0).trans rfl, (blk_cell BK263.out 1).trans rfl⟩ (fun hHeld => ?_); refine with_tabW laws_FnExactCrossOf.tab1 laws_FnExactCrossOf.bits1 (fun HT_ HW_ => ?_)
  generalize w21.drew = w22 at BK260 BK261 BK262 BK263 HB hHeld ⊢
  refine take_ (i := 0) (N := some 14) (v := ?_) (a' := ?_) #[true,false,false,false,false,false,false,false,false,false,false,false,false,false,false] rfl rfl (take_ofW HT_.out HW_.out (by kernel_rfl)) (fun _ _ _ h => h) (Or.inl ⟨by rfl, ?_⟩) hHeld ?_ ?_
  rotate_left
  · rintro w' ⟨s0, s1, s2, s3, s4, s5, s6, s7⟩
    go_simp
    with_reducible rfl
  rotate_left
  · simp only [Act.put, List.setIfInBounds_toArray, List.set_cons_zero, List.set_cons_succ, i64_w, i32_w]
    rfl
  refine take_ (i := 2) (N := some 16) (v := ?_) (a' := ?_) #[true,false,true,false,false,false,false,false,false,false,false,false,false,false,false] rfl rfl (take_ofW HT_.out HW_.out (by kernel_rfl)) (fun _ _ _ h => h) (Or.inl ⟨by rfl, ?_⟩) hHeld ?_ ?_
  rotate_left
  · rintro w' ⟨s0, s1, s2, s3, s4, s5, s6, s7⟩
    go_simp
    with_reducible rfl
  rotate_left
  · simp only [Act.put, List.setIfInBounds_toArray, List.set_cons_zero, List.set_cons_succ, i64_w, i32_w]
    rfl
  refine take_ (i := 4) (N := some 18) (v := ?_) (a' := ?_) #[true,false,true,false,true,false,false,false,false,false,false,false,false,false,false] rfl rfl (take_ofW HT_.out HW_.out (by kernel_rfl)) (fun _ _ _ h => h) (Or.inl ⟨by rfl, ?_⟩) hHeld ?_ ?_
  rotate_left
  · rintro w' ⟨s0, s1, s2, s3, s4, s5, s6, s7⟩
    go_simp
    with_reducible rfl
  rotate_left
  · simp only [Act.put, List.setIfInBounds_toArray, List.set_cons_zero, List.set_cons_succ, i64_w, i32_w]
    rfl
  refine take_ (i := 6) (N := some 20) (v := ?_) (a' := ?_) #[true,false,true,false,true,false,true,false,false,false,false,false,false,false,false] rfl rfl (take_ofW HT_.out HW_.out (by kernel_rfl)) (fun _ _ _ h => h) (Or.inl ⟨by rfl, ?_⟩) hHeld ?_ ?_
  rotate_left
  · rintro w' ⟨s0, s1, s2, s3, s4, s5, s6, s7⟩
    go_simp
    with_reducible rfl
  rotate_left
  · simp only [Act.put, List.setIfInBounds_toArray, List.set_cons_zero, List.set_cons_succ, i64_w, i32_w]
    rfl
  refine join_ (σ := Nat) 2 #[true,true,true,true,true,true,true,true,true,true,true,true,true,false,false] (fun s_ => [(15, .agg #[.int .i64 t264, .int .i64 t265]), (17, .agg #[.int .i64 t266, .int .i64 t267]), (19, .agg #[.int .i64 t268, .int .i64 t269]), (21, .agg #[.int .i64 t270, .int .i64 t271]), (22, .tuple #[.agg #[.int .i64 t272, .int .i64 t273], .bool t274]), (9, .pointer (some ⟨s_, 0, none⟩)), (13, .tuple #[.agg #[.int .i64 t272, .int .i64 t273], .bool t274]), (23, .agg #[.int .i64 t272, .int .i64 t273]), (24, .bool t274)]) (fun s_ w' => (w'.cell? ⟨gb260, 0, none⟩ = some (.int .i64 a0_0) ∧ w'.cell? ⟨gb260, 1, none⟩ = some (.int .i64 a0_1) ∧ w'.cell? ⟨gb261, 0, none⟩ = some (.int .i64 a1_0) ∧ w'.cell? ⟨gb261, 1, none⟩ = some (.int .i64 a1_1) ∧ w'.cell? ⟨gb262, 0, none⟩ = some (.int .i64 a2_0) ∧ w'.cell? ⟨gb262, 1, none⟩ = some (.int .i64 a2_1) ∧ w'.cell? ⟨gb263, 0, none⟩ = some (.int .i64 a3_0) ∧ w'.cell? ⟨gb263, 1, none⟩ = some (.int .i64 a3_1)) ∧ (w'.heap[gb260]? = some (.cells #[.int .i64 a0_0, .int .i64 a0_1] 23 (0, 0))) ∧ (w'.heap[gb261]? = some (.cells #[.int .i64 a1_0, .int .i64 a1_1] 23 (0, 0))) ∧ (w'.heap[gb262]? = some (.cells #[.int .i64 a2_0, .int .i64 a2_1] 23 (0, 0))) ∧ (w'.heap[gb263]? = some (.cells #[.int .i64 a3_0, .int .i64 a3_1] 23 (0, 0))) ∧ (w'.heap[s_]? = some (.cells #[.int .i64 0, .int .i64 0] 29 (0, 0))) ∧ (w.heap.size ≤ s_) ∧ (w.heap.size ≤ s_) ∧ (gb260 ≠ s_) ∧ (s_ ≠ gb260) ∧ (gb261 ≠ s_) ∧ (s_ ≠ gb261) ∧ (gb262 ≠ s_) ∧ (s_ ≠ gb262) ∧ (gb263 ≠ s_) ∧ (s_ ≠ gb263) ∧ (Below w.heap.size w w')) ?_ ?_
  rotate_left
  · intro hJ1_3_5_7_8_12
    refine join_ (σ := Unit) 3 #[true,true,true,true,true,true,true,true,true,true,true,true,false,false,false] (fun s_ => [(15, .agg #[.int .i64 t264, .int .i64 t265]), (17, .agg #[.int .i64 t266, .int .i64 t267]), (19, .agg #[.int .i64 t268, .int .i64 t269]), (21, .agg #[.int .i64 t270, .int .i64 t271]), (22, .tuple #[.agg #[.int .i64 t272, .int .i64 t273], .bool t274]), (13, .tuple #[.agg #[.int .i64 t272, .int .i64 t273], .bool t274]), (23, .agg #[.int .i64 t272, .int .i64 t273]), (24, .bool t274)]) (fun s_ w' => (w'.cell? ⟨gb260, 0, none⟩ = some (.int .i64 a0_0) ∧ w'.cell? ⟨gb260, 1, none⟩ = some (.int .i64 a0_1) ∧ w'.cell? ⟨gb261, 0, none⟩ = some (.int .i64 a1_0) ∧ w'.cell? ⟨gb261, 1, none⟩ = some (.int .i64 a1_1) ∧ w'.cell? ⟨gb262, 0, none⟩ = some (.int .i64 a2_0) ∧ w'.cell? ⟨gb262, 1, none⟩ = some (.int .i64 a2_1) ∧ w'.cell? ⟨gb263, 0, none⟩ = some (.int .i64 a3_0) ∧ w'.cell? ⟨gb263, 1, none⟩ = some (.int .i64 a3_1)) ∧ (w'.heap[gb260]? = some (.cells #[.int .i64 a0_0, .int .i64 a0_1] 23 (0, 0))) ∧ (w'.heap[gb261]? = some (.cells #[.int .i64 a1_0, .int .i64 a1_1] 23 (0, 0))) ∧ (w'.heap[gb262]? = some (.cells #[.int .i64 a2_0, .int .i64 a2_1] 23 (0, 0))) ∧ (w'.heap[gb263]? = some (.cells #[.int .i64 a3_0, .int .i64 a3_1] 23 (0, 0))) ∧ (Below w.heap.size w w')) ?_ ?_
    rotate_left
    · intro hJ1_3_5_7_8
      refine join_ (σ := Nat) 6 #[true,true,true,true,true,true,true,true,false,false,false,false,true,false,false] (fun s_ => [(15, .agg #[.int .i64 t264, .int .i64 t265]), (17, .agg #[.int .i64 t266, .int .i64 t267]), (19, .agg #[.int .i64 t268, .int .i64 t269]), (21, .agg #[.int .i64 t270, .int .i64 t271]), (9, .pointer (some ⟨s_, 0, none⟩))]) (fun s_ w' => (w'.cell? ⟨gb260, 0, none⟩ = some (.int .i64 a0_0) ∧ w'.cell? ⟨gb260, 1, none⟩ = some (.int .i64 a0_1) ∧ w'.cell? ⟨gb261, 0, none⟩ = some (.int .i64 a1_0) ∧ w'.cell? ⟨gb261, 1, none⟩ = some (.int .i64 a1_1) ∧ w'.cell? ⟨gb262, 0, none⟩ = some (.int .i64 a2_0) ∧ w'.cell? ⟨gb262, 1, none⟩ = some (.int .i64 a2_1) ∧ w'.cell? ⟨gb263, 0, none⟩ = some (.int .i64 a3_0) ∧ w'.cell? ⟨gb263, 1, none⟩ = some (.int .i64 a3_1)) ∧ (w'.heap[gb260]? = some (.cells #[.int .i64 a0_0, .int .i64 a0_1] 23 (0, 0))) ∧ (w'.heap[gb261]? = some (.cells #[.int .i64 a1_0, .int .i64 a1_1] 23 (0, 0))) ∧ (w'.heap[gb262]? = some (.cells #[.int .i64 a2_0, .int .i64 a2_1] 23 (0, 0))) ∧ (w'.heap[gb263]? = some (.cells #[.int .i64 a3_0, .int .i64 a3_1] 23 (0, 0))) ∧ (w'.heap[s_]? = some (.cells #[.int .i64 0, .int .i64 0] 29 (0, 0))) ∧ (w.heap.size ≤ s_) ∧ (w.heap.size ≤ s_) ∧ (gb260 ≠ s_) ∧ (s_ ≠ gb260) ∧ (gb261 ≠ s_) ∧ (s_ ≠ gb261) ∧ (gb262 ≠ s_) ∧ (s_ ≠ gb262) ∧ (gb263 ≠ s_) ∧ (s_ ≠ gb263) ∧ (Below w.heap.size w w')) ?_ ?_
      rotate_left
      · intro hJ1_3_5_7_12
        refine join_ (σ := Unit) 7 #[true,true,true,true,true,true,true,true,false,false,false,false,false,false,false] (fun s_ => [(15, .agg #[.int .i64 t264, .int .i64 t265]), (17, .agg #[.int .i64 t266, .int .i64 t267]), (19, .agg #[.int .i64 t268, .int .i64 t269]), (21, .agg #[.int .i64 t270, .int .i64 t271])]) (fun s_ w' => (w'.cell? ⟨gb260, 0, none⟩ = some (.int .i64 a0_0) ∧ w'.cell? ⟨gb260, 1, none⟩ = some (.int .i64 a0_1) ∧ w'.cell? ⟨gb261, 0, none⟩ = some (.int .i64 a1_0) ∧ w'.cell? ⟨gb261, 1, none⟩ = some (.int .i64 a1_1) ∧ w'.cell? ⟨gb262, 0, none⟩ = some (.int .i64 a2_0) ∧ w'.cell? ⟨gb262, 1, none⟩ = some (.int .i64 a2_1) ∧ w'.cell? ⟨gb263, 0, none⟩ = some (.int .i64 a3_0) ∧ w'.cell? ⟨gb263, 1, none⟩ = some (.int .i64 a3_1)) ∧ (w'.heap[gb260]? = some (.cells #[.int .i64 a0_0, .int .i64 a0_1] 23 (0, 0))) ∧ (w'.heap[gb261]? = some (.cells #[.int .i64 a1_0, .int .i64 a1_1] 23 (0, 0))) ∧ (w'.heap[gb262]? = some (.cells #[.int .i64 a2_0, .int .i64 a2_1] 23 (0, 0))) ∧ (w'.heap[gb263]? = some (.cells #[.int .i64 a3_0, .int .i64 a3_1] 23 (0, 0))) ∧ (Below w.heap.size w w')) ?_ ?_
        rotate_left
        · intro hJ1_3_5_7
          refine join_ (σ := Nat) 7 #[true,true,true,true,true,true,true,false,false,false,false,false,true,false,false] (fun s_ => [(15, .agg #[.int .i64 t264, .int .i64 t265]), (17, .agg #[.int .i64 t266, .int .i64 t267]), (19, .agg #[.int .i64 t268, .int .i64 t269]), (9, .pointer (some ⟨s_, 0, none⟩))]) (fun s_ w' => (w'.cell? ⟨gb260, 0, none⟩ = some (.int .i64 a0_0) ∧ w'.cell? ⟨gb260, 1, none⟩ = some (.int .i64 a0_1) ∧ w'.cell? ⟨gb261, 0, none⟩ = some (.int .i64 a1_0) ∧ w'.cell? ⟨gb261, 1, none⟩ = some (.int .i64 a1_1) ∧ w'.cell? ⟨gb262, 0, none⟩ = some (.int .i64 a2_0) ∧ w'.cell? ⟨gb262, 1, none⟩ = some (.int .i64 a2_1) ∧ w'.cell? ⟨gb263, 0, none⟩ = some (.int .i64 a3_0) ∧ w'.cell? ⟨gb263, 1, none⟩ = some (.int .i64 a3_1)) ∧ (w'.heap[gb260]? = some (.cells #[.int .i64 a0_0, .int .i64 a0_1] 23 (0, 0))) ∧ (w'.heap[gb261]? = some (.cells #[.int .i64 a1_0, .int .i64 a1_1] 23 (0, 0))) ∧ (w'.heap[gb262]? = some (.cells #[.int .i64 a2_0, .int .i64 a2_1] 23 (0, 0))) ∧ (w'.heap[gb263]? = some (.cells #[.int .i64 a3_0, .int .i64 a3_1] 23 (0, 0))) ∧ (w'.heap[s_]? = some (.cells #[.int .i64 0, .int .i64 0] 29 (0, 0))) ∧ (w.heap.size ≤ s_) ∧ (w.heap.size ≤ s_) ∧ (gb260 ≠ s_) ∧ (s_ ≠ gb260) ∧ (gb261 ≠ s_) ∧ (s_ ≠ gb261) ∧ (gb262 ≠ s_) ∧ (s_ ≠ gb262) ∧ (gb263 ≠ s_) ∧ (s_ ≠ gb263) ∧ (Below w.heap.size w w')) ?_ ?_
          rotate_left
          · intro hJ1_3_5_12
            refine join_ (σ := Unit) 8 #[true,true,true,true,true,true,true,false,false,false,false,false,false,false,false] (fun s_ => [(15, .agg #[.int .i64 t264, .int .i64 t265]), (17, .agg #[.int .i64 t266, .int .i64 t267]), (19, .agg #[.int .i64 t268, .int .i64 t269])]) (fun s_ w' => (w'.cell? ⟨gb260, 0, none⟩ = some (.int .i64 a0_0) ∧ w'.cell? ⟨gb260, 1, none⟩ = some (.int .i64 a0_1) ∧ w'.cell? ⟨gb261, 0, none⟩ = some (.int .i64 a1_0) ∧ w'.cell? ⟨gb261, 1, none⟩ = some (.int .i64 a1_1) ∧ w'.cell? ⟨gb262, 0, none⟩ = some (.int .i64 a2_0) ∧ w'.cell? ⟨gb262, 1, none⟩ = some (.int .i64 a2_1) ∧ w'.cell? ⟨gb263, 0, none⟩ = some (.int .i64 a3_0) ∧ w'.cell? ⟨gb263, 1, none⟩ = some (.int .i64 a3_1)) ∧ (w'.heap[gb260]? = some (.cells #[.int .i64 a0_0, .int .i64 a0_1] 23 (0, 0))) ∧ (w'.heap[gb261]? = some (.cells #[.int .i64 a1_0, .int .i64 a1_1] 23 (0, 0))) ∧ (w'.heap[gb262]? = some (.cells #[.int .i64 a2_0, .int .i64 a2_1] 23 (0, 0))) ∧ (w'.heap[gb263]? = some (.cells #[.int .i64 a3_0, .int .i64 a3_1] 23 (0, 0))) ∧ (Below w.heap.size w w')) ?_ ?_
            rotate_left
            · intro hJ1_3_5
              refine join_ (σ := Nat) 8 #[true,true,true,true,true,false,true,false,false,false,false,false,true,false,false] (fun s_ => [(15, .agg #[.int .i64 t264, .int .i64 t265]), (17, .agg #[.int .i64 t266, .int .i64 t267]), (9, .pointer (some ⟨s_, 0, none⟩))]) (fun s_ w' => (w'.cell? ⟨gb260, 0, none⟩ = some (.int .i64 a0_0) ∧ w'.cell? ⟨gb260, 1, none⟩ = some (.int .i64 a0_1) ∧ w'.cell? ⟨gb261, 0, none⟩ = some (.int .i64 a1_0) ∧ w'.cell? ⟨gb261, 1, none⟩ = some (.int .i64 a1_1) ∧ w'.cell? ⟨gb262, 0, none⟩ = some (.int .i64 a2_0) ∧ w'.cell? ⟨gb262, 1, none⟩ = some (.int .i64 a2_1) ∧ w'.cell? ⟨gb263, 0, none⟩ = some (.int .i64 a3_0) ∧ w'.cell? ⟨gb263, 1, none⟩ = some (.int .i64 a3_1)) ∧ (w'.heap[gb260]? = some (.cells #[.int .i64 a0_0, .int .i64 a0_1] 23 (0, 0))) ∧ (w'.heap[gb261]? = some (.cells #[.int .i64 a1_0, .int .i64 a1_1] 23 (0, 0))) ∧ (w'.heap[gb262]? = some (.cells #[.int .i64 a2_0, .int .i64 a2_1] 23 (0, 0))) ∧ (w'.heap[gb263]? = some (.cells #[.int .i64 a3_0, .int .i64 a3_1] 23 (0, 0))) ∧ (w'.heap[s_]? = some (.cells #[.int .i64 0, .int .i64 0] 29 (0, 0))) ∧ (w.heap.size ≤ s_) ∧ (w.heap.size ≤ s_) ∧ (gb260 ≠ s_) ∧ (s_ ≠ gb260) ∧ (gb261 ≠ s_) ∧ (s_ ≠ gb261) ∧ (gb262 ≠ s_) ∧ (s_ ≠ gb262) ∧ (gb263 ≠ s_) ∧ (s_ ≠ gb263) ∧ (Below w.heap.size w w')) ?_ ?_
              rotate_left
              · intro hJ1_3_12
                refine join_ (σ := Unit) 9 #[true,true,true,true,true,false,true,false,false,false,false,false,false,false,false] (fun s_ => [(15, .agg #[.int .i64 t264, .int .i64 t265]), (17, .agg #[.int .i64 t266, .int .i64 t267])]) (fun s_ w' => (w'.cell? ⟨gb260, 0, none⟩ = some (.int .i64 a0_0) ∧ w'.cell? ⟨gb260, 1, none⟩ = some (.int .i64 a0_1) ∧ w'.cell? ⟨gb261, 0, none⟩ = some (.int .i64 a1_0) ∧ w'.cell? ⟨gb261, 1, none⟩ = some (.int .i64 a1_1) ∧ w'.cell? ⟨gb262, 0, none⟩ = some (.int .i64 a2_0) ∧ w'.cell? ⟨gb262, 1, none⟩ = some (.int .i64 a2_1) ∧ w'.cell? ⟨gb263, 0, none⟩ = some (.int .i64 a3_0) ∧ w'.cell? ⟨gb263, 1, none⟩ = some (.int .i64 a3_1)) ∧ (w'.heap[gb260]? = some (.cells #[.int .i64 a0_0, .int .i64 a0_1] 23 (0, 0))) ∧ (w'.heap[gb261]? = some (.cells #[.int .i64 a1_0, .int .i64 a1_1] 23 (0, 0))) ∧ (w'.heap[gb262]? = some (.cells #[.int .i64 a2_0, .int .i64 a2_1] 23 (0, 0))) ∧ (w'.heap[gb263]? = some (.cells #[.int .i64 a3_0, .int .i64 a3_1] 23 (0, 0))) ∧ (Below w.heap.size w w')) ?_ ?_
                rotate_left
                · intro hJ1_3
                  refine join_ (σ := Nat) 9 #[true,true,true,false,true,false,true,false,false,false,false,false,true,false,false] (fun s_ => [(15, .agg #[.int .i64 t264, .int .i64 t265]), (9, .pointer (some ⟨s_, 0, none⟩))]) (fun s_ w' => (w'.cell? ⟨gb260, 0, none⟩ = some (.int .i64 a0_0) ∧ w'.cell? ⟨gb260, 1, none⟩ = some (.int .i64 a0_1) ∧ w'.cell? ⟨gb261, 0, none⟩ = some (.int .i64 a1_0) ∧ w'.cell? ⟨gb261, 1, none⟩ = some (.int .i64 a1_1) ∧ w'.cell? ⟨gb262, 0, none⟩ = some (.int .i64 a2_0) ∧ w'.cell? ⟨gb262, 1, none⟩ = some (.int .i64 a2_1) ∧ w'.cell? ⟨gb263, 0, none⟩ = some (.int .i64 a3_0) ∧ w'.cell? ⟨gb263, 1, none⟩ = some (.int .i64 a3_1)) ∧ (w'.heap[gb260]? = some (.cells #[.int .i64 a0_0, .int .i64 a0_1] 23 (0, 0))) ∧ (w'.heap[gb261]? = some (.cells #[.int .i64 a1_0, .int .i64 a1_1] 23 (0, 0))) ∧ (w'.heap[gb262]? = some (.cells #[.int .i64 a2_0, .int .i64 a2_1] 23 (0, 0))) ∧ (w'.heap[gb263]? = some (.cells #[.int .i64 a3_0, .int .i64 a3_1] 23 (0, 0))) ∧ (w'.heap[s_]? = some (.cells #[.int .i64 0, .int .i64 0] 29 (0, 0))) ∧ (w.heap.size ≤ s_) ∧ (w.heap.size ≤ s_) ∧ (gb260 ≠ s_) ∧ (s_ ≠ gb260) ∧ (gb261 ≠ s_) ∧ (s_ ≠ gb261) ∧ (gb262 ≠ s_) ∧ (s_ ≠ gb262) ∧ (gb263 ≠ s_) ∧ (s_ ≠ gb263) ∧ (Below w.heap.size w w')) ?_ ?_
                  rotate_left
                  · intro hJ1_12
                    refine join_ (σ := Unit) 10 #[true,true,true,false,true,false,true,false,false,false,false,false,false,false,false] (fun s_ => [(15, .agg #[.int .i64 t264, .int .i64 t265])]) (fun s_ w' => (w'.cell? ⟨gb260, 0, none⟩ = some (.int .i64 a0_0) ∧ w'.cell? ⟨gb260, 1, none⟩ = some (.int .i64 a0_1) ∧ w'.cell? ⟨gb261, 0, none⟩ = some (.int .i64 a1_0) ∧ w'.cell? ⟨gb261, 1, none⟩ = some (.int .i64 a1_1) ∧ w'.cell? ⟨gb262, 0, none⟩ = some (.int .i64 a2_0) ∧ w'.cell? ⟨gb262, 1, none⟩ = some (.int .i64 a2_1) ∧ w'.cell? ⟨gb263, 0, none⟩ = some (.int .i64 a3_0) ∧ w'.cell? ⟨gb263, 1, none⟩ = some (.int .i64 a3_1)) ∧ (w'.heap[gb260]? = some (.cells #[.int .i64 a0_0, .int .i64 a0_1] 23 (0, 0))) ∧ (w'.heap[gb261]? = some (.cells #[.int .i64 a1_0, .int .i64 a1_1] 23 (0, 0))) ∧ (w'.heap[gb262]? = some (.cells #[.int .i64 a2_0, .int .i64 a2_1] 23 (0, 0))) ∧ (w'.heap[gb263]? = some (.cells #[.int .i64 a3_0, .int .i64 a3_1] 23 (0, 0))) ∧ (Below w.heap.size w w')) ?_ ?_
                    rotate_left
                    · intro hJ1
                      refine join_ (σ := Nat) 10 #[true,false,true,false,true,false,true,false,false,false,false,false,true,false,false] (fun s_ => [(9, .pointer (some ⟨s_, 0, none⟩))]) (fun s_ w' => (w'.cell? ⟨gb260, 0, none⟩ = some (.int .i64 a0_0) ∧ w'.cell? ⟨gb260, 1, none⟩ = some (.int .i64 a0_1) ∧ w'.cell? ⟨gb261, 0, none⟩ = some (.int .i64 a1_0) ∧ w'.cell? ⟨gb261, 1, none⟩ = some (.int .i64 a1_1) ∧ w'.cell? ⟨gb262, 0, none⟩ = some (.int .i64 a2_0) ∧ w'.cell? ⟨gb262, 1, none⟩ = some (.int .i64 a2_1) ∧ w'.cell? ⟨gb263, 0, none⟩ = some (.int .i64 a3_0) ∧ w'.cell? ⟨gb263, 1, none⟩ = some (.int .i64 a3_1)) ∧ (w'.heap[gb260]? = some (.cells #[.int .i64 a0_0, .int .i64 a0_1] 23 (0, 0))) ∧ (w'.heap[gb261]? = some (.cells #[.int .i64 a1_0, .int .i64 a1_1] 23 (0, 0))) ∧ (w'.heap[gb262]? = some (.cells #[.int .i64 a2_0, .int .i64 a2_1] 23 (0, 0))) ∧ (w'.heap[gb263]? = some (.cells #[.int .i64 a3_0, .int .i64 a3_1] 23 (0, 0))) ∧ (w'.heap[s_]? = some (.cells #[.int .i64 0, .int .i64 0] 29 (0, 0))) ∧ (w.heap.size ≤ s_) ∧ (w.heap.size ≤ s_) ∧ (gb260 ≠ s_) ∧ (s_ ≠ gb260) ∧ (gb261 ≠ s_) ∧ (s_ ≠ gb261) ∧ (gb262 ≠ s_) ∧ (s_ ≠ gb262) ∧ (gb263 ≠ s_) ∧ (s_ ≠ gb263) ∧ (Below w.heap.size w w')) ?_ ?_
                      rotate_left
                      · intro hJ12
                        refine two_ (i := 1) (j := 12) (Ni := some 15) (Nj := some 9) #[true,true,true,false,true,false,true,false,false,false,false,false,false,false,false] #[true,false,true,false,true,false,true,false,false,false,false,false,true,false,false] rfl rfl rfl rfl (two_of HT_.out (by kernel_rfl)) (by decide) (by decide) (fun K hK => ?_) (fun K hK => ?_)
                        · skip
                          refine goes_ Try.func13 (by kernel_rfl) rfl #[.agg #[.int .i64 a0_0, .int .i64 a0_1]] (by rfl) rfl rfl al ?_
                          with_reducible refine (laws_toPoint.calls a0_0 a0_1 t264 t265 _ A5.out).mono ?_
                          rintro e w23 ⟨rfl, hb⟩
                          refine ⟨_, rfl, ?_⟩
                          have n0_ := Aside0.mk (blk_below (bf BK260.out) hb)
                          have n1_ := Aside0.mk (blk_below (bf BK261.out) hb)
                          have n2_ := Aside0.mk (blk_below (bf BK262.out) hb)
                          have n3_ := Aside0.mk (blk_below (bf BK263.out) hb)
                          have n4_ := Aside0.mk (below_step (lb HB.out) hb)
                          clear BK260
                          clear BK261
                          clear BK262
                          clear BK263
                          clear HB
                          have BK260 := n0_
                          have BK261 := n1_
                          have BK262 := n2_
                          have BK263 := n3_
                          have HB := n4_
                          clear n0_ n1_ n2_ n3_ n4_
                          (try clear hb)
                          (try clear hb2)
                          (try clear hk)
                          (try clear hi)
                          refine hK.out _ _ ⟨(blk_cell BK260.out 0).trans rfl, (blk_cell BK260.out 1).trans rfl, (blk_cell BK261.out 0).trans rfl, (blk_cell BK261.out 1).trans rfl, (blk_cell BK262.out 0).trans rfl, (blk_cell BK262.out 1).trans rfl, (blk_cell BK263.out 0).trans rfl, (blk_cell BK263.out 1).trans rfl⟩ (fun hHeld => ?_)
                          clear hK K
                          refine norm_ (a' := ?_) ?_ ?_
                          rotate_left
                          · show Act.put _ (some 15) _ = _
                            simp only [Act.put, List.setIfInBounds_toArray, List.set_cons_zero, List.set_cons_succ, i64_w, i32_w]
                            rfl
                          exact norm_ (by first | (simp only [putAll, Act.put, List.setIfInBounds_toArray, List.set_cons_zero, List.set_cons_succ]; done) | (simp only [putAll, Act.put, List.setIfInBounds_toArray, List.set_cons_zero, List.set_cons_succ]; rfl)) (hJ1 () _ ⟨hHeld, (bf BK260.out), (bf BK261.out), (bf BK262.out), (bf BK263.out), (lb HB.out)⟩)
                        · skip
                          refine box_step ?hg (N := 9) ?hd (cs := #[.int .i64 0, .int .i64 0]) (t := 29) ?hr ?_; (case hd => rfl); (case hg => rfl); (case hr => first | (go_simp; done) | (go_simp; rfl))
                          intro gb275 hg w23 hbox hb
                          have n0_ := Aside0.mk (blk_below (bf BK260.out) hb)
                          have n1_ := Aside0.mk (blk_below (bf BK261.out) hb)
                          have n2_ := Aside0.mk (blk_below (bf BK262.out) hb)
                          have n3_ := Aside0.mk (blk_below (bf BK263.out) hb)
                          have n4_ := Aside0.mk (below_step (lb HB.out) hb)
                          have n5_ := Aside0.mk (hbox)
                          have n6_ := Aside0.mk ((by rw [hg]; exact (below_size (lb HB.out)) : w.heap.size ≤ gb275))
                          have n7_ := Aside0.mk ((by rw [hg]; exact (below_size (lb HB.out)) : w.heap.size ≤ gb275))
                          have n8_ := Aside0.mk ((by rw [hg]; exact Nat.ne_of_lt (blk_lt (bf BK260.out)) : gb260 ≠ gb275))
                          have n9_ := Aside0.mk ((by rw [hg]; exact Nat.ne_of_gt (blk_lt (bf BK260.out)) : gb275 ≠ gb260))
                          have n10_ := Aside0.mk ((by rw [hg]; exact Nat.ne_of_lt (blk_lt (bf BK261.out)) : gb261 ≠ gb275))
                          have n11_ := Aside0.mk ((by rw [hg]; exact Nat.ne_of_gt (blk_lt (bf BK261.out)) : gb275 ≠ gb261))
                          have n12_ := Aside0.mk ((by rw [hg]; exact Nat.ne_of_lt (blk_lt (bf BK262.out)) : gb262 ≠ gb275))
                          have n13_ := Aside0.mk ((by rw [hg]; exact Nat.ne_of_gt (blk_lt (bf BK262.out)) : gb275 ≠ gb262))
                          have n14_ := Aside0.mk ((by rw [hg]; exact Nat.ne_of_lt (blk_lt (bf BK263.out)) : gb263 ≠ gb275))
                          have n15_ := Aside0.mk ((by rw [hg]; exact Nat.ne_of_gt (blk_lt (bf BK263.out)) : gb275 ≠ gb263))
                          clear BK260
                          clear BK261
                          clear BK262
                          clear BK263
                          clear HB
                          have BK260 := n0_
                          have BK261 := n1_
                          have BK262 := n2_
                          have BK263 := n3_
                          have HB := n4_
                          have BK275 := n5_
                          have GW275 := n6_
                          have GE275 := n7_
                          have NB260_275 := n8_
                          have NB275_260 := n9_
                          have NB261_275 := n10_
                          have NB275_261 := n11_
                          have NB262_275 := n12_
                          have NB275_262 := n13_
                          have NB263_275 := n14_
                          have NB275_263 := n15_
                          clear n0_ n1_ n2_ n3_ n4_ n5_ n6_ n7_ n8_ n9_ n10_ n11_ n12_ n13_ n14_ n15_
                          clear hb hbox hg
                          refine hK.out _ _ ⟨(blk_cell BK260.out 0).trans rfl, (blk_cell BK260.out 1).trans rfl, (blk_cell BK261.out 0).trans rfl, (blk_cell BK261.out 1).trans rfl, (blk_cell BK262.out 0).trans rfl, (blk_cell BK262.out 1).trans rfl, (blk_cell BK263.out 0).trans rfl, (blk_cell BK263.out 1).trans rfl⟩ (fun hHeld => ?_)
                          clear hK K
                          refine norm_ (a' := ?_) ?_ ?_
                          rotate_left
                          · show Act.put _ (some 9) _ = _
                            simp only [Act.put, List.setIfInBounds_toArray, List.set_cons_zero, List.set_cons_succ, i64_w, i32_w]
                            rfl
                          exact norm_ (by first | (simp only [putAll, Act.put, List.setIfInBounds_toArray, List.set_cons_zero, List.set_cons_succ]; done) | (simp only [putAll, Act.put, List.setIfInBounds_toArray, List.set_cons_zero, List.set_cons_succ]; rfl)) (hJ12 (gb275) _ ⟨hHeld, (bf BK260.out), (bf BK261.out), (bf BK262.out), (bf BK263.out), (bf BK275.out), GW275.out, GE275.out, NB260_275.out, NB275_260.out, NB261_275.out, NB275_261.out, NB262_275.out, NB275_262.out, NB263_275.out, NB275_263.out, (lb HB.out)⟩)
                      · skip
                        rintro gb275 w24 ⟨hS_, h0_, h1_, h2_, h3_, h4_, h5_, h6_, h7_, h8_, h9_, h10_, h11_, h12_, h13_, h14_, h15_⟩
                        have n0_ : Aside0 (w24.heap[gb260]? = some (.cells #[.int .i64 a0_0, .int .i64 a0_1] 23 (0, 0))) := ⟨h0_⟩
                        have n1_ : Aside0 (w24.heap[gb261]? = some (.cells #[.int .i64 a1_0, .int .i64 a1_1] 23 (0, 0))) := ⟨h1_⟩
                        have n2_ : Aside0 (w24.heap[gb262]? = some (.cells #[.int .i64 a2_0, .int .i64 a2_1] 23 (0, 0))) := ⟨h2_⟩
                        have n3_ : Aside0 (w24.heap[gb263]? = some (.cells #[.int .i64 a3_0, .int .i64 a3_1] 23 (0, 0))) := ⟨h3_⟩
                        have n4_ : Aside0 (w24.heap[gb275]? = some (.cells #[.int .i64 0, .int .i64 0] 29 (0, 0))) := ⟨h4_⟩
                        have n5_ : Aside0 (w.heap.size ≤ gb275) := ⟨h5_⟩
                        have n6_ : Aside0 (w.heap.size ≤ gb275) := ⟨h6_⟩
                        have n7_ : Aside0 (gb260 ≠ gb275) := ⟨h7_⟩
                        have n8_ : Aside0 (gb275 ≠ gb260) := ⟨h8_⟩
                        have n9_ : Aside0 (gb261 ≠ gb275) := ⟨h9_⟩
                        have n10_ : Aside0 (gb275 ≠ gb261) := ⟨h10_⟩
                        have n11_ : Aside0 (gb262 ≠ gb275) := ⟨h11_⟩
                        have n12_ : Aside0 (gb275 ≠ gb262) := ⟨h12_⟩
                        have n13_ : Aside0 (gb263 ≠ gb275) := ⟨h13_⟩
                        have n14_ : Aside0 (gb275 ≠ gb263) := ⟨h14_⟩
                        have n15_ : Aside0 (Below w.heap.size w w24) := ⟨h15_⟩
                        clear BK260
                        clear BK261
                        clear BK262
                        clear BK263
                        clear HB
                        clear h0_ h1_ h2_ h3_ h4_ h5_ h6_ h7_ h8_ h9_ h10_ h11_ h12_ h13_ h14_ h15_
                        have BK260 := n0_
                        have BK261 := n1_
                        have BK262 := n2_
                        have BK263 := n3_
                        have BK275 := n4_
                        have GW275 := n5_
                        have GE275 := n6_
                        have NB260_275 := n7_
                        have NB275_260 := n8_
                        have NB261_275 := n9_
                        have NB275_261 := n10_
                        have NB262_275 := n11_
                        have NB275_262 := n12_
                        have NB263_275 := n13_
                        have NB275_263 := n14_
                        have HB := n15_
                        clear n0_ n1_ n2_ n3_ n4_ n5_ n6_ n7_ n8_ n9_ n10_ n11_ n12_ n13_ n14_ n15_
                        have hHeld : w24.cell? ⟨gb260, 0, none⟩ = some (.int .i64 a0_0) ∧ w24.cell? ⟨gb260, 1, none⟩ = some (.int .i64 a0_1) ∧ w24.cell? ⟨gb261, 0, none⟩ = some (.int .i64 a1_0) ∧ w24.cell? ⟨gb261, 1, none⟩ = some (.int .i64 a1_1) ∧ w24.cell? ⟨gb262, 0, none⟩ = some (.int .i64 a2_0) ∧ w24.cell? ⟨gb262, 1, none⟩ = some (.int .i64 a2_1) ∧ w24.cell? ⟨gb263, 0, none⟩ = some (.int .i64 a3_0) ∧ w24.cell? ⟨gb263, 1, none⟩ = some (.int .i64 a3_1) := hS_
                        refine norm_ (a' := ?_) ?_ ?_
                        rotate_left
                        · simp only [putAll, Act.put, List.setIfInBounds_toArray, List.set_cons_zero, List.set_cons_succ]
                          rfl
                        refine one_ (i := 1) (N := some 15) #[true,true,true,false,true,false,true,false,false,false,false,false,true,false,false] rfl rfl (one_of HT_.out (by kernel_rfl)) (by decide) (fun K hK => ?_)
                        refine goes_ Try.func13 (by kernel_rfl) rfl #[.agg #[.int .i64 a0_0, .int .i64 a0_1]] (by rfl) rfl rfl al ?_
                        with_reducible refine (laws_toPoint.calls a0_0 a0_1 t264 t265 _ A5.out).mono ?_
                        rintro e w25 ⟨rfl, hb⟩
                        refine ⟨_, rfl, ?_⟩
                        have n0_ := Aside0.mk (blk_below (bf BK260.out) hb)
                        have n1_ := Aside0.mk (blk_below (bf BK261.out) hb)
                        have n2_ := Aside0.mk (blk_below (bf BK262.out) hb)
                        have n3_ := Aside0.mk (blk_below (bf BK263.out) hb)
                        have n4_ := Aside0.mk (blk_below (bf BK275.out) hb)
                        have n5_ := Aside0.mk (below_step (lb HB.out) hb)
                        clear BK260
                        clear BK261
                        clear BK262
                        clear BK263
                        clear BK275
                        clear HB
                        have BK260 := n0_
                        have BK261 := n1_
                        have BK262 := n2_
                        have BK263 := n3_
                        have BK275 := n4_
                        have HB := n5_
                        clear n0_ n1_ n2_ n3_ n4_ n5_
                        (try clear hb)
                        (try clear hb2)
                        (try clear hk)
                        (try clear hi)
                        refine hK.out _ _ ⟨(blk_cell BK260.out 0).trans rfl, (blk_cell BK260.out 1).trans rfl, (blk_cell BK261.out 0).trans rfl, (blk_cell BK261.out 1).trans rfl, (blk_cell BK262.out 0).trans rfl, (blk_cell BK262.out 1).trans rfl, (blk_cell BK263.out 0).trans rfl, (blk_cell BK263.out 1).trans rfl⟩ (fun hHeld => ?_)
                        clear hK K
                        refine norm_ (a' := ?_) ?_ ?_
                        rotate_left
                        · show Act.put _ (some 15) _ = _
                          simp only [Act.put, List.setIfInBounds_toArray, List.set_cons_zero, List.set_cons_succ, i64_w, i32_w]
                          rfl
                        exact norm_ (by first | (simp only [putAll, Act.put, List.setIfInBounds_toArray, List.set_cons_zero, List.set_cons_succ]; done) | (simp only [putAll, Act.put, List.setIfInBounds_toArray, List.set_cons_zero, List.set_cons_succ]; rfl)) (hJ1_12 (gb275) _ ⟨hHeld, (bf BK260.out), (bf BK261.out), (bf BK262.out), (bf BK263.out), (bf BK275.out), GW275.out, GE275.out, NB260_275.out, NB275_260.out, NB261_275.out, NB275_261.out, NB262_275.out, NB275_262.out, NB263_275.out, NB275_263.out, (lb HB.out)⟩)
                    · skip
                      rintro _ w24 ⟨hS_, h0_, h1_, h2_, h3_, h4_⟩
                      have n0_ : Aside0 (w24.heap[gb260]? = some (.cells #[.int .i64 a0_0, .int .i64 a0_1] 23 (0, 0))) := ⟨h0_⟩
                      have n1_ : Aside0 (w24.heap[gb261]? = some (.cells #[.int .i64 a1_0, .int .i64 a1_1] 23 (0, 0))) := ⟨h1_⟩
                      have n2_ : Aside0 (w24.heap[gb262]? = some (.cells #[.int .i64 a2_0, .int .i64 a2_1] 23 (0, 0))) := ⟨h2_⟩
                      have n3_ : Aside0 (w24.heap[gb263]? = some (.cells #[.int .i64 a3_0, .int .i64 a3_1] 23 (0, 0))) := ⟨h3_⟩
                      have n4_ : Aside0 (Below w.heap.size w w24) := ⟨h4_⟩
                      clear BK260
                      clear BK261
                      clear BK262
                      clear BK263
                      clear HB
                      clear h0_ h1_ h2_ h3_ h4_
                      have BK260 := n0_
                      have BK261 := n1_
                      have BK262 := n2_
                      have BK263 := n3_
                      have HB := n4_
                      clear n0_ n1_ n2_ n3_ n4_
                      have hHeld : w24.cell? ⟨gb260, 0, none⟩ = some (.int .i64 a0_0) ∧ w24.cell? ⟨gb260, 1, none⟩ = some (.int .i64 a0_1) ∧ w24.cell? ⟨gb261, 0, none⟩ = some (.int .i64 a1_0) ∧ w24.cell? ⟨gb261, 1, none⟩ = some (.int .i64 a1_1) ∧ w24.cell? ⟨gb262, 0, none⟩ = some (.int .i64 a2_0) ∧ w24.cell? ⟨gb262, 1, none⟩ = some (.int .i64 a2_1) ∧ w24.cell? ⟨gb263, 0, none⟩ = some (.int .i64 a3_0) ∧ w24.cell? ⟨gb263, 1, none⟩ = some (.int .i64 a3_1) := hS_
                      refine norm_ (a' := ?_) ?_ ?_
                      rotate_left
                      · simp only [putAll, Act.put, List.setIfInBounds_toArray, List.set_cons_zero, List.set_cons_succ]
                        rfl
                      refine two_ (i := 3) (j := 12) (Ni := some 17) (Nj := some 9) #[true,true,true,true,true,false,true,false,false,false,false,false,false,false,false] #[true,true,true,false,true,false,true,false,false,false,false,false,true,false,false] rfl rfl rfl rfl (two_of HT_.out (by kernel_rfl)) (by decide) (by decide) (fun K hK => ?_) (fun K hK => ?_)
                      · skip
                        refine goes_ Try.func13 (by kernel_rfl) rfl #[.agg #[.int .i64 a1_0, .int .i64 a1_1]] (by rfl) rfl rfl al ?_
                        with_reducible refine (laws_toPoint.calls a1_0 a1_1 t266 t267 _ A6.out).mono ?_
                        rintro e w25 ⟨rfl, hb⟩
                        refine ⟨_, rfl, ?_⟩
                        have n0_ := Aside0.mk (blk_below (bf BK260.out) hb)
                        have n1_ := Aside0.mk (blk_below (bf BK261.out) hb)
                        have n2_ := Aside0.mk (blk_below (bf BK262.out) hb)
                        have n3_ := Aside0.mk (blk_below (bf BK263.out) hb)
                        have n4_ := Aside0.mk (below_step (lb HB.out) hb)
                        clear BK260
                        clear BK261
                        clear BK262
                        clear BK263
                        clear HB
                        have BK260 := n0_
                        have BK261 := n1_
                        have BK262 := n2_
                        have BK263 := n3_
                        have HB := n4_
                        clear n0_ n1_ n2_ n3_ n4_
                        (try clear hb)
                        (try clear hb2)
                        (try clear hk)
                        (try clear hi)
                        refine hK.out _ _ ⟨(blk_cell BK260.out 0).trans rfl, (blk_cell BK260.out 1).trans rfl, (blk_cell BK261.out 0).trans rfl, (blk_cell BK261.out 1).trans rfl, (blk_cell BK262.out 0).trans rfl, (blk_cell BK262.out 1).trans rfl, (blk_cell BK263.out 0).trans rfl, (blk_cell BK263.out 1).trans rfl⟩ (fun hHeld => ?_)
                        clear hK K
                        refine norm_ (a' := ?_) ?_ ?_
                        rotate_left
                        · show Act.put _ (some 17) _ = _
                          simp only [Act.put, List.setIfInBounds_toArray, List.set_cons_zero, List.set_cons_succ, i64_w, i32_w]
                          rfl
                        exact norm_ (by first | (simp only [putAll, Act.put, List.setIfInBounds_toArray, List.set_cons_zero, List.set_cons_succ]; done) | (simp only [putAll, Act.put, List.setIfInBounds_toArray, List.set_cons_zero, List.set_cons_succ]; rfl)) (hJ1_3 () _ ⟨hHeld, (bf BK260.out), (bf BK261.out), (bf BK262.out), (bf BK263.out), (lb HB.out)⟩)
                      · skip
                        refine box_step ?hg (N := 9) ?hd (cs := #[.int .i64 0, .int .i64 0]) (t := 29) ?hr ?_; (case hd => rfl); (case hg => rfl); (case hr => first | (go_simp; done) | (go_simp; rfl))
                        intro gb275 hg w25 hbox hb
                        have n0_ := Aside0.mk (blk_below (bf BK260.out) hb)
                        have n1_ := Aside0.mk (blk_below (bf BK261.out) hb)
                        have n2_ := Aside0.mk (blk_below (bf BK262.out) hb)
                        have n3_ := Aside0.mk (blk_below (bf BK263.out) hb)
                        have n4_ := Aside0.mk (below_step (lb HB.out) hb)
                        have n5_ := Aside0.mk (hbox)
                        have n6_ := Aside0.mk ((by rw [hg]; exact (below_size (lb HB.out)) : w.heap.size ≤ gb275))
                        have n7_ := Aside0.mk ((by rw [hg]; exact (below_size (lb HB.out)) : w.heap.size ≤ gb275))
                        have n8_ := Aside0.mk ((by rw [hg]; exact Nat.ne_of_lt (blk_lt (bf BK260.out)) : gb260 ≠ gb275))
                        have n9_ := Aside0.mk ((by rw [hg]; exact Nat.ne_of_gt (blk_lt (bf BK260.out)) : gb275 ≠ gb260))
                        have n10_ := Aside0.mk ((by rw [hg]; exact Nat.ne_of_lt (blk_lt (bf BK261.out)) : gb261 ≠ gb275))
                        have n11_ := Aside0.mk ((by rw [hg]; exact Nat.ne_of_gt (blk_lt (bf BK261.out)) : gb275 ≠ gb261))
                        have n12_ := Aside0.mk ((by rw [hg]; exact Nat.ne_of_lt (blk_lt (bf BK262.out)) : gb262 ≠ gb275))
                        have n13_ := Aside0.mk ((by rw [hg]; exact Nat.ne_of_gt (blk_lt (bf BK262.out)) : gb275 ≠ gb262))
                        have n14_ := Aside0.mk ((by rw [hg]; exact Nat.ne_of_lt (blk_lt (bf BK263.out)) : gb263 ≠ gb275))
                        have n15_ := Aside0.mk ((by rw [hg]; exact Nat.ne_of_gt (blk_lt (bf BK263.out)) : gb275 ≠ gb263))
                        clear BK260
                        clear BK261
                        clear BK262
                        clear BK263
                        clear HB
                        have BK260 := n0_
                        have BK261 := n1_
                        have BK262 := n2_
                        have BK263 := n3_
                        have HB := n4_
                        have BK275 := n5_
                        have GW275 := n6_
                        have GE275 := n7_
                        have NB260_275 := n8_
                        have NB275_260 := n9_
                        have NB261_275 := n10_
                        have NB275_261 := n11_
                        have NB262_275 := n12_
                        have NB275_262 := n13_
                        have NB263_275 := n14_
                        have NB275_263 := n15_
                        clear n0_ n1_ n2_ n3_ n4_ n5_ n6_ n7_ n8_ n9_ n10_ n11_ n12_ n13_ n14_ n15_
                        clear hb hbox hg
                        refine hK.out _ _ ⟨(blk_cell BK260.out 0).trans rfl, (blk_cell BK260.out 1).trans rfl, (blk_cell BK261.out 0).trans rfl, (blk_cell BK261.out 1).trans rfl, (blk_cell BK262.out 0).trans rfl, (blk_cell BK262.out 1).trans rfl, (blk_cell BK263.out 0).trans rfl, (blk_cell BK263.out 1).trans rfl⟩ (fun hHeld => ?_)
                        clear hK K
                        refine norm_ (a' := ?_) ?_ ?_
                        rotate_left
                        · show Act.put _ (some 9) _ = _
                          simp only [Act.put, List.setIfInBounds_toArray, List.set_cons_zero, List.set_cons_succ, i64_w, i32_w]
                          rfl
                        exact norm_ (by first | (simp only [putAll, Act.put, List.setIfInBounds_toArray, List.set_cons_zero, List.set_cons_succ]; done) | (simp only [putAll, Act.put, List.setIfInBounds_toArray, List.set_cons_zero, List.set_cons_succ]; rfl)) (hJ1_12 (gb275) _ ⟨hHeld, (bf BK260.out), (bf BK261.out), (bf BK262.out), (bf BK263.out), (bf BK275.out), GW275.out, GE275.out, NB260_275.out, NB275_260.out, NB261_275.out, NB275_261.out, NB262_275.out, NB275_262.out, NB263_275.out, NB275_263.out, (lb HB.out)⟩)
                  · skip
                    rintro gb275 w25 ⟨hS_, h0_, h1_, h2_, h3_, h4_, h5_, h6_, h7_, h8_, h9_, h10_, h11_, h12_, h13_, h14_, h15_⟩
                    have n0_ : Aside0 (w25.heap[gb260]? = some (.cells #[.int .i64 a0_0, .int .i64 a0_1] 23 (0, 0))) := ⟨h0_⟩
                    have n1_ : Aside0 (w25.heap[gb261]? = some (.cells #[.int .i64 a1_0, .int .i64 a1_1] 23 (0, 0))) := ⟨h1_⟩
                    have n2_ : Aside0 (w25.heap[gb262]? = some (.cells #[.int .i64 a2_0, .int .i64 a2_1] 23 (0, 0))) := ⟨h2_⟩
                    have n3_ : Aside0 (w25.heap[gb263]? = some (.cells #[.int .i64 a3_0, .int .i64 a3_1] 23 (0, 0))) := ⟨h3_⟩
                    have n4_ : Aside0 (w25.heap[gb275]? = some (.cells #[.int .i64 0, .int .i64 0] 29 (0, 0))) := ⟨h4_⟩
                    have n5_ : Aside0 (w.heap.size ≤ gb275) := ⟨h5_⟩
                    have n6_ : Aside0 (w.heap.size ≤ gb275) := ⟨h6_⟩
                    have n7_ : Aside0 (gb260 ≠ gb275) := ⟨h7_⟩
                    have n8_ : Aside0 (gb275 ≠ gb260) := ⟨h8_⟩
                    have n9_ : Aside0 (gb261 ≠ gb275) := ⟨h9_⟩
                    have n10_ : Aside0 (gb275 ≠ gb261) := ⟨h10_⟩
                    have n11_ : Aside0 (gb262 ≠ gb275) := ⟨h11_⟩
                    have n12_ : Aside0 (gb275 ≠ gb262) := ⟨h12_⟩
                    have n13_ : Aside0 (gb263 ≠ gb275) := ⟨h13_⟩
                    have n14_ : Aside0 (gb275 ≠ gb263) := ⟨h14_⟩
                    have n15_ : Aside0 (Below w.heap.size w w25) := ⟨h15_⟩
                    clear BK260
                    clear BK261
                    clear BK262
                    clear BK263
                    clear HB
                    clear h0_ h1_ h2_ h3_ h4_ h5_ h6_ h7_ h8_ h9_ h10_ h11_ h12_ h13_ h14_ h15_
                    have BK260 := n0_
                    have BK261 := n1_
                    have BK262 := n2_
                    have BK263 := n3_
                    have BK275 := n4_
                    have GW275 := n5_
                    have GE275 := n6_
                    have NB260_275 := n7_
                    have NB275_260 := n8_
                    have NB261_275 := n9_
                    have NB275_261 := n10_
                    have NB262_275 := n11_
                    have NB275_262 := n12_
                    have NB263_275 := n13_
                    have NB275_263 := n14_
                    have HB := n15_
                    clear n0_ n1_ n2_ n3_ n4_ n5_ n6_ n7_ n8_ n9_ n10_ n11_ n12_ n13_ n14_ n15_
                    have hHeld : w25.cell? ⟨gb260, 0, none⟩ = some (.int .i64 a0_0) ∧ w25.cell? ⟨gb260, 1, none⟩ = some (.int .i64 a0_1) ∧ w25.cell? ⟨gb261, 0, none⟩ = some (.int .i64 a1_0) ∧ w25.cell? ⟨gb261, 1, none⟩ = some (.int .i64 a1_1) ∧ w25.cell? ⟨gb262, 0, none⟩ = some (.int .i64 a2_0) ∧ w25.cell? ⟨gb262, 1, none⟩ = some (.int .i64 a2_1) ∧ w25.cell? ⟨gb263, 0, none⟩ = some (.int .i64 a3_0) ∧ w25.cell? ⟨gb263, 1, none⟩ = some (.int .i64 a3_1) := hS_
                    refine norm_ (a' := ?_) ?_ ?_
                    rotate_left
                    · simp only [putAll, Act.put, List.setIfInBounds_toArray, List.set_cons_zero, List.set_cons_succ]
                      rfl
                    refine one_ (i := 3) (N := some 17) #[true,true,true,true,true,false,true,false,false,false,false,false,true,false,false] rfl rfl (one_of HT_.out (by kernel_rfl)) (by decide) (fun K hK => ?_)
                    refine goes_ Try.func13 (by kernel_rfl) rfl #[.agg #[.int .i64 a1_0, .int .i64 a1_1]] (by rfl) rfl rfl al ?_
                    with_reducible refine (laws_toPoint.calls a1_0 a1_1 t266 t267 _ A6.out).mono ?_
                    rintro e w26 ⟨rfl, hb⟩
                    refine ⟨_, rfl, ?_⟩
                    have n0_ := Aside0.mk (blk_below (bf BK260.out) hb)
                    have n1_ := Aside0.mk (blk_below (bf BK261.out) hb)
                    have n2_ := Aside0.mk (blk_below (bf BK262.out) hb)
                    have n3_ := Aside0.mk (blk_below (bf BK263.out) hb)
                    have n4_ := Aside0.mk (blk_below (bf BK275.out) hb)
                    have n5_ := Aside0.mk (below_step (lb HB.out) hb)
                    clear BK260
                    clear BK261
                    clear BK262
                    clear BK263
                    clear BK275
                    clear HB
                    have BK260 := n0_
                    have BK261 := n1_
                    have BK262 := n2_
                    have BK263 := n3_
                    have BK275 := n4_
                    have HB := n5_
                    clear n0_ n1_ n2_ n3_ n4_ n5_
                    (try clear hb)
                    (try clear hb2)
                    (try clear hk)
                    (try clear hi)
                    refine hK.out _ _ ⟨(blk_cell BK260.out 0).trans rfl, (blk_cell BK260.out 1).trans rfl, (blk_cell BK261.out 0).trans rfl, (blk_cell BK261.out 1).trans rfl, (blk_cell BK262.out 0).trans rfl, (blk_cell BK262.out 1).trans rfl, (blk_cell BK263.out 0).trans rfl, (blk_cell BK263.out 1).trans rfl⟩ (fun hHeld => ?_)
                    clear hK K
                    refine norm_ (a' := ?_) ?_ ?_
                    rotate_left
                    · show Act.put _ (some 17) _ = _
                      simp only [Act.put, List.setIfInBounds_toArray, List.set_cons_zero, List.set_cons_succ, i64_w, i32_w]
                      rfl
                    exact norm_ (by first | (simp only [putAll, Act.put, List.setIfInBounds_toArray, List.set_cons_zero, List.set_cons_succ]; done) | (simp only [putAll, Act.put, List.setIfInBounds_toArray, List.set_cons_zero, List.set_cons_succ]; rfl)) (hJ1_3_12 (gb275) _ ⟨hHeld, (bf BK260.out), (bf BK261.out), (bf BK262.out), (bf BK263.out), (bf BK275.out), GW275.out, GE275.out, NB260_275.out, NB275_260.out, NB261_275.out, NB275_261.out, NB262_275.out, NB275_262.out, NB263_275.out, NB275_263.out, (lb HB.out)⟩)
                · skip
                  rintro _ w25 ⟨hS_, h0_, h1_, h2_, h3_, h4_⟩
                  have n0_ : Aside0 (w25.heap[gb260]? = some (.cells #[.int .i64 a0_0, .int .i64 a0_1] 23 (0, 0))) := ⟨h0_⟩
                  have n1_ : Aside0 (w25.heap[gb261]? = some (.cells #[.int .i64 a1_0, .int .i64 a1_1] 23 (0, 0))) := ⟨h1_⟩
                  have n2_ : Aside0 (w25.heap[gb262]? = some (.cells #[.int .i64 a2_0, .int .i64 a2_1] 23 (0, 0))) := ⟨h2_⟩
                  have n3_ : Aside0 (w25.heap[gb263]? = some (.cells #[.int .i64 a3_0, .int .i64 a3_1] 23 (0, 0))) := ⟨h3_⟩
                  have n4_ : Aside0 (Below w.heap.size w w25) := ⟨h4_⟩
                  clear BK260
                  clear BK261
                  clear BK262
                  clear BK263
                  clear HB
                  clear h0_ h1_ h2_ h3_ h4_
                  have BK260 := n0_
                  have BK261 := n1_
                  have BK262 := n2_
                  have BK263 := n3_
                  have HB := n4_
                  clear n0_ n1_ n2_ n3_ n4_
                  have hHeld : w25.cell? ⟨gb260, 0, none⟩ = some (.int .i64 a0_0) ∧ w25.cell? ⟨gb260, 1, none⟩ = some (.int .i64 a0_1) ∧ w25.cell? ⟨gb261, 0, none⟩ = some (.int .i64 a1_0) ∧ w25.cell? ⟨gb261, 1, none⟩ = some (.int .i64 a1_1) ∧ w25.cell? ⟨gb262, 0, none⟩ = some (.int .i64 a2_0) ∧ w25.cell? ⟨gb262, 1, none⟩ = some (.int .i64 a2_1) ∧ w25.cell? ⟨gb263, 0, none⟩ = some (.int .i64 a3_0) ∧ w25.cell? ⟨gb263, 1, none⟩ = some (.int .i64 a3_1) := hS_
                  refine norm_ (a' := ?_) ?_ ?_
                  rotate_left
                  · simp only [putAll, Act.put, List.setIfInBounds_toArray, List.set_cons_zero, List.set_cons_succ]
                    rfl
                  refine two_ (i := 5) (j := 12) (Ni := some 19) (Nj := some 9) #[true,true,true,true,true,true,true,false,false,false,false,false,false,false,false] #[true,true,true,true,true,false,true,false,false,false,false,false,true,false,false] rfl rfl rfl rfl (two_of HT_.out (by kernel_rfl)) (by decide) (by decide) (fun K hK => ?_) (fun K hK => ?_)
                  · skip
                    refine goes_ Try.func13 (by kernel_rfl) rfl #[.agg #[.int .i64 a2_0, .int .i64 a2_1]] (by rfl) rfl rfl al ?_
                    with_reducible refine (laws_toPoint.calls a2_0 a2_1 t268 t269 _ A7.out).mono ?_
                    rintro e w26 ⟨rfl, hb⟩
                    refine ⟨_, rfl, ?_⟩
                    have n0_ := Aside0.mk (blk_below (bf BK260.out) hb)
                    have n1_ := Aside0.mk (blk_below (bf BK261.out) hb)
                    have n2_ := Aside0.mk (blk_below (bf BK262.out) hb)
                    have n3_ := Aside0.mk (blk_below (bf BK263.out) hb)
                    have n4_ := Aside0.mk (below_step (lb HB.out) hb)
                    clear BK260
                    clear BK261
                    clear BK262
                    clear BK263
                    clear HB
                    have BK260 := n0_
                    have BK261 := n1_
                    have BK262 := n2_
                    have BK263 := n3_
                    have HB := n4_
                    clear n0_ n1_ n2_ n3_ n4_
                    (try clear hb)
                    (try clear hb2)
                    (try clear hk)
                    (try clear hi)
                    refine hK.out _ _ ⟨(blk_cell BK260.out 0).trans rfl, (blk_cell BK260.out 1).trans rfl, (blk_cell BK261.out 0).trans rfl, (blk_cell BK261.out 1).trans rfl, (blk_cell BK262.out 0).trans rfl, (blk_cell BK262.out 1).trans rfl, (blk_cell BK263.out 0).trans rfl, (blk_cell BK263.out 1).trans rfl⟩ (fun hHeld => ?_)
                    clear hK K
                    refine norm_ (a' := ?_) ?_ ?_
                    rotate_left
                    · show Act.put _ (some 19) _ = _
                      simp only [Act.put, List.setIfInBounds_toArray, List.set_cons_zero, List.set_cons_succ, i64_w, i32_w]
                      rfl
                    exact norm_ (by first | (simp only [putAll, Act.put, List.setIfInBounds_toArray, List.set_cons_zero, List.set_cons_succ]; done) | (simp only [putAll, Act.put, List.setIfInBounds_toArray, List.set_cons_zero, List.set_cons_succ]; rfl)) (hJ1_3_5 () _ ⟨hHeld, (bf BK260.out), (bf BK261.out), (bf BK262.out), (bf BK263.out), (lb HB.out)⟩)
                  · skip
                    refine box_step ?hg (N := 9) ?hd (cs := #[.int .i64 0, .int .i64 0]) (t := 29) ?hr ?_; (case hd => rfl); (case hg => rfl); (case hr => first | (go_simp; done) | (go_simp; rfl))
                    intro gb275 hg w26 hbox hb
                    have n0_ := Aside0.mk (blk_below (bf BK260.out) hb)
                    have n1_ := Aside0.mk (blk_below (bf BK261.out) hb)
                    have n2_ := Aside0.mk (blk_below (bf BK262.out) hb)
                    have n3_ := Aside0.mk (blk_below (bf BK263.out) hb)
                    have n4_ := Aside0.mk (below_step (lb HB.out) hb)
                    have n5_ := Aside0.mk (hbox)
                    have n6_ := Aside0.mk ((by rw [hg]; exact (below_size (lb HB.out)) : w.heap.size ≤ gb275))
                    have n7_ := Aside0.mk ((by rw [hg]; exact (below_size (lb HB.out)) : w.heap.size ≤ gb275))
                    have n8_ := Aside0.mk ((by rw [hg]; exact Nat.ne_of_lt (blk_lt (bf BK260.out)) : gb260 ≠ gb275))
                    have n9_ := Aside0.mk ((by rw [hg]; exact Nat.ne_of_gt (blk_lt (bf BK260.out)) : gb275 ≠ gb260))
                    have n10_ := Aside0.mk ((by rw [hg]; exact Nat.ne_of_lt (blk_lt (bf BK261.out)) : gb261 ≠ gb275))
                    have n11_ := Aside0.mk ((by rw [hg]; exact Nat.ne_of_gt (blk_lt (bf BK261.out)) : gb275 ≠ gb261))
                    have n12_ := Aside0.mk ((by rw [hg]; exact Nat.ne_of_lt (blk_lt (bf BK262.out)) : gb262 ≠ gb275))
                    have n13_ := Aside0.mk ((by rw [hg]; exact Nat.ne_of_gt (blk_lt (bf BK262.out)) : gb275 ≠ gb262))
                    have n14_ := Aside0.mk ((by rw [hg]; exact Nat.ne_of_lt (blk_lt (bf BK263.out)) : gb263 ≠ gb275))
                    have n15_ := Aside0.mk ((by rw [hg]; exact Nat.ne_of_gt (blk_lt (bf BK263.out)) : gb275 ≠ gb263))
                    clear BK260
                    clear BK261
                    clear BK262
                    clear BK263
                    clear HB
                    have BK260 := n0_
                    have BK261 := n1_
                    have BK262 := n2_
                    have BK263 := n3_
                    have HB := n4_
                    have BK275 := n5_
                    have GW275 := n6_
                    have GE275 := n7_
                    have NB260_275 := n8_
                    have NB275_260 := n9_
                    have NB261_275 := n10_
                    have NB275_261 := n11_
                    have NB262_275 := n12_
                    have NB275_262 := n13_
                    have NB263_275 := n14_
                    have NB275_263 := n15_
                    clear n0_ n1_ n2_ n3_ n4_ n5_ n6_ n7_ n8_ n9_ n10_ n11_ n12_ n13_ n14_ n15_
                    clear hb hbox hg
                    refine hK.out _ _ ⟨(blk_cell BK260.out 0).trans rfl, (blk_cell BK260.out 1).trans rfl, (blk_cell BK261.out 0).trans rfl, (blk_cell BK261.out 1).trans rfl, (blk_cell BK262.out 0).trans rfl, (blk_cell BK262.out 1).trans rfl, (blk_cell BK263.out 0).trans rfl, (blk_cell BK263.out 1).trans rfl⟩ (fun hHeld => ?_)
                    clear hK K
                    refine norm_ (a' := ?_) ?_ ?_
                    rotate_left
                    · show Act.put _ (some 9) _ = _
                      simp only [Act.put, List.setIfInBounds_toArray, List.set_cons_zero, List.set_cons_succ, i64_w, i32_w]
                      rfl
                    exact norm_ (by first | (simp only [putAll, Act.put, List.setIfInBounds_toArray, List.set_cons_zero, List.set_cons_succ]; done) | (simp only [putAll, Act.put, List.setIfInBounds_toArray, List.set_cons_zero, List.set_cons_succ]; rfl)) (hJ1_3_12 (gb275) _ ⟨hHeld, (bf BK260.out), (bf BK261.out), (bf BK262.out), (bf BK263.out), (bf BK275.out), GW275.out, GE275.out, NB260_275.out, NB275_260.out, NB261_275.out, NB275_261.out, NB262_275.out, NB275_262.out, NB263_275.out, NB275_263.out, (lb HB.out)⟩)
              · skip
                rintro gb275 w26 ⟨hS_, h0_, h1_, h2_, h3_, h4_, h5_, h6_, h7_, h8_, h9_, h10_, h11_, h12_, h13_, h14_, h15_⟩
                have n0_ : Aside0 (w26.heap[gb260]? = some (.cells #[.int .i64 a0_0, .int .i64 a0_1] 23 (0, 0))) := ⟨h0_⟩
                have n1_ : Aside0 (w26.heap[gb261]? = some (.cells #[.int .i64 a1_0, .int .i64 a1_1] 23 (0, 0))) := ⟨h1_⟩
                have n2_ : Aside0 (w26.heap[gb262]? = some (.cells #[.int .i64 a2_0, .int .i64 a2_1] 23 (0, 0))) := ⟨h2_⟩
                have n3_ : Aside0 (w26.heap[gb263]? = some (.cells #[.int .i64 a3_0, .int .i64 a3_1] 23 (0, 0))) := ⟨h3_⟩
                have n4_ : Aside0 (w26.heap[gb275]? = some (.cells #[.int .i64 0, .int .i64 0] 29 (0, 0))) := ⟨h4_⟩
                have n5_ : Aside0 (w.heap.size ≤ gb275) := ⟨h5_⟩
                have n6_ : Aside0 (w.heap.size ≤ gb275) := ⟨h6_⟩
                have n7_ : Aside0 (gb260 ≠ gb275) := ⟨h7_⟩
                have n8_ : Aside0 (gb275 ≠ gb260) := ⟨h8_⟩
                have n9_ : Aside0 (gb261 ≠ gb275) := ⟨h9_⟩
                have n10_ : Aside0 (gb275 ≠ gb261) := ⟨h10_⟩
                have n11_ : Aside0 (gb262 ≠ gb275) := ⟨h11_⟩
                have n12_ : Aside0 (gb275 ≠ gb262) := ⟨h12_⟩
                have n13_ : Aside0 (gb263 ≠ gb275) := ⟨h13_⟩
                have n14_ : Aside0 (gb275 ≠ gb263) := ⟨h14_⟩
                have n15_ : Aside0 (Below w.heap.size w w26) := ⟨h15_⟩
                clear BK260
                clear BK261
                clear BK262
                clear BK263
                clear HB
                clear h0_ h1_ h2_ h3_ h4_ h5_ h6_ h7_ h8_ h9_ h10_ h11_ h12_ h13_ h14_ h15_
                have BK260 := n0_
                have BK261 := n1_
                have BK262 := n2_
                have BK263 := n3_
                have BK275 := n4_
                have GW275 := n5_
                have GE275 := n6_
                have NB260_275 := n7_
                have NB275_260 := n8_
                have NB261_275 := n9_
                have NB275_261 := n10_
                have NB262_275 := n11_
                have NB275_262 := n12_
                have NB263_275 := n13_
                have NB275_263 := n14_
                have HB := n15_
                clear n0_ n1_ n2_ n3_ n4_ n5_ n6_ n7_ n8_ n9_ n10_ n11_ n12_ n13_ n14_ n15_
                have hHeld : w26.cell? ⟨gb260, 0, none⟩ = some (.int .i64 a0_0) ∧ w26.cell? ⟨gb260, 1, none⟩ = some (.int .i64 a0_1) ∧ w26.cell? ⟨gb261, 0, none⟩ = some (.int .i64 a1_0) ∧ w26.cell? ⟨gb261, 1, none⟩ = some (.int .i64 a1_1) ∧ w26.cell? ⟨gb262, 0, none⟩ = some (.int .i64 a2_0) ∧ w26.cell? ⟨gb262, 1, none⟩ = some (.int .i64 a2_1) ∧ w26.cell? ⟨gb263, 0, none⟩ = some (.int .i64 a3_0) ∧ w26.cell? ⟨gb263, 1, none⟩ = some (.int .i64 a3_1) := hS_
                refine norm_ (a' := ?_) ?_ ?_
                rotate_left
                · simp only [putAll, Act.put, List.setIfInBounds_toArray, List.set_cons_zero, List.set_cons_succ]
                  rfl
                refine one_ (i := 5) (N := some 19) #[true,true,true,true,true,true,true,false,false,false,false,false,true,false,false] rfl rfl (one_of HT_.out (by kernel_rfl)) (by decide) (fun K hK => ?_)
                refine goes_ Try.func13 (by kernel_rfl) rfl #[.agg #[.int .i64 a2_0, .int .i64 a2_1]] (by rfl) rfl rfl al ?_
                with_reducible refine (laws_toPoint.calls a2_0 a2_1 t268 t269 _ A7.out).mono ?_
                rintro e w27 ⟨rfl, hb⟩
                refine ⟨_, rfl, ?_⟩
                have n0_ := Aside0.mk (blk_below (bf BK260.out) hb)
                have n1_ := Aside0.mk (blk_below (bf BK261.out) hb)
                have n2_ := Aside0.mk (blk_below (bf BK262.out) hb)
                have n3_ := Aside0.mk (blk_below (bf BK263.out) hb)
                have n4_ := Aside0.mk (blk_below (bf BK275.out) hb)
                have n5_ := Aside0.mk (below_step (lb HB.out) hb)
                clear BK260
                clear BK261
                clear BK262
                clear BK263
                clear BK275
                clear HB
                have BK260 := n0_
                have BK261 := n1_
                have BK262 := n2_
                have BK263 := n3_
                have BK275 := n4_
                have HB := n5_
                clear n0_ n1_ n2_ n3_ n4_ n5_
                (try clear hb)
                (try clear hb2)
                (try clear hk)
                (try clear hi)
                refine hK.out _ _ ⟨(blk_cell BK260.out 0).trans rfl, (blk_cell BK260.out 1).trans rfl, (blk_cell BK261.out 0).trans rfl, (blk_cell BK261.out 1).trans rfl, (blk_cell BK262.out 0).trans rfl, (blk_cell BK262.out 1).trans rfl, (blk_cell BK263.out 0).trans rfl, (blk_cell BK263.out 1).trans rfl⟩ (fun hHeld => ?_)
                clear hK K
                refine norm_ (a' := ?_) ?_ ?_
                rotate_left
                · show Act.put _ (some 19) _ = _
                  simp only [Act.put, List.setIfInBounds_toArray, List.set_cons_zero, List.set_cons_succ, i64_w, i32_w]
                  rfl
                exact norm_ (by first | (simp only [putAll, Act.put, List.setIfInBounds_toArray, List.set_cons_zero, List.set_cons_succ]; done) | (simp only [putAll, Act.put, List.setIfInBounds_toArray, List.set_cons_zero, List.set_cons_succ]; rfl)) (hJ1_3_5_12 (gb275) _ ⟨hHeld, (bf BK260.out), (bf BK261.out), (bf BK262.out), (bf BK263.out), (bf BK275.out), GW275.out, GE275.out, NB260_275.out, NB275_260.out, NB261_275.out, NB275_261.out, NB262_275.out, NB275_262.out, NB263_275.out, NB275_263.out, (lb HB.out)⟩)
            · skip
              rintro _ w26 ⟨hS_, h0_, h1_, h2_, h3_, h4_⟩
              have n0_ : Aside0 (w26.heap[gb260]? = some (.cells #[.int .i64 a0_0, .int .i64 a0_1] 23 (0, 0))) := ⟨h0_⟩
              have n1_ : Aside0 (w26.heap[gb261]? = some (.cells #[.int .i64 a1_0, .int .i64 a1_1] 23 (0, 0))) := ⟨h1_⟩
              have n2_ : Aside0 (w26.heap[gb262]? = some (.cells #[.int .i64 a2_0, .int .i64 a2_1] 23 (0, 0))) := ⟨h2_⟩
              have n3_ : Aside0 (w26.heap[gb263]? = some (.cells #[.int .i64 a3_0, .int .i64 a3_1] 23 (0, 0))) := ⟨h3_⟩
              have n4_ : Aside0 (Below w.heap.size w w26) := ⟨h4_⟩
              clear BK260
              clear BK261
              clear BK262
              clear BK263
              clear HB
              clear h0_ h1_ h2_ h3_ h4_
              have BK260 := n0_
              have BK261 := n1_
              have BK262 := n2_
              have BK263 := n3_
              have HB := n4_
              clear n0_ n1_ n2_ n3_ n4_
              have hHeld : w26.cell? ⟨gb260, 0, none⟩ = some (.int .i64 a0_0) ∧ w26.cell? ⟨gb260, 1, none⟩ = some (.int .i64 a0_1) ∧ w26.cell? ⟨gb261, 0, none⟩ = some (.int .i64 a1_0) ∧ w26.cell? ⟨gb261, 1, none⟩ = some (.int .i64 a1_1) ∧ w26.cell? ⟨gb262, 0, none⟩ = some (.int .i64 a2_0) ∧ w26.cell? ⟨gb262, 1, none⟩ = some (.int .i64 a2_1) ∧ w26.cell? ⟨gb263, 0, none⟩ = some (.int .i64 a3_0) ∧ w26.cell? ⟨gb263, 1, none⟩ = some (.int .i64 a3_1) := hS_
              refine norm_ (a' := ?_) ?_ ?_
              rotate_left
              · simp only [putAll, Act.put, List.setIfInBounds_toArray, List.set_cons_zero, List.set_cons_succ]
                rfl
              refine two_ (i := 7) (j := 12) (Ni := some 21) (Nj := some 9) #[true,true,true,true,true,true,true,true,false,false,false,false,false,false,false] #[true,true,true,true,true,true,true,false,false,false,false,false,true,false,false] rfl rfl rfl rfl (two_of HT_.out (by kernel_rfl)) (by decide) (by decide) (fun K hK => ?_) (fun K hK => ?_)
              · skip
                refine goes_ Try.func13 (by kernel_rfl) rfl #[.agg #[.int .i64 a3_0, .int .i64 a3_1]] (by rfl) rfl rfl al ?_
                with_reducible refine (laws_toPoint.calls a3_0 a3_1 t270 t271 _ A8.out).mono ?_
                rintro e w27 ⟨rfl, hb⟩
                refine ⟨_, rfl, ?_⟩
                have n0_ := Aside0.mk (blk_below (bf BK260.out) hb)
                have n1_ := Aside0.mk (blk_below (bf BK261.out) hb)
                have n2_ := Aside0.mk (blk_below (bf BK262.out) hb)
                have n3_ := Aside0.mk (blk_below (bf BK263.out) hb)
                have n4_ := Aside0.mk (below_step (lb HB.out) hb)
                clear BK260
                clear BK261
                clear BK262
                clear BK263
                clear HB
                have BK260 := n0_
                have BK261 := n1_
                have BK262 := n2_
                have BK263 := n3_
                have HB := n4_
                clear n0_ n1_ n2_ n3_ n4_
                (try clear hb)
                (try clear hb2)
                (try clear hk)
                (try clear hi)
                refine hK.out _ _ ⟨(blk_cell BK260.out 0).trans rfl, (blk_cell BK260.out 1).trans rfl, (blk_cell BK261.out 0).trans rfl, (blk_cell BK261.out 1).trans rfl, (blk_cell BK262.out 0).trans rfl, (blk_cell BK262.out 1).trans rfl, (blk_cell BK263.out 0).trans rfl, (blk_cell BK263.out 1).trans rfl⟩ (fun hHeld => ?_)
                clear hK K
                refine norm_ (a' := ?_) ?_ ?_
                rotate_left
                · show Act.put _ (some 21) _ = _
                  simp only [Act.put, List.setIfInBounds_toArray, List.set_cons_zero, List.set_cons_succ, i64_w, i32_w]
                  rfl
                exact norm_ (by first | (simp only [putAll, Act.put, List.setIfInBounds_toArray, List.set_cons_zero, List.set_cons_succ]; done) | (simp only [putAll, Act.put, List.setIfInBounds_toArray, List.set_cons_zero, List.set_cons_succ]; rfl)) (hJ1_3_5_7 () _ ⟨hHeld, (bf BK260.out), (bf BK261.out), (bf BK262.out), (bf BK263.out), (lb HB.out)⟩)
              · skip
                refine box_step ?hg (N := 9) ?hd (cs := #[.int .i64 0, .int .i64 0]) (t := 29) ?hr ?_; (case hd => rfl); (case hg => rfl); (case hr => first | (go_simp; done) | (go_simp; rfl))
                intro gb275 hg w27 hbox hb
                have n0_ := Aside0.mk (blk_below (bf BK260.out) hb)
                have n1_ := Aside0.mk (blk_below (bf BK261.out) hb)
                have n2_ := Aside0.mk (blk_below (bf BK262.out) hb)
                have n3_ := Aside0.mk (blk_below (bf BK263.out) hb)
                have n4_ := Aside0.mk (below_step (lb HB.out) hb)
                have n5_ := Aside0.mk (hbox)
                have n6_ := Aside0.mk ((by rw [hg]; exact (below_size (lb HB.out)) : w.heap.size ≤ gb275))
                have n7_ := Aside0.mk ((by rw [hg]; exact (below_size (lb HB.out)) : w.heap.size ≤ gb275))
                have n8_ := Aside0.mk ((by rw [hg]; exact Nat.ne_of_lt (blk_lt (bf BK260.out)) : gb260 ≠ gb275))
                have n9_ := Aside0.mk ((by rw [hg]; exact Nat.ne_of_gt (blk_lt (bf BK260.out)) : gb275 ≠ gb260))
                have n10_ := Aside0.mk ((by rw [hg]; exact Nat.ne_of_lt (blk_lt (bf BK261.out)) : gb261 ≠ gb275))
                have n11_ := Aside0.mk ((by rw [hg]; exact Nat.ne_of_gt (blk_lt (bf BK261.out)) : gb275 ≠ gb261))
                have n12_ := Aside0.mk ((by rw [hg]; exact Nat.ne_of_lt (blk_lt (bf BK262.out)) : gb262 ≠ gb275))
                have n13_ := Aside0.mk ((by rw [hg]; exact Nat.ne_of_gt (blk_lt (bf BK262.out)) : gb275 ≠ gb262))
                have n14_ := Aside0.mk ((by rw [hg]; exact Nat.ne_of_lt (blk_lt (bf BK263.out)) : gb263 ≠ gb275))
                have n15_ := Aside0.mk ((by rw [hg]; exact Nat.ne_of_gt (blk_lt (bf BK263.out)) : gb275 ≠ gb263))
                clear BK260
                clear BK261
                clear BK262
                clear BK263
                clear HB
                have BK260 := n0_
                have BK261 := n1_
                have BK262 := n2_
                have BK263 := n3_
                have HB := n4_
                have BK275 := n5_
                have GW275 := n6_
                have GE275 := n7_
                have NB260_275 := n8_
                have NB275_260 := n9_
                have NB261_275 := n10_
                have NB275_261 := n11_
                have NB262_275 := n12_
                have NB275_262 := n13_
                have NB263_275 := n14_
                have NB275_263 := n15_
                clear n0_ n1_ n2_ n3_ n4_ n5_ n6_ n7_ n8_ n9_ n10_ n11_ n12_ n13_ n14_ n15_
                clear hb hbox hg
                refine hK.out _ _ ⟨(blk_cell BK260.out 0).trans rfl, (blk_cell BK260.out 1).trans rfl, (blk_cell BK261.out 0).trans rfl, (blk_cell BK261.out 1).trans rfl, (blk_cell BK262.out 0).trans rfl, (blk_cell BK262.out 1).trans rfl, (blk_cell BK263.out 0).trans rfl, (blk_cell BK263.out 1).trans rfl⟩ (fun hHeld => ?_)
                clear hK K
                refine norm_ (a' := ?_) ?_ ?_
                rotate_left
                · show Act.put _ (some 9) _ = _
                  simp only [Act.put, List.setIfInBounds_toArray, List.set_cons_zero, List.set_cons_succ, i64_w, i32_w]
                  rfl
                exact norm_ (by first | (simp only [putAll, Act.put, List.setIfInBounds_toArray, List.set_cons_zero, List.set_cons_succ]; done) | (simp only [putAll, Act.put, List.setIfInBounds_toArray, List.set_cons_zero, List.set_cons_succ]; rfl)) (hJ1_3_5_12 (gb275) _ ⟨hHeld, (bf BK260.out), (bf BK261.out), (bf BK262.out), (bf BK263.out), (bf BK275.out), GW275.out, GE275.out, NB260_275.out, NB275_260.out, NB261_275.out, NB275_261.out, NB262_275.out, NB275_262.out, NB263_275.out, NB275_263.out, (lb HB.out)⟩)
          · skip
            rintro gb275 w27 ⟨hS_, h0_, h1_, h2_, h3_, h4_, h5_, h6_, h7_, h8_, h9_, h10_, h11_, h12_, h13_, h14_, h15_⟩
            have n0_ : Aside0 (w27.heap[gb260]? = some (.cells #[.int .i64 a0_0, .int .i64 a0_1] 23 (0, 0))) := ⟨h0_⟩
            have n1_ : Aside0 (w27.heap[gb261]? = some (.cells #[.int .i64 a1_0, .int .i64 a1_1] 23 (0, 0))) := ⟨h1_⟩
            have n2_ : Aside0 (w27.heap[gb262]? = some (.cells #[.int .i64 a2_0, .int .i64 a2_1] 23 (0, 0))) := ⟨h2_⟩
            have n3_ : Aside0 (w27.heap[gb263]? = some (.cells #[.int .i64 a3_0, .int .i64 a3_1] 23 (0, 0))) := ⟨h3_⟩
            have n4_ : Aside0 (w27.heap[gb275]? = some (.cells #[.int .i64 0, .int .i64 0] 29 (0, 0))) := ⟨h4_⟩
            have n5_ : Aside0 (w.heap.size ≤ gb275) := ⟨h5_⟩
            have n6_ : Aside0 (w.heap.size ≤ gb275) := ⟨h6_⟩
            have n7_ : Aside0 (gb260 ≠ gb275) := ⟨h7_⟩
            have n8_ : Aside0 (gb275 ≠ gb260) := ⟨h8_⟩
            have n9_ : Aside0 (gb261 ≠ gb275) := ⟨h9_⟩
            have n10_ : Aside0 (gb275 ≠ gb261) := ⟨h10_⟩
            have n11_ : Aside0 (gb262 ≠ gb275) := ⟨h11_⟩
            have n12_ : Aside0 (gb275 ≠ gb262) := ⟨h12_⟩
            have n13_ : Aside0 (gb263 ≠ gb275) := ⟨h13_⟩
            have n14_ : Aside0 (gb275 ≠ gb263) := ⟨h14_⟩
            have n15_ : Aside0 (Below w.heap.size w w27) := ⟨h15_⟩
            clear BK260
            clear BK261
            clear BK262
            clear BK263
            clear HB
            clear h0_ h1_ h2_ h3_ h4_ h5_ h6_ h7_ h8_ h9_ h10_ h11_ h12_ h13_ h14_ h15_
            have BK260 := n0_
            have BK261 := n1_
            have BK262 := n2_
            have BK263 := n3_
            have BK275 := n4_
            have GW275 := n5_
            have GE275 := n6_
            have NB260_275 := n7_
            have NB275_260 := n8_
            have NB261_275 := n9_
            have NB275_261 := n10_
            have NB262_275 := n11_
            have NB275_262 := n12_
            have NB263_275 := n13_
            have NB275_263 := n14_
            have HB := n15_
            clear n0_ n1_ n2_ n3_ n4_ n5_ n6_ n7_ n8_ n9_ n10_ n11_ n12_ n13_ n14_ n15_
            have hHeld : w27.cell? ⟨gb260, 0, none⟩ = some (.int .i64 a0_0) ∧ w27.cell? ⟨gb260, 1, none⟩ = some (.int .i64 a0_1) ∧ w27.cell? ⟨gb261, 0, none⟩ = some (.int .i64 a1_0) ∧ w27.cell? ⟨gb261, 1, none⟩ = some (.int .i64 a1_1) ∧ w27.cell? ⟨gb262, 0, none⟩ = some (.int .i64 a2_0) ∧ w27.cell? ⟨gb262, 1, none⟩ = some (.int .i64 a2_1) ∧ w27.cell? ⟨gb263, 0, none⟩ = some (.int .i64 a3_0) ∧ w27.cell? ⟨gb263, 1, none⟩ = some (.int .i64 a3_1) := hS_
            refine norm_ (a' := ?_) ?_ ?_
            rotate_left
            · simp only [putAll, Act.put, List.setIfInBounds_toArray, List.set_cons_zero, List.set_cons_succ]
              rfl
            refine one_ (i := 7) (N := some 21) #[true,true,true,true,true,true,true,true,false,false,false,false,true,false,false] rfl rfl (one_of HT_.out (by kernel_rfl)) (by decide) (fun K hK => ?_)
            refine goes_ Try.func13 (by kernel_rfl) rfl #[.agg #[.int .i64 a3_0, .int .i64 a3_1]] (by rfl) rfl rfl al ?_
            with_reducible refine (laws_toPoint.calls a3_0 a3_1 t270 t271 _ A8.out).mono ?_
            rintro e w28 ⟨rfl, hb⟩
            refine ⟨_, rfl, ?_⟩
            have n0_ := Aside0.mk (blk_below (bf BK260.out) hb)
            have n1_ := Aside0.mk (blk_below (bf BK261.out) hb)
            have n2_ := Aside0.mk (blk_below (bf BK262.out) hb)
            have n3_ := Aside0.mk (blk_below (bf BK263.out) hb)
            have n4_ := Aside0.mk (blk_below (bf BK275.out) hb)
            have n5_ := Aside0.mk (below_step (lb HB.out) hb)
            clear BK260
            clear BK261
            clear BK262
            clear BK263
            clear BK275
            clear HB
            have BK260 := n0_
            have BK261 := n1_
            have BK262 := n2_
            have BK263 := n3_
            have BK275 := n4_
            have HB := n5_
            clear n0_ n1_ n2_ n3_ n4_ n5_
            (try clear hb)
            (try clear hb2)
            (try clear hk)
            (try clear hi)
            refine hK.out _ _ ⟨(blk_cell BK260.out 0).trans rfl, (blk_cell BK260.out 1).trans rfl, (blk_cell BK261.out 0).trans rfl, (blk_cell BK261.out 1).trans rfl, (blk_cell BK262.out 0).trans rfl, (blk_cell BK262.out 1).trans rfl, (blk_cell BK263.out 0).trans rfl, (blk_cell BK263.out 1).trans rfl⟩ (fun hHeld => ?_)
            clear hK K
            refine norm_ (a' := ?_) ?_ ?_
            rotate_left
            · show Act.put _ (some 21) _ = _
              simp only [Act.put, List.setIfInBounds_toArray, List.set_cons_zero, List.set_cons_succ, i64_w, i32_w]
              rfl
            exact norm_ (by first | (simp only [putAll, Act.put, List.setIfInBounds_toArray, List.set_cons_zero, List.set_cons_succ]; done) | (simp only [putAll, Act.put, List.setIfInBounds_toArray, List.set_cons_zero, List.set_cons_succ]; rfl)) (hJ1_3_5_7_12 (gb275) _ ⟨hHeld, (bf BK260.out), (bf BK261.out), (bf BK262.out), (bf BK263.out), (bf BK275.out), GW275.out, GE275.out, NB260_275.out, NB275_260.out, NB261_275.out, NB275_261.out, NB262_275.out, NB275_262.out, NB263_275.out, NB275_263.out, (lb HB.out)⟩)
        · skip
          rintro _ w27 ⟨hS_, h0_, h1_, h2_, h3_, h4_⟩
          have n0_ : Aside0 (w27.heap[gb260]? = some (.cells #[.int .i64 a0_0, .int .i64 a0_1] 23 (0, 0))) := ⟨h0_⟩
          have n1_ : Aside0 (w27.heap[gb261]? = some (.cells #[.int .i64 a1_0, .int .i64 a1_1] 23 (0, 0))) := ⟨h1_⟩
          have n2_ : Aside0 (w27.heap[gb262]? = some (.cells #[.int .i64 a2_0, .int .i64 a2_1] 23 (0, 0))) := ⟨h2_⟩
          have n3_ : Aside0 (w27.heap[gb263]? = some (.cells #[.int .i64 a3_0, .int .i64 a3_1] 23 (0, 0))) := ⟨h3_⟩
          have n4_ : Aside0 (Below w.heap.size w w27) := ⟨h4_⟩
          clear BK260
          clear BK261
          clear BK262
          clear BK263
          clear HB
          clear h0_ h1_ h2_ h3_ h4_
          have BK260 := n0_
          have BK261 := n1_
          have BK262 := n2_
          have BK263 := n3_
          have HB := n4_
          clear n0_ n1_ n2_ n3_ n4_
          have hHeld : w27.cell? ⟨gb260, 0, none⟩ = some (.int .i64 a0_0) ∧ w27.cell? ⟨gb260, 1, none⟩ = some (.int .i64 a0_1) ∧ w27.cell? ⟨gb261, 0, none⟩ = some (.int .i64 a1_0) ∧ w27.cell? ⟨gb261, 1, none⟩ = some (.int .i64 a1_1) ∧ w27.cell? ⟨gb262, 0, none⟩ = some (.int .i64 a2_0) ∧ w27.cell? ⟨gb262, 1, none⟩ = some (.int .i64 a2_1) ∧ w27.cell? ⟨gb263, 0, none⟩ = some (.int .i64 a3_0) ∧ w27.cell? ⟨gb263, 1, none⟩ = some (.int .i64 a3_1) := hS_
          refine norm_ (a' := ?_) ?_ ?_
          rotate_left
          · simp only [putAll, Act.put, List.setIfInBounds_toArray, List.set_cons_zero, List.set_cons_succ]
            rfl
          refine two_ (i := 8) (j := 12) (Ni := some 22) (Nj := some 9) #[true,true,true,true,true,true,true,true,true,false,false,false,false,false,false] #[true,true,true,true,true,true,true,true,false,false,false,false,true,false,false] rfl rfl rfl rfl (two_of HT_.out (by kernel_rfl)) (by decide) (by decide) (fun K hK => ?_) (fun K hK => ?_)
          · skip
            refine goes_ Try.func17 (by kernel_rfl) rfl #[.agg #[.int .i64 t264, .int .i64 t265], .agg #[.int .i64 t266, .int .i64 t267], .agg #[.int .i64 t268, .int .i64 t269], .agg #[.int .i64 t270, .int .i64 t271]] (by rfl) rfl rfl al ?_
            with_reducible refine (spec_CrossOf.calls k t264 t265 t266 t267 t268 t269 t270 t271 t272 t273 t274 _ A9.out).mono ?_
            rintro e w28 ⟨rfl, hb⟩
            refine ⟨_, rfl, ?_⟩
            have n0_ := Aside0.mk (blk_below (bf BK260.out) hb)
            have n1_ := Aside0.mk (blk_below (bf BK261.out) hb)
            have n2_ := Aside0.mk (blk_below (bf BK262.out) hb)
            have n3_ := Aside0.mk (blk_below (bf BK263.out) hb)
            have n4_ := Aside0.mk (below_step (lb HB.out) hb)
            clear BK260
            clear BK261
            clear BK262
            clear BK263
            clear HB
            have BK260 := n0_
            have BK261 := n1_
            have BK262 := n2_
            have BK263 := n3_
            have HB := n4_
            clear n0_ n1_ n2_ n3_ n4_
            (try clear hb)
            (try clear hb2)
            (try clear hk)
            (try clear hi)
            refine hK.out _ _ ⟨(blk_cell BK260.out 0).trans rfl, (blk_cell BK260.out 1).trans rfl, (blk_cell BK261.out 0).trans rfl, (blk_cell BK261.out 1).trans rfl, (blk_cell BK262.out 0).trans rfl, (blk_cell BK262.out 1).trans rfl, (blk_cell BK263.out 0).trans rfl, (blk_cell BK263.out 1).trans rfl⟩ (fun hHeld => ?_)
            clear hK K
            refine norm_ (a' := ?_) ?_ ?_
            rotate_left
            · show Act.put _ (some 22) _ = _
              simp only [Act.put, List.setIfInBounds_toArray, List.set_cons_zero, List.set_cons_succ, i64_w, i32_w]
              rfl
            refine pure_ (i := 9) (N := some 13) (v := ?_) (a' := ?_) #[true,true,true,true,true,true,true,true,true,true,false,false,false,false,false] rfl rfl (any_of HT_.out (by kernel_rfl)) (fun _ _ _ h => h) (Or.inl ⟨by rfl, ?_⟩) ?_ ?_
            rotate_left
            · intro w'
              go_simp
              with_reducible rfl
            rotate_left
            · simp only [Act.put, List.setIfInBounds_toArray, List.set_cons_zero, List.set_cons_succ, i64_w, i32_w]
              rfl
            refine pure_ (i := 10) (N := some 23) (v := ?_) (a' := ?_) #[true,true,true,true,true,true,true,true,true,true,true,false,false,false,false] rfl rfl (any_of HT_.out (by kernel_rfl)) (fun _ _ _ h => h) (Or.inl ⟨by rfl, ?_⟩) ?_ ?_
            rotate_left
            · intro w'
              go_simp
              with_reducible rfl
            rotate_left
            · simp only [Act.put, List.setIfInBounds_toArray, List.set_cons_zero, List.set_cons_succ, i64_w, i32_w]
              rfl
            refine pure_ (i := 11) (N := some 24) (v := ?_) (a' := ?_) #[true,true,true,true,true,true,true,true,true,true,true,true,false,false,false] rfl rfl (any_of HT_.out (by kernel_rfl)) (fun _ _ _ h => h) (Or.inl ⟨by rfl, ?_⟩) ?_ ?_
            rotate_left
            · intro w'
              go_simp
              with_reducible rfl
            rotate_left
            · simp only [Act.put, List.setIfInBounds_toArray, List.set_cons_zero, List.set_cons_succ, i64_w, i32_w]
              rfl
            exact norm_ (by first | (simp only [putAll, Act.put, List.setIfInBounds_toArray, List.set_cons_zero, List.set_cons_succ]; done) | (simp only [putAll, Act.put, List.setIfInBounds_toArray, List.set_cons_zero, List.set_cons_succ]; rfl)) (hJ1_3_5_7_8 () _ ⟨hHeld, (bf BK260.out), (bf BK261.out), (bf BK262.out), (bf BK263.out), (lb HB.out)⟩)
          · skip
            refine box_step ?hg (N := 9) ?hd (cs := #[.int .i64 0, .int .i64 0]) (t := 29) ?hr ?_; (case hd => rfl); (case hg => rfl); (case hr => first | (go_simp; done) | (go_simp; rfl))
            intro gb275 hg w28 hbox hb
            have n0_ := Aside0.mk (blk_below (bf BK260.out) hb)
            have n1_ := Aside0.mk (blk_below (bf BK261.out) hb)
            have n2_ := Aside0.mk (blk_below (bf BK262.out) hb)
            have n3_ := Aside0.mk (blk_below (bf BK263.out) hb)
            have n4_ := Aside0.mk (below_step (lb HB.out) hb)
            have n5_ := Aside0.mk (hbox)
            have n6_ := Aside0.mk ((by rw [hg]; exact (below_size (lb HB.out)) : w.heap.size ≤ gb275))
            have n7_ := Aside0.mk ((by rw [hg]; exact (below_size (lb HB.out)) : w.heap.size ≤ gb275))
            have n8_ := Aside0.mk ((by rw [hg]; exact Nat.ne_of_lt (blk_lt (bf BK260.out)) : gb260 ≠ gb275))
            have n9_ := Aside0.mk ((by rw [hg]; exact Nat.ne_of_gt (blk_lt (bf BK260.out)) : gb275 ≠ gb260))
            have n10_ := Aside0.mk ((by rw [hg]; exact Nat.ne_of_lt (blk_lt (bf BK261.out)) : gb261 ≠ gb275))
            have n11_ := Aside0.mk ((by rw [hg]; exact Nat.ne_of_gt (blk_lt (bf BK261.out)) : gb275 ≠ gb261))
            have n12_ := Aside0.mk ((by rw [hg]; exact Nat.ne_of_lt (blk_lt (bf BK262.out)) : gb262 ≠ gb275))
            have n13_ := Aside0.mk ((by rw [hg]; exact Nat.ne_of_gt (blk_lt (bf BK262.out)) : gb275 ≠ gb262))
            have n14_ := Aside0.mk ((by rw [hg]; exact Nat.ne_of_lt (blk_lt (bf BK263.out)) : gb263 ≠ gb275))
            have n15_ := Aside0.mk ((by rw [hg]; exact Nat.ne_of_gt (blk_lt (bf BK263.out)) : gb275 ≠ gb263))
            clear BK260
            clear BK261
            clear BK262
            clear BK263
            clear HB
            have BK260 := n0_
            have BK261 := n1_
            have BK262 := n2_
            have BK263 := n3_
            have HB := n4_
            have BK275 := n5_
            have GW275 := n6_
            have GE275 := n7_
            have NB260_275 := n8_
            have NB275_260 := n9_
            have NB261_275 := n10_
            have NB275_261 := n11_
            have NB262_275 := n12_
            have NB275_262 := n13_
            have NB263_275 := n14_
            have NB275_263 := n15_
            clear n0_ n1_ n2_ n3_ n4_ n5_ n6_ n7_ n8_ n9_ n10_ n11_ n12_ n13_ n14_ n15_
            clear hb hbox hg
            refine hK.out _ _ ⟨(blk_cell BK260.out 0).trans rfl, (blk_cell BK260.out 1).trans rfl, (blk_cell BK261.out 0).trans rfl, (blk_cell BK261.out 1).trans rfl, (blk_cell BK262.out 0).trans rfl, (blk_cell BK262.out 1).trans rfl, (blk_cell BK263.out 0).trans rfl, (blk_cell BK263.out 1).trans rfl⟩ (fun hHeld => ?_)
            clear hK K
            refine norm_ (a' := ?_) ?_ ?_
            rotate_left
            · show Act.put _ (some 9) _ = _
              simp only [Act.put, List.setIfInBounds_toArray, List.set_cons_zero, List.set_cons_succ, i64_w, i32_w]
              rfl
            exact norm_ (by first | (simp only [putAll, Act.put, List.setIfInBounds_toArray, List.set_cons_zero, List.set_cons_succ]; done) | (simp only [putAll, Act.put, List.setIfInBounds_toArray, List.set_cons_zero, List.set_cons_succ]; rfl)) (hJ1_3_5_7_12 (gb275) _ ⟨hHeld, (bf BK260.out), (bf BK261.out), (bf BK262.out), (bf BK263.out), (bf BK275.out), GW275.out, GE275.out, NB260_275.out, NB275_260.out, NB261_275.out, NB275_261.out, NB262_275.out, NB275_262.out, NB263_275.out, NB275_263.out, (lb HB.out)⟩)
      · skip
        rintro gb275 w28 ⟨hS_, h0_, h1_, h2_, h3_, h4_, h5_, h6_, h7_, h8_, h9_, h10_, h11_, h12_, h13_, h14_, h15_⟩
        have n0_ : Aside0 (w28.heap[gb260]? = some (.cells #[.int .i64 a0_0, .int .i64 a0_1] 23 (0, 0))) := ⟨h0_⟩
        have n1_ : Aside0 (w28.heap[gb261]? = some (.cells #[.int .i64 a1_0, .int .i64 a1_1] 23 (0, 0))) := ⟨h1_⟩
        have n2_ : Aside0 (w28.heap[gb262]? = some (.cells #[.int .i64 a2_0, .int .i64 a2_1] 23 (0, 0))) := ⟨h2_⟩
        have n3_ : Aside0 (w28.heap[gb263]? = some (.cells #[.int .i64 a3_0, .int .i64 a3_1] 23 (0, 0))) := ⟨h3_⟩
        have n4_ : Aside0 (w28.heap[gb275]? = some (.cells #[.int .i64 0, .int .i64 0] 29 (0, 0))) := ⟨h4_⟩
        have n5_ : Aside0 (w.heap.size ≤ gb275) := ⟨h5_⟩
        have n6_ : Aside0 (w.heap.size ≤ gb275) := ⟨h6_⟩
        have n7_ : Aside0 (gb260 ≠ gb275) := ⟨h7_⟩
        have n8_ : Aside0 (gb275 ≠ gb260) := ⟨h8_⟩
        have n9_ : Aside0 (gb261 ≠ gb275) := ⟨h9_⟩
        have n10_ : Aside0 (gb275 ≠ gb261) := ⟨h10_⟩
        have n11_ : Aside0 (gb262 ≠ gb275) := ⟨h11_⟩
        have n12_ : Aside0 (gb275 ≠ gb262) := ⟨h12_⟩
        have n13_ : Aside0 (gb263 ≠ gb275) := ⟨h13_⟩
        have n14_ : Aside0 (gb275 ≠ gb263) := ⟨h14_⟩
        have n15_ : Aside0 (Below w.heap.size w w28) := ⟨h15_⟩
        clear BK260
        clear BK261
        clear BK262
        clear BK263
        clear HB
        clear h0_ h1_ h2_ h3_ h4_ h5_ h6_ h7_ h8_ h9_ h10_ h11_ h12_ h13_ h14_ h15_
        have BK260 := n0_
        have BK261 := n1_
        have BK262 := n2_
        have BK263 := n3_
        have BK275 := n4_
        have GW275 := n5_
        have GE275 := n6_
        have NB260_275 := n7_
        have NB275_260 := n8_
        have NB261_275 := n9_
        have NB275_261 := n10_
        have NB262_275 := n11_
        have NB275_262 := n12_
        have NB263_275 := n13_
        have NB275_263 := n14_
        have HB := n15_
        clear n0_ n1_ n2_ n3_ n4_ n5_ n6_ n7_ n8_ n9_ n10_ n11_ n12_ n13_ n14_ n15_
        have hHeld : w28.cell? ⟨gb260, 0, none⟩ = some (.int .i64 a0_0) ∧ w28.cell? ⟨gb260, 1, none⟩ = some (.int .i64 a0_1) ∧ w28.cell? ⟨gb261, 0, none⟩ = some (.int .i64 a1_0) ∧ w28.cell? ⟨gb261, 1, none⟩ = some (.int .i64 a1_1) ∧ w28.cell? ⟨gb262, 0, none⟩ = some (.int .i64 a2_0) ∧ w28.cell? ⟨gb262, 1, none⟩ = some (.int .i64 a2_1) ∧ w28.cell? ⟨gb263, 0, none⟩ = some (.int .i64 a3_0) ∧ w28.cell? ⟨gb263, 1, none⟩ = some (.int .i64 a3_1) := hS_
        refine norm_ (a' := ?_) ?_ ?_
        rotate_left
        · simp only [putAll, Act.put, List.setIfInBounds_toArray, List.set_cons_zero, List.set_cons_succ]
          rfl
        refine one_ (i := 8) (N := some 22) #[true,true,true,true,true,true,true,true,true,false,false,false,true,false,false] rfl rfl (one_of HT_.out (by kernel_rfl)) (by decide) (fun K hK => ?_)
        refine goes_ Try.func17 (by kernel_rfl) rfl #[.agg #[.int .i64 t264, .int .i64 t265], .agg #[.int .i64 t266, .int .i64 t267], .agg #[.int .i64 t268, .int .i64 t269], .agg #[.int .i64 t270, .int .i64 t271]] (by rfl) rfl rfl al ?_
        with_reducible refine (spec_CrossOf.calls k t264 t265 t266 t267 t268 t269 t270 t271 t272 t273 t274 _ A9.out).mono ?_
        rintro e w29 ⟨rfl, hb⟩
        refine ⟨_, rfl, ?_⟩
        have n0_ := Aside0.mk (blk_below (bf BK260.out) hb)
        have n1_ := Aside0.mk (blk_below (bf BK261.out) hb)
        have n2_ := Aside0.mk (blk_below (bf BK262.out) hb)
        have n3_ := Aside0.mk (blk_below (bf BK263.out) hb)
        have n4_ := Aside0.mk (blk_below (bf BK275.out) hb)
        have n5_ := Aside0.mk (below_step (lb HB.out) hb)
        clear BK260
        clear BK261
        clear BK262
        clear BK263
        clear BK275
        clear HB
        have BK260 := n0_
        have BK261 := n1_
        have BK262 := n2_
        have BK263 := n3_
        have BK275 := n4_
        have HB := n5_
        clear n0_ n1_ n2_ n3_ n4_ n5_
        (try clear hb)
        (try clear hb2)
        (try clear hk)
        (try clear hi)
        refine hK.out _ _ ⟨(blk_cell BK260.out 0).trans rfl, (blk_cell BK260.out 1).trans rfl, (blk_cell BK261.out 0).trans rfl, (blk_cell BK261.out 1).trans rfl, (blk_cell BK262.out 0).trans rfl, (blk_cell BK262.out 1).trans rfl, (blk_cell BK263.out 0).trans rfl, (blk_cell BK263.out 1).trans rfl⟩ (fun hHeld => ?_)
        clear hK K
        refine norm_ (a' := ?_) ?_ ?_
        rotate_left
        · show Act.put _ (some 22) _ = _
          simp only [Act.put, List.setIfInBounds_toArray, List.set_cons_zero, List.set_cons_succ, i64_w, i32_w]
          rfl
        refine pure_ (i := 9) (N := some 13) (v := ?_) (a' := ?_) #[true,true,true,true,true,true,true,true,true,true,false,false,true,false,false] rfl rfl (any_of HT_.out (by kernel_rfl)) (fun _ _ _ h => h) (Or.inl ⟨by rfl, ?_⟩) ?_ ?_
        rotate_left
        · intro w'
          go_simp
          with_reducible rfl
        rotate_left
        · simp only [Act.put, List.setIfInBounds_toArray, List.set_cons_zero, List.set_cons_succ, i64_w, i32_w]
          rfl
        refine pure_ (i := 10) (N := some 23) (v := ?_) (a' := ?_) #[true,true,true,true,true,true,true,true,true,true,true,false,true,false,false] rfl rfl (any_of HT_.out (by kernel_rfl)) (fun _ _ _ h => h) (Or.inl ⟨by rfl, ?_⟩) ?_ ?_
        rotate_left
        · intro w'
          go_simp
          with_reducible rfl
        rotate_left
        · simp only [Act.put, List.setIfInBounds_toArray, List.set_cons_zero, List.set_cons_succ, i64_w, i32_w]
          rfl
        refine pure_ (i := 11) (N := some 24) (v := ?_) (a' := ?_) #[true,true,true,true,true,true,true,true,true,true,true,true,true,false,false] rfl rfl (any_of HT_.out (by kernel_rfl)) (fun _ _ _ h => h) (Or.inl ⟨by rfl, ?_⟩) ?_ ?_
        rotate_left
        · intro w'
          go_simp
          with_reducible rfl
        rotate_left
        · simp only [Act.put, List.setIfInBounds_toArray, List.set_cons_zero, List.set_cons_succ, i64_w, i32_w]
          rfl
        exact norm_ (by first | (simp only [putAll, Act.put, List.setIfInBounds_toArray, List.set_cons_zero, List.set_cons_succ]; done) | (simp only [putAll, Act.put, List.setIfInBounds_toArray, List.set_cons_zero, List.set_cons_succ]; rfl)) (hJ1_3_5_7_8_12 (gb275) _ ⟨hHeld, (bf BK260.out), (bf BK261.out), (bf BK262.out), (bf BK263.out), (bf BK275.out), GW275.out, GE275.out, NB260_275.out, NB275_260.out, NB261_275.out, NB275_261.out, NB262_275.out, NB275_262.out, NB263_275.out, NB275_263.out, (lb HB.out)⟩)
    · skip
      rintro _ w28 ⟨hS_, h0_, h1_, h2_, h3_, h4_⟩
      have n0_ : Aside0 (w28.heap[gb260]? = some (.cells #[.int .i64 a0_0, .int .i64 a0_1] 23 (0, 0))) := ⟨h0_⟩
      have n1_ : Aside0 (w28.heap[gb261]? = some (.cells #[.int .i64 a1_0, .int .i64 a1_1] 23 (0, 0))) := ⟨h1_⟩
      have n2_ : Aside0 (w28.heap[gb262]? = some (.cells #[.int .i64 a2_0, .int .i64 a2_1] 23 (0, 0))) := ⟨h2_⟩
      have n3_ : Aside0 (w28.heap[gb263]? = some (.cells #[.int .i64 a3_0, .int .i64 a3_1] 23 (0, 0))) := ⟨h3_⟩
      have n4_ : Aside0 (Below w.heap.size w w28) := ⟨h4_⟩
      clear BK260
      clear BK261
      clear BK262
      clear BK263
      clear HB
      clear h0_ h1_ h2_ h3_ h4_
      have BK260 := n0_
      have BK261 := n1_
      have BK262 := n2_
      have BK263 := n3_
      have HB := n4_
      clear n0_ n1_ n2_ n3_ n4_
      have hHeld : w28.cell? ⟨gb260, 0, none⟩ = some (.int .i64 a0_0) ∧ w28.cell? ⟨gb260, 1, none⟩ = some (.int .i64 a0_1) ∧ w28.cell? ⟨gb261, 0, none⟩ = some (.int .i64 a1_0) ∧ w28.cell? ⟨gb261, 1, none⟩ = some (.int .i64 a1_1) ∧ w28.cell? ⟨gb262, 0, none⟩ = some (.int .i64 a2_0) ∧ w28.cell? ⟨gb262, 1, none⟩ = some (.int .i64 a2_1) ∧ w28.cell? ⟨gb263, 0, none⟩ = some (.int .i64 a3_0) ∧ w28.cell? ⟨gb263, 1, none⟩ = some (.int .i64 a3_1) := hS_
      refine norm_ (a' := ?_) ?_ ?_
      rotate_left
      · simp only [putAll, Act.put, List.setIfInBounds_toArray, List.set_cons_zero, List.set_cons_succ]
        rfl
      refine one_ (i := 12) (N := some 9) #[true,true,true,true,true,true,true,true,true,true,true,true,true,false,false] rfl rfl (one_of HT_.out (by kernel_rfl)) (by decide) (fun K hK => ?_)
      refine box_step ?hg (N := 9) ?hd (cs := #[.int .i64 0, .int .i64 0]) (t := 29) ?hr ?_; (case hd => rfl); (case hg => rfl); (case hr => first | (go_simp; done) | (go_simp; rfl))
      intro gb275 hg w29 hbox hb
      have n0_ := Aside0.mk (blk_below (bf BK260.out) hb)
      have n1_ := Aside0.mk (blk_below (bf BK261.out) hb)
      have n2_ := Aside0.mk (blk_below (bf BK262.out) hb)
      have n3_ := Aside0.mk (blk_below (bf BK263.out) hb)
      have n4_ := Aside0.mk (below_step (lb HB.out) hb)
      have n5_ := Aside0.mk (hbox)
      have n6_ := Aside0.mk ((by rw [hg]; exact (below_size (lb HB.out)) : w.heap.size ≤ gb275))
      have n7_ := Aside0.mk ((by rw [hg]; exact (below_size (lb HB.out)) : w.heap.size ≤ gb275))
      have n8_ := Aside0.mk ((by rw [hg]; exact Nat.ne_of_lt (blk_lt (bf BK260.out)) : gb260 ≠ gb275))
      have n9_ := Aside0.mk ((by rw [hg]; exact Nat.ne_of_gt (blk_lt (bf BK260.out)) : gb275 ≠ gb260))
      have n10_ := Aside0.mk ((by rw [hg]; exact Nat.ne_of_lt (blk_lt (bf BK261.out)) : gb261 ≠ gb275))
      have n11_ := Aside0.mk ((by rw [hg]; exact Nat.ne_of_gt (blk_lt (bf BK261.out)) : gb275 ≠ gb261))
      have n12_ := Aside0.mk ((by rw [hg]; exact Nat.ne_of_lt (blk_lt (bf BK262.out)) : gb262 ≠ gb275))
      have n13_ := Aside0.mk ((by rw [hg]; exact Nat.ne_of_gt (blk_lt (bf BK262.out)) : gb275 ≠ gb262))
      have n14_ := Aside0.mk ((by rw [hg]; exact Nat.ne_of_lt (blk_lt (bf BK263.out)) : gb263 ≠ gb275))
      have n15_ := Aside0.mk ((by rw [hg]; exact Nat.ne_of_gt (blk_lt (bf BK263.out)) : gb275 ≠ gb263))
      clear BK260
      clear BK261
      clear BK262
      clear BK263
      clear HB
      have BK260 := n0_
      have BK261 := n1_
      have BK262 := n2_
      have BK263 := n3_
      have HB := n4_
      have BK275 := n5_
      have GW275 := n6_
      have GE275 := n7_
      have NB260_275 := n8_
      have NB275_260 := n9_
      have NB261_275 := n10_
      have NB275_261 := n11_
      have NB262_275 := n12_
      have NB275_262 := n13_
      have NB263_275 := n14_
      have NB275_263 := n15_
      clear n0_ n1_ n2_ n3_ n4_ n5_ n6_ n7_ n8_ n9_ n10_ n11_ n12_ n13_ n14_ n15_
      clear hb hbox hg
      refine hK.out _ _ ⟨(blk_cell BK260.out 0).trans rfl, (blk_cell BK260.out 1).trans rfl, (blk_cell BK261.out 0).trans rfl, (blk_cell BK261.out 1).trans rfl, (blk_cell BK262.out 0).trans rfl, (blk_cell BK262.out 1).trans rfl, (blk_cell BK263.out 0).trans rfl, (blk_cell BK263.out 1).trans rfl⟩ (fun hHeld => ?_)
      clear hK K
      refine norm_ (a' := ?_) ?_ ?_
      rotate_left
      · show Act.put _ (some 9) _ = _
        simp only [Act.put, List.setIfInBounds_toArray, List.set_cons_zero, List.set_cons_succ, i64_w, i32_w]
        rfl
      exact norm_ (by first | (simp only [putAll, Act.put, List.setIfInBounds_toArray, List.set_cons_zero, List.set_cons_succ]; done) | (simp only [putAll, Act.put, List.setIfInBounds_toArray, List.set_cons_zero, List.set_cons_succ]; rfl)) (hJ1_3_5_7_8_12 (gb275) _ ⟨hHeld, (bf BK260.out), (bf BK261.out), (bf BK262.out), (bf BK263.out), (bf BK275.out), GW275.out, GE275.out, NB260_275.out, NB275_260.out, NB261_275.out, NB275_261.out, NB262_275.out, NB275_262.out, NB263_275.out, NB275_263.out, (lb HB.out)⟩)
  rintro gb275 w29 ⟨hS_, h0_, h1_, h2_, h3_, h4_, h5_, h6_, h7_, h8_, h9_, h10_, h11_, h12_, h13_, h14_, h15_⟩
  have n0_ : Aside0 (w29.heap[gb260]? = some (.cells #[.int .i64 a0_0, .int .i64 a0_1] 23 (0, 0))) := ⟨h0_⟩
  have n1_ : Aside0 (w29.heap[gb261]? = some (.cells #[.int .i64 a1_0, .int .i64 a1_1] 23 (0, 0))) := ⟨h1_⟩
  have n2_ : Aside0 (w29.heap[gb262]? = some (.cells #[.int .i64 a2_0, .int .i64 a2_1] 23 (0, 0))) := ⟨h2_⟩
  have n3_ : Aside0 (w29.heap[gb263]? = some (.cells #[.int .i64 a3_0, .int .i64 a3_1] 23 (0, 0))) := ⟨h3_⟩
  have n4_ : Aside0 (w29.heap[gb275]? = some (.cells #[.int .i64 0, .int .i64 0] 29 (0, 0))) := ⟨h4_⟩
  have n5_ : Aside0 (w.heap.size ≤ gb275) := ⟨h5_⟩
  have n6_ : Aside0 (w.heap.size ≤ gb275) := ⟨h6_⟩
  have n7_ : Aside0 (gb260 ≠ gb275) := ⟨h7_⟩
  have n8_ : Aside0 (gb275 ≠ gb260) := ⟨h8_⟩
  have n9_ : Aside0 (gb261 ≠ gb275) := ⟨h9_⟩
  have n10_ : Aside0 (gb275 ≠ gb261) := ⟨h10_⟩
  have n11_ : Aside0 (gb262 ≠ gb275) := ⟨h11_⟩
  have n12_ : Aside0 (gb275 ≠ gb262) := ⟨h12_⟩
  have n13_ : Aside0 (gb263 ≠ gb275) := ⟨h13_⟩
  have n14_ : Aside0 (gb275 ≠ gb263) := ⟨h14_⟩
  have n15_ : Aside0 (Below w.heap.size w w29) := ⟨h15_⟩
  clear BK260
  clear BK261
  clear BK262
  clear BK263
  clear HB
  clear h0_ h1_ h2_ h3_ h4_ h5_ h6_ h7_ h8_ h9_ h10_ h11_ h12_ h13_ h14_ h15_
  have BK260 := n0_
  have BK261 := n1_
  have BK262 := n2_
  have BK263 := n3_
  have BK275 := n4_
  have GW275 := n5_
  have GE275 := n6_
  have NB260_275 := n7_
  have NB275_260 := n8_
  have NB261_275 := n9_
  have NB275_261 := n10_
  have NB262_275 := n11_
  have NB275_262 := n12_
  have NB263_275 := n13_
  have NB275_263 := n14_
  have HB := n15_
  clear n0_ n1_ n2_ n3_ n4_ n5_ n6_ n7_ n8_ n9_ n10_ n11_ n12_ n13_ n14_ n15_
  have hHeld : w29.cell? ⟨gb260, 0, none⟩ = some (.int .i64 a0_0) ∧ w29.cell? ⟨gb260, 1, none⟩ = some (.int .i64 a0_1) ∧ w29.cell? ⟨gb261, 0, none⟩ = some (.int .i64 a1_0) ∧ w29.cell? ⟨gb261, 1, none⟩ = some (.int .i64 a1_1) ∧ w29.cell? ⟨gb262, 0, none⟩ = some (.int .i64 a2_0) ∧ w29.cell? ⟨gb262, 1, none⟩ = some (.int .i64 a2_1) ∧ w29.cell? ⟨gb263, 0, none⟩ = some (.int .i64 a3_0) ∧ w29.cell? ⟨gb263, 1, none⟩ = some (.int .i64 a3_1) := hS_
  refine norm_ (a' := ?_) ?_ ?_
  rotate_left
  · simp only [putAll, Act.put, List.setIfInBounds_toArray, List.set_cons_zero, List.set_cons_succ]
    rfl
  refine one_ (i := 13) (N := none) #[true,true,true,true,true,true,true,true,true,true,true,true,true,true,false] rfl rfl (one_of HT_.out (by kernel_rfl)) (by decide) (fun K hK => ?_)
  have hs30 : w29.cell? ⟨gb275, 0, none⟩ = some (.int .i64 0) := (blk_cell BK275.out 0).trans rfl
  have hfs30 := blk_frozen BK275.out 0
  have hns30_0 := NB260_275.out
  have hns30_1 := NB261_275.out
  have hns30_2 := NB262_275.out
  have hns30_3 := NB263_275.out
  have hms30_0 := NB275_260.out
  have hms30_1 := NB275_261.out
  have hms30_2 := NB275_262.out
  have hms30_3 := NB275_263.out
  have hs31 : w29.cell? ⟨gb275, 1, none⟩ = some (.int .i64 0) := (blk_cell BK275.out 1).trans rfl
  have hfs31 := blk_frozen BK275.out 1
  have hns31_0 := NB260_275.out
  have hns31_1 := NB261_275.out
  have hns31_2 := NB262_275.out
  have hns31_3 := NB263_275.out
  have hms31_0 := NB275_260.out
  have hms31_1 := NB275_261.out
  have hms31_2 := NB275_262.out
  have hms31_3 := NB275_263.out
  refine skip_ (w1 := ?_) (by rfl) rfl ?_ ?_
  rotate_left
  · go_simp
    rfl
  refine hK.out _ _ ⟨((cell_far (p := ⟨gb275, _, none⟩) NB260_275.out _).trans (((cell_far (p := ⟨gb275, _, none⟩) NB260_275.out _).trans (hHeld.1)))), ((cell_far (p := ⟨gb275, _, none⟩) NB260_275.out _).trans (((cell_far (p := ⟨gb275, _, none⟩) NB260_275.out _).trans (hHeld.2.1)))), ((cell_far (p := ⟨gb275, _, none⟩) NB261_275.out _).trans (((cell_far (p := ⟨gb275, _, none⟩) NB261_275.out _).trans (hHeld.2.2.1)))), ((cell_far (p := ⟨gb275, _, none⟩) NB261_275.out _).trans (((cell_far (p := ⟨gb275, _, none⟩) NB261_275.out _).trans (hHeld.2.2.2.1)))), ((cell_far (p := ⟨gb275, _, none⟩) NB262_275.out _).trans (((cell_far (p := ⟨gb275, _, none⟩) NB262_275.out _).trans (hHeld.2.2.2.2.1)))), ((cell_far (p := ⟨gb275, _, none⟩) NB262_275.out _).trans (((cell_far (p := ⟨gb275, _, none⟩) NB262_275.out _).trans (hHeld.2.2.2.2.2.1)))), ((cell_far (p := ⟨gb275, _, none⟩) NB263_275.out _).trans (((cell_far (p := ⟨gb275, _, none⟩) NB263_275.out _).trans (hHeld.2.2.2.2.2.2.1)))), ((cell_far (p := ⟨gb275, _, none⟩) NB263_275.out _).trans (((cell_far (p := ⟨gb275, _, none⟩) NB263_275.out _).trans (hHeld.2.2.2.2.2.2.2))))⟩ (fun hHeld => ?_)
  clear hK K
  refine pure_ (i := 14) (N := some 10) (v := ?_) (a' := ?_) #[true,true,true,true,true,true,true,true,true,true,true,true,true,true,true] rfl rfl (any_of HT_.out (by kernel_rfl)) (fun _ _ _ h => h) (Or.inl ⟨by rfl, ?_⟩) ?_ ?_
  rotate_left
  · intro w'
    go_simp
    with_reducible rfl
  rotate_left
  · simp only [Act.put, List.setIfInBounds_toArray, List.set_cons_zero, List.set_cons_succ, i64_w, i32_w]
    rfl
  refine done_ (done_of HT_.out (by kernel_rfl)) ?_
  try go_wp2
  have n0_ : Aside0 (((w29.setCell ⟨gb275, 0, none⟩ (.int .i64 t272)).setCell ⟨gb275, 1, none⟩ (.int .i64 t273)).heap[gb260]? = some (.cells #[.int .i64 a0_0, .int .i64 a0_1] 23 (0, 0))) := ⟨by (with_reducible repeat (first | refine blk_drewN ?_ _ | refine blk_drew ?_ | refine blk_alloc ?_ _)); refine blk_far ?_ NB260_275.out _; (with_reducible repeat (first | refine blk_drewN ?_ _ | refine blk_drew ?_ | refine blk_alloc ?_ _)); refine blk_far ?_ NB260_275.out _; (with_reducible repeat (first | refine blk_drewN ?_ _ | refine blk_drew ?_ | refine blk_alloc ?_ _)); exact BK260.out⟩
  have n1_ : Aside0 (((w29.setCell ⟨gb275, 0, none⟩ (.int .i64 t272)).setCell ⟨gb275, 1, none⟩ (.int .i64 t273)).heap[gb261]? = some (.cells #[.int .i64 a1_0, .int .i64 a1_1] 23 (0, 0))) := ⟨by (with_reducible repeat (first | refine blk_drewN ?_ _ | refine blk_drew ?_ | refine blk_alloc ?_ _)); refine blk_far ?_ NB261_275.out _; (with_reducible repeat (first | refine blk_drewN ?_ _ | refine blk_drew ?_ | refine blk_alloc ?_ _)); refine blk_far ?_ NB261_275.out _; (with_reducible repeat (first | refine blk_drewN ?_ _ | refine blk_drew ?_ | refine blk_alloc ?_ _)); exact BK261.out⟩
  have n2_ : Aside0 (((w29.setCell ⟨gb275, 0, none⟩ (.int .i64 t272)).setCell ⟨gb275, 1, none⟩ (.int .i64 t273)).heap[gb262]? = some (.cells #[.int .i64 a2_0, .int .i64 a2_1] 23 (0, 0))) := ⟨by (with_reducible repeat (first | refine blk_drewN ?_ _ | refine blk_drew ?_ | refine blk_alloc ?_ _)); refine blk_far ?_ NB262_275.out _; (with_reducible repeat (first | refine blk_drewN ?_ _ | refine blk_drew ?_ | refine blk_alloc ?_ _)); refine blk_far ?_ NB262_275.out _; (with_reducible repeat (first | refine blk_drewN ?_ _ | refine blk_drew ?_ | refine blk_alloc ?_ _)); exact BK262.out⟩
  have n3_ : Aside0 (((w29.setCell ⟨gb275, 0, none⟩ (.int .i64 t272)).setCell ⟨gb275, 1, none⟩ (.int .i64 t273)).heap[gb263]? = some (.cells #[.int .i64 a3_0, .int .i64 a3_1] 23 (0, 0))) := ⟨by (with_reducible repeat (first | refine blk_drewN ?_ _ | refine blk_drew ?_ | refine blk_alloc ?_ _)); refine blk_far ?_ NB263_275.out _; (with_reducible repeat (first | refine blk_drewN ?_ _ | refine blk_drew ?_ | refine blk_alloc ?_ _)); refine blk_far ?_ NB263_275.out _; (with_reducible repeat (first | refine blk_drewN ?_ _ | refine blk_drew ?_ | refine blk_alloc ?_ _)); exact BK263.out⟩
  have n4_ : Aside0 (((w29.setCell ⟨gb275, 0, none⟩ (.int .i64 t272)).setCell ⟨gb275, 1, none⟩ (.int .i64 t273)).heap[gb275]? = some (.cells #[.int .i64 t272, .int .i64 t273] 29 (0, 0))) := ⟨by (with_reducible repeat (first | refine blk_drewN ?_ _ | refine blk_drew ?_ | refine blk_alloc ?_ _)); refine blk_put (cs := #[.int .i64 t272, .int .i64 0]) ?_ 1 _ rfl; (with_reducible repeat (first | refine blk_drewN ?_ _ | refine blk_drew ?_ | refine blk_alloc ?_ _)); refine blk_put (cs := #[.int .i64 0, .int .i64 0]) ?_ 0 _ rfl; (with_reducible repeat (first | refine blk_drewN ?_ _ | refine blk_drew ?_ | refine blk_alloc ?_ _)); exact BK275.out⟩
  have n5_ : Aside0 (Below w.heap.size w ((w29.setCell ⟨gb275, 0, none⟩ (.int .i64 t272)).setCell ⟨gb275, 1, none⟩ (.int .i64 t273))) := ⟨lb HB.out⟩
  (try clear BK260)
  (try clear BK261)
  (try clear BK262)
  (try clear BK263)
  (try clear BK275)
  (try clear HB)
  generalize ((w29.setCell ⟨gb275, 0, none⟩ (.int .i64 t272)).setCell ⟨gb275, 1, none⟩ (.int .i64 t273)) = w32 at n0_ n1_ n2_ n3_ n4_ n5_ ⊢
  have BK260 := n0_
  have BK261 := n1_
  have BK262 := n2_
  have BK263 := n3_
  have BK275 := n4_
  have HB := n5_
  clear n0_ n1_ n2_ n3_ n4_ n5_
  have n0_ := Aside0.mk (blk_drew BK260.out)
  have n1_ := Aside0.mk (blk_drew BK261.out)
  have n2_ := Aside0.mk (blk_drew BK262.out)
  have n3_ := Aside0.mk (blk_drew BK263.out)
  have n4_ := Aside0.mk (blk_drew BK275.out)
  have n5_ := Aside0.mk (below_drew1 HB.out)
  clear BK260
  clear BK261
  clear BK262
  clear BK263
  clear BK275
  clear HB
  have BK260 := n0_
  have BK261 := n1_
  have BK262 := n2_
  have BK263 := n3_
  have BK275 := n4_
  have HB := n5_
  clear n0_ n1_ n2_ n3_ n4_ n5_
  refine start_ (n := 15) (S := fun w' => w'.cell? ⟨gb260, 0, none⟩ = some (.int .i64 a0_0) ∧ w'.cell? ⟨gb260, 1, none⟩ = some (.int .i64 a0_1) ∧ w'.cell? ⟨gb261, 0, none⟩ = some (.int .i64 a1_0) ∧ w'.cell? ⟨gb261, 1, none⟩ = some (.int .i64 a1_1) ∧ w'.cell? ⟨gb262, 0, none⟩ = some (.int .i64 a2_0) ∧ w'.cell? ⟨gb262, 1, none⟩ = some (.int .i64 a2_1) ∧ w'.cell? ⟨gb263, 0, none⟩ = some (.int .i64 a3_0) ∧ w'.cell? ⟨gb263, 1, none⟩ = some (.int .i64 a3_1)) (ds := []) #[false,false,false,false,false,false,false,false,false,false,false,false,false,false,false] (by kernel_rfl) rfl rfl ⟨(blk_cell BK260.out 0).trans rfl, (blk_cell BK260.out 1).trans rfl, (blk_cell BK261.out 0).trans rfl, (blk_cell BK261.out 1).trans rfl, (blk_cell BK262.out 0).trans rfl, (blk_cell BK262.out 1).trans rfl, (blk_cell BK263.out 0).trans rfl, (blk_cell BK263.out 1).trans rfl⟩ (fun hHeld => ?_); refine with_tabW laws_FnExactCrossOf.tab2 laws_FnExactCrossOf.bits2 (fun HT_ HW_ => ?_)
  generalize w32.drew = w33 at BK260 BK261 BK262 BK263 BK275 HB hHeld ⊢
  refine take_ (i := 0) (N := some 26) (v := ?_) (a' := ?_) #[true,false,false,false,false,false,false,false,false,false,false,false,false,false,false] rfl rfl (take_ofW HT_.out HW_.out (by kernel_rfl)) (fun _ _ _ h => h) (Or.inl ⟨by rfl, ?_⟩) hHeld ?_ ?_
  rotate_left
  · rintro w' ⟨s0, s1, s2, s3, s4, s5, s6, s7⟩
    go_simp
    with_reducible rfl
  rotate_left
  · simp only [Act.put, List.setIfInBounds_toArray, List.set_cons_zero, List.set_cons_succ, i64_w, i32_w]
    rfl
  refine take_ (i := 2) (N := some 28) (v := ?_) (a' := ?_) #[true,false,true,false,false,false,false,false,false,false,false,false,false,false,false] rfl rfl (take_ofW HT_.out HW_.out (by kernel_rfl)) (fun _ _ _ h => h) (Or.inl ⟨by rfl, ?_⟩) hHeld ?_ ?_
  rotate_left
  · rintro w' ⟨s0, s1, s2, s3, s4, s5, s6, s7⟩
    go_simp
    with_reducible rfl
  rotate_left
  · simp only [Act.put, List.setIfInBounds_toArray, List.set_cons_zero, List.set_cons_succ, i64_w, i32_w]
    rfl
  refine take_ (i := 4) (N := some 30) (v := ?_) (a' := ?_) #[true,false,true,false,true,false,false,false,false,false,false,false,false,false,false] rfl rfl (take_ofW HT_.out HW_.out (by kernel_rfl)) (fun _ _ _ h => h) (Or.inl ⟨by rfl, ?_⟩) hHeld ?_ ?_
  rotate_left
  · rintro w' ⟨s0, s1, s2, s3, s4, s5, s6, s7⟩
    go_simp
    with_reducible rfl
  rotate_left
  · simp only [Act.put, List.setIfInBounds_toArray, List.set_cons_zero, List.set_cons_succ, i64_w, i32_w]
    rfl
  refine take_ (i := 6) (N := some 32) (v := ?_) (a' := ?_) #[true,false,true,false,true,false,true,false,false,false,false,false,false,false,false] rfl rfl (take_ofW HT_.out HW_.out (by kernel_rfl)) (fun _ _ _ h => h) (Or.inl ⟨by rfl, ?_⟩) hHeld ?_ ?_
  rotate_left
  · rintro w' ⟨s0, s1, s2, s3, s4, s5, s6, s7⟩
    go_simp
    with_reducible rfl
  rotate_left
  · simp only [Act.put, List.setIfInBounds_toArray, List.set_cons_zero, List.set_cons_succ, i64_w, i32_w]
    rfl
  refine join_ (σ := Nat) 2 #[true,true,true,true,true,true,true,true,true,true,true,true,true,false,false] (fun s_ => [(27, .agg #[.int .i64 t276, .int .i64 t277]), (29, .agg #[.int .i64 t278, .int .i64 t279]), (31, .agg #[.int .i64 t280, .int .i64 t281]), (33, .agg #[.int .i64 t282, .int .i64 t283]), (34, .tuple #[.agg #[.int .i64 t284, .int .i64 t285], .bool t286]), (11, .pointer (some ⟨s_, 0, none⟩)), (25, .tuple #[.agg #[.int .i64 t284, .int .i64 t285], .bool t286]), (35, .agg #[.int .i64 t284, .int .i64 t285]), (36, .bool t286)]) (fun s_ w' => (w'.cell? ⟨gb260, 0, none⟩ = some (.int .i64 a0_0) ∧ w'.cell? ⟨gb260, 1, none⟩ = some (.int .i64 a0_1) ∧ w'.cell? ⟨gb261, 0, none⟩ = some (.int .i64 a1_0) ∧ w'.cell? ⟨gb261, 1, none⟩ = some (.int .i64 a1_1) ∧ w'.cell? ⟨gb262, 0, none⟩ = some (.int .i64 a2_0) ∧ w'.cell? ⟨gb262, 1, none⟩ = some (.int .i64 a2_1) ∧ w'.cell? ⟨gb263, 0, none⟩ = some (.int .i64 a3_0) ∧ w'.cell? ⟨gb263, 1, none⟩ = some (.int .i64 a3_1)) ∧ (w'.heap[gb260]? = some (.cells #[.int .i64 a0_0, .int .i64 a0_1] 23 (0, 0))) ∧ (w'.heap[gb261]? = some (.cells #[.int .i64 a1_0, .int .i64 a1_1] 23 (0, 0))) ∧ (w'.heap[gb262]? = some (.cells #[.int .i64 a2_0, .int .i64 a2_1] 23 (0, 0))) ∧ (w'.heap[gb263]? = some (.cells #[.int .i64 a3_0, .int .i64 a3_1] 23 (0, 0))) ∧ (w'.heap[gb275]? = some (.cells #[.int .i64 t272, .int .i64 t273] 29 (0, 0))) ∧ (w'.heap[s_]? = some (.cells #[.int .i64 0, .int .i64 0] 29 (0, 0))) ∧ (w.heap.size ≤ s_) ∧ (w.heap.size ≤ s_) ∧ (gb260 ≠ s_) ∧ (s_ ≠ gb260) ∧ (gb261 ≠ s_) ∧ (s_ ≠ gb261) ∧ (gb262 ≠ s_) ∧ (s_ ≠ gb262) ∧ (gb263 ≠ s_) ∧ (s_ ≠ gb263) ∧ (gb275 ≠ s_) ∧ (s_ ≠ gb275) ∧ (Below w.heap.size w w')) ?_ ?_
  rotate_left
  · intro hJ1_3_5_7_8_12
    refine join_ (σ := Unit) 3 #[true,true,true,true,true,true,true,true,true,true,true,true,false,false,false] (fun s_ => [(27, .agg #[.int .i64 t276, .int .i64 t277]), (29, .agg #[.int .i64 t278, .int .i64 t279]), (31, .agg #[.int .i64 t280, .int .i64 t281]), (33, .agg #[.int .i64 t282, .int .i64 t283]), (34, .tuple #[.agg #[.int .i64 t284, .int .i64 t285], .bool t286]), (25, .tuple #[.agg #[.int .i64 t284, .int .i64 t285], .bool t286]), (35, .agg #[.int .i64 t284, .int .i64 t285]), (36, .bool t286)]) (fun s_ w' => (w'.cell? ⟨gb260, 0, none⟩ = some (.int .i64 a0_0) ∧ w'.cell? ⟨gb260, 1, none⟩ = some (.int .i64 a0_1) ∧ w'.cell? ⟨gb261, 0, none⟩ = some (.int .i64 a1_0) ∧ w'.cell? ⟨gb261, 1, none⟩ = some (.int .i64 a1_1) ∧ w'.cell? ⟨gb262, 0, none⟩ = some (.int .i64 a2_0) ∧ w'.cell? ⟨gb262, 1, none⟩ = some (.int .i64 a2_1) ∧ w'.cell? ⟨gb263, 0, none⟩ = some (.int .i64 a3_0) ∧ w'.cell? ⟨gb263, 1, none⟩ = some (.int .i64 a3_1)) ∧ (w'.heap[gb260]? = some (.cells #[.int .i64 a0_0, .int .i64 a0_1] 23 (0, 0))) ∧ (w'.heap[gb261]? = some (.cells #[.int .i64 a1_0, .int .i64 a1_1] 23 (0, 0))) ∧ (w'.heap[gb262]? = some (.cells #[.int .i64 a2_0, .int .i64 a2_1] 23 (0, 0))) ∧ (w'.heap[gb263]? = some (.cells #[.int .i64 a3_0, .int .i64 a3_1] 23 (0, 0))) ∧ (w'.heap[gb275]? = some (.cells #[.int .i64 t272, .int .i64 t273] 29 (0, 0))) ∧ (Below w.heap.size w w')) ?_ ?_
    rotate_left
    · intro hJ1_3_5_7_8
      refine join_ (σ := Nat) 6 #[true,true,true,true,true,true,true,true,false,false,false,false,true,false,false] (fun s_ => [(27, .agg #[.int .i64 t276, .int .i64 t277]), (29, .agg #[.int .i64 t278, .int .i64 t279]), (31, .agg #[.int .i64 t280, .int .i64 t281]), (33, .agg #[.int .i64 t282, .int .i64 t283]), (11, .pointer (some ⟨s_, 0, none⟩))]) (fun s_ w' => (w'.cell? ⟨gb260, 0, none⟩ = some (.int .i64 a0_0) ∧ w'.cell? ⟨gb260, 1, none⟩ = some (.int .i64 a0_1) ∧ w'.cell? ⟨gb261, 0, none⟩ = some (.int .i64 a1_0) ∧ w'.cell? ⟨gb261, 1, none⟩ = some (.int .i64 a1_1) ∧ w'.cell? ⟨gb262, 0, none⟩ = some (.int .i64 a2_0) ∧ w'.cell? ⟨gb262, 1, none⟩ = some (.int .i64 a2_1) ∧ w'.cell? ⟨gb263, 0, none⟩ = some (.int .i64 a3_0) ∧ w'.cell? ⟨gb263, 1, none⟩ = some (.int .i64 a3_1)) ∧ (w'.heap[gb260]? = some (.cells #[.int .i64 a0_0, .int .i64 a0_1] 23 (0, 0))) ∧ (w'.heap[gb261]? = some (.cells #[.int .i64 a1_0, .int .i64 a1_1] 23 (0, 0))) ∧ (w'.heap[gb262]? = some (.cells #[.int .i64 a2_0, .int .i64 a2_1] 23 (0, 0))) ∧ (w'.heap[gb263]? = some (.cells #[.int .i64 a3_0, .int .i64 a3_1] 23 (0, 0))) ∧ (w'.heap[gb275]? = some (.cells #[.int .i64 t272, .int .i64 t273] 29 (0, 0))) ∧ (w'.heap[s_]? = some (.cells #[.int .i64 0, .int .i64 0] 29 (0, 0))) ∧ (w.heap.size ≤ s_) ∧ (w.heap.size ≤ s_) ∧ (gb260 ≠ s_) ∧ (s_ ≠ gb260) ∧ (gb261 ≠ s_) ∧ (s_ ≠ gb261) ∧ (gb262 ≠ s_) ∧ (s_ ≠ gb262) ∧ (gb263 ≠ s_) ∧ (s_ ≠ gb263) ∧ (gb275 ≠ s_) ∧ (s_ ≠ gb275) ∧ (Below w.heap.size w w')) ?_ ?_
      rotate_left
      · intro hJ1_3_5_7_12
        refine join_ (σ := Unit) 7 #[true,true,true,true,true,true,true,true,false,false,false,false,false,false,false] (fun s_ => [(27, .agg #[.int .i64 t276, .int .i64 t277]), (29, .agg #[.int .i64 t278, .int .i64 t279]), (31, .agg #[.int .i64 t280, .int .i64 t281]), (33, .agg #[.int .i64 t282, .int .i64 t283])]) (fun s_ w' => (w'.cell? ⟨gb260, 0, none⟩ = some (.int .i64 a0_0) ∧ w'.cell? ⟨gb260, 1, none⟩ = some (.int .i64 a0_1) ∧ w'.cell? ⟨gb261, 0, none⟩ = some (.int .i64 a1_0) ∧ w'.cell? ⟨gb261, 1, none⟩ = some (.int .i64 a1_1) ∧ w'.cell? ⟨gb262, 0, none⟩ = some (.int .i64 a2_0) ∧ w'.cell? ⟨gb262, 1, none⟩ = some (.int .i64 a2_1) ∧ w'.cell? ⟨gb263, 0, none⟩ = some (.int .i64 a3_0) ∧ w'.cell? ⟨gb263, 1, none⟩ = some (.int .i64 a3_1)) ∧ (w'.heap[gb260]? = some (.cells #[.int .i64 a0_0, .int .i64 a0_1] 23 (0, 0))) ∧ (w'.heap[gb261]? = some (.cells #[.int .i64 a1_0, .int .i64 a1_1] 23 (0, 0))) ∧ (w'.heap[gb262]? = some (.cells #[.int .i64 a2_0, .int .i64 a2_1] 23 (0, 0))) ∧ (w'.heap[gb263]? = some (.cells #[.int .i64 a3_0, .int .i64 a3_1] 23 (0, 0))) ∧ (w'.heap[gb275]? = some (.cells #[.int .i64 t272, .int .i64 t273] 29 (0, 0))) ∧ (Below w.heap.size w w')) ?_ ?_
        rotate_left
        · intro hJ1_3_5_7
          refine join_ (σ := Nat) 7 #[true,true,true,true,true,true,true,false,false,false,false,false,true,false,false] (fun s_ => [(27, .agg #[.int .i64 t276, .int .i64 t277]), (29, .agg #[.int .i64 t278, .int .i64 t279]), (31, .agg #[.int .i64 t280, .int .i64 t281]), (11, .pointer (some ⟨s_, 0, none⟩))]) (fun s_ w' => (w'.cell? ⟨gb260, 0, none⟩ = some (.int .i64 a0_0) ∧ w'.cell? ⟨gb260, 1, none⟩ = some (.int .i64 a0_1) ∧ w'.cell? ⟨gb261, 0, none⟩ = some (.int .i64 a1_0) ∧ w'.cell? ⟨gb261, 1, none⟩ = some (.int .i64 a1_1) ∧ w'.cell? ⟨gb262, 0, none⟩ = some (.int .i64 a2_0) ∧ w'.cell? ⟨gb262, 1, none⟩ = some (.int .i64 a2_1) ∧ w'.cell? ⟨gb263, 0, none⟩ = some (.int .i64 a3_0) ∧ w'.cell? ⟨gb263, 1, none⟩ = some (.int .i64 a3_1)) ∧ (w'.heap[gb260]? = some (.cells #[.int .i64 a0_0, .int .i64 a0_1] 23 (0, 0))) ∧ (w'.heap[gb261]? = some (.cells #[.int .i64 a1_0, .int .i64 a1_1] 23 (0, 0))) ∧ (w'.heap[gb262]? = some (.cells #[.int .i64 a2_0, .int .i64 a2_1] 23 (0, 0))) ∧ (w'.heap[gb263]? = some (.cells #[.int .i64 a3_0, .int .i64 a3_1] 23 (0, 0))) ∧ (w'.heap[gb275]? = some (.cells #[.int .i64 t272, .int .i64 t273] 29 (0, 0))) ∧ (w'.heap[s_]? = some (.cells #[.int .i64 0, .int .i64 0] 29 (0, 0))) ∧ (w.heap.size ≤ s_) ∧ (w.heap.size ≤ s_) ∧ (gb260 ≠ s_) ∧ (s_ ≠ gb260) ∧ (gb261 ≠ s_) ∧ (s_ ≠ gb261) ∧ (gb262 ≠ s_) ∧ (s_ ≠ gb262) ∧ (gb263 ≠ s_) ∧ (s_ ≠ gb263) ∧ (gb275 ≠ s_) ∧ (s_ ≠ gb275) ∧ (Below w.heap.size w w')) ?_ ?_
          rotate_left
          · intro hJ1_3_5_12
            refine join_ (σ := Unit) 8 #[true,true,true,true,true,true,true,false,false,false,false,false,false,false,false] (fun s_ => [(27, .agg #[.int .i64 t276, .int .i64 t277]), (29, .agg #[.int .i64 t278, .int .i64 t279]), (31, .agg #[.int .i64 t280, .int .i64 t281])]) (fun s_ w' => (w'.cell? ⟨gb260, 0, none⟩ = some (.int .i64 a0_0) ∧ w'.cell? ⟨gb260, 1, none⟩ = some (.int .i64 a0_1) ∧ w'.cell? ⟨gb261, 0, none⟩ = some (.int .i64 a1_0) ∧ w'.cell? ⟨gb261, 1, none⟩ = some (.int .i64 a1_1) ∧ w'.cell? ⟨gb262, 0, none⟩ = some (.int .i64 a2_0) ∧ w'.cell? ⟨gb262, 1, none⟩ = some (.int .i64 a2_1) ∧ w'.cell? ⟨gb263, 0, none⟩ = some (.int .i64 a3_0) ∧ w'.cell? ⟨gb263, 1, none⟩ = some (.int .i64 a3_1)) ∧ (w'.heap[gb260]? = some (.cells #[.int .i64 a0_0, .int .i64 a0_1] 23 (0, 0))) ∧ (w'.heap[gb261]? = some (.cells #[.int .i64 a1_0, .int .i64 a1_1] 23 (0, 0))) ∧ (w'.heap[gb262]? = some (.cells #[.int .i64 a2_0, .int .i64 a2_1] 23 (0, 0))) ∧ (w'.heap[gb263]? = some (.cells #[.int .i64 a3_0, .int .i64 a3_1] 23 (0, 0))) ∧ (w'.heap[gb275]? = some (.cells #[.int .i64 t272, .int .i64 t273] 29 (0, 0))) ∧ (Below w.heap.size w w')) ?_ ?_
            rotate_left
            · intro hJ1_3_5
              refine join_ (σ := Nat) 8 #[true,true,true,true,true,false,true,false,false,false,false,false,true,false,false] (fun s_ => [(27, .agg #[.int .i64 t276, .int .i64 t277]), (29, .agg #[.int .i64 t278, .int .i64 t279]), (11, .pointer (some ⟨s_, 0, none⟩))]) (fun s_ w' => (w'.cell? ⟨gb260, 0, none⟩ = some (.int .i64 a0_0) ∧ w'.cell? ⟨gb260, 1, none⟩ = some (.int .i64 a0_1) ∧ w'.cell? ⟨gb261, 0, none⟩ = some (.int .i64 a1_0) ∧ w'.cell? ⟨gb261, 1, none⟩ = some (.int .i64 a1_1) ∧ w'.cell? ⟨gb262, 0, none⟩ = some (.int .i64 a2_0) ∧ w'.cell? ⟨gb262, 1, none⟩ = some (.int .i64 a2_1) ∧ w'.cell? ⟨gb263, 0, none⟩ = some (.int .i64 a3_0) ∧ w'.cell? ⟨gb263, 1, none⟩ = some (.int .i64 a3_1)) ∧ (w'.heap[gb260]? = some (.cells #[.int .i64 a0_0, .int .i64 a0_1] 23 (0, 0))) ∧ (w'.heap[gb261]? = some (.cells #[.int .i64 a1_0, .int .i64 a1_1] 23 (0, 0))) ∧ (w'.heap[gb262]? = some (.cells #[.int .i64 a2_0, .int .i64 a2_1] 23 (0, 0))) ∧ (w'.heap[gb263]? = some (.cells #[.int .i64 a3_0, .int .i64 a3_1] 23 (0, 0))) ∧ (w'.heap[gb275]? = some (.cells #[.int .i64 t272, .int .i64 t273] 29 (0, 0))) ∧ (w'.heap[s_]? = some (.cells #[.int .i64 0, .int .i64 0] 29 (0, 0))) ∧ (w.heap.size ≤ s_) ∧ (w.heap.size ≤ s_) ∧ (gb260 ≠ s_) ∧ (s_ ≠ gb260) ∧ (gb261 ≠ s_) ∧ (s_ ≠ gb261) ∧ (gb262 ≠ s_) ∧ (s_ ≠ gb262) ∧ (gb263 ≠ s_) ∧ (s_ ≠ gb263) ∧ (gb275 ≠ s_) ∧ (s_ ≠ gb275) ∧ (Below w.heap.size w w')) ?_ ?_
              rotate_left
              · intro hJ1_3_12
                refine join_ (σ := Unit) 9 #[true,true,true,true,true,false,true,false,false,false,false,false,false,false,false] (fun s_ => [(27, .agg #[.int .i64 t276, .int .i64 t277]), (29, .agg #[.int .i64 t278, .int .i64 t279])]) (fun s_ w' => (w'.cell? ⟨gb260, 0, none⟩ = some (.int .i64 a0_0) ∧ w'.cell? ⟨gb260, 1, none⟩ = some (.int .i64 a0_1) ∧ w'.cell? ⟨gb261, 0, none⟩ = some (.int .i64 a1_0) ∧ w'.cell? ⟨gb261, 1, none⟩ = some (.int .i64 a1_1) ∧ w'.cell? ⟨gb262, 0, none⟩ = some (.int .i64 a2_0) ∧ w'.cell? ⟨gb262, 1, none⟩ = some (.int .i64 a2_1) ∧ w'.cell? ⟨gb263, 0, none⟩ = some (.int .i64 a3_0) ∧ w'.cell? ⟨gb263, 1, none⟩ = some (.int .i64 a3_1)) ∧ (w'.heap[gb260]? = some (.cells #[.int .i64 a0_0, .int .i64 a0_1] 23 (0, 0))) ∧ (w'.heap[gb261]? = some (.cells #[.int .i64 a1_0, .int .i64 a1_1] 23 (0, 0))) ∧ (w'.heap[gb262]? = some (.cells #[.int .i64 a2_0, .int .i64 a2_1] 23 (0, 0))) ∧ (w'.heap[gb263]? = some (.cells #[.int .i64 a3_0, .int .i64 a3_1] 23 (0, 0))) ∧ (w'.heap[gb275]? = some (.cells #[.int .i64 t272, .int .i64 t273] 29 (0, 0))) ∧ (Below w.heap.size w w')) ?_ ?_
                rotate_left
                · intro hJ1_3
                  refine join_ (σ := Nat) 9 #[true,true,true,false,true,false,true,false,false,false,false,false,true,false,false] (fun s_ => [(27, .agg #[.int .i64 t276, .int .i64 t277]), (11, .pointer (some ⟨s_, 0, none⟩))]) (fun s_ w' => (w'.cell? ⟨gb260, 0, none⟩ = some (.int .i64 a0_0) ∧ w'.cell? ⟨gb260, 1, none⟩ = some (.int .i64 a0_1) ∧ w'.cell? ⟨gb261, 0, none⟩ = some (.int .i64 a1_0) ∧ w'.cell? ⟨gb261, 1, none⟩ = some (.int .i64 a1_1) ∧ w'.cell? ⟨gb262, 0, none⟩ = some (.int .i64 a2_0) ∧ w'.cell? ⟨gb262, 1, none⟩ = some (.int .i64 a2_1) ∧ w'.cell? ⟨gb263, 0, none⟩ = some (.int .i64 a3_0) ∧ w'.cell? ⟨gb263, 1, none⟩ = some (.int .i64 a3_1)) ∧ (w'.heap[gb260]? = some (.cells #[.int .i64 a0_0, .int .i64 a0_1] 23 (0, 0))) ∧ (w'.heap[gb261]? = some (.cells #[.int .i64 a1_0, .int .i64 a1_1] 23 (0, 0))) ∧ (w'.heap[gb262]? = some (.cells #[.int .i64 a2_0, .int .i64 a2_1] 23 (0, 0))) ∧ (w'.heap[gb263]? = some (.cells #[.int .i64 a3_0, .int .i64 a3_1] 23 (0, 0))) ∧ (w'.heap[gb275]? = some (.cells #[.int .i64 t272, .int .i64 t273] 29 (0, 0))) ∧ (w'.heap[s_]? = some (.cells #[.int .i64 0, .int .i64 0] 29 (0, 0))) ∧ (w.heap.size ≤ s_) ∧ (w.heap.size ≤ s_) ∧ (gb260 ≠ s_) ∧ (s_ ≠ gb260) ∧ (gb261 ≠ s_) ∧ (s_ ≠ gb261) ∧ (gb262 ≠ s_) ∧ (s_ ≠ gb262) ∧ (gb263 ≠ s_) ∧ (s_ ≠ gb263) ∧ (gb275 ≠ s_) ∧ (s_ ≠ gb275) ∧ (Below w.heap.size w w')) ?_ ?_
                  rotate_left
                  · intro hJ1_12
                    refine join_ (σ := Unit) 10 #[true,true,true,false,true,false,true,false,false,false,false,false,false,false,false] (fun s_ => [(27, .agg #[.int .i64 t276, .int .i64 t277])]) (fun s_ w' => (w'.cell? ⟨gb260, 0, none⟩ = some (.int .i64 a0_0) ∧ w'.cell? ⟨gb260, 1, none⟩ = some (.int .i64 a0_1) ∧ w'.cell? ⟨gb261, 0, none⟩ = some (.int .i64 a1_0) ∧ w'.cell? ⟨gb261, 1, none⟩ = some (.int .i64 a1_1) ∧ w'.cell? ⟨gb262, 0, none⟩ = some (.int .i64 a2_0) ∧ w'.cell? ⟨gb262, 1, none⟩ = some (.int .i64 a2_1) ∧ w'.cell? ⟨gb263, 0, none⟩ = some (.int .i64 a3_0) ∧ w'.cell? ⟨gb263, 1, none⟩ = some (.int .i64 a3_1)) ∧ (w'.heap[gb260]? = some (.cells #[.int .i64 a0_0, .int .i64 a0_1] 23 (0, 0))) ∧ (w'.heap[gb261]? = some (.cells #[.int .i64 a1_0, .int .i64 a1_1] 23 (0, 0))) ∧ (w'.heap[gb262]? = some (.cells #[.int .i64 a2_0, .int .i64 a2_1] 23 (0, 0))) ∧ (w'.heap[gb263]? = some (.cells #[.int .i64 a3_0, .int .i64 a3_1] 23 (0, 0))) ∧ (w'.heap[gb275]? = some (.cells #[.int .i64 t272, .int .i64 t273] 29 (0, 0))) ∧ (Below w.heap.size w w')) ?_ ?_
                    rotate_left
                    · intro hJ1
                      refine join_ (σ := Nat) 10 #[true,false,true,false,true,false,true,false,false,false,false,false,true,false,false] (fun s_ => [(11, .pointer (some ⟨s_, 0, none⟩))]) (fun s_ w' => (w'.cell? ⟨gb260, 0, none⟩ = some (.int .i64 a0_0) ∧ w'.cell? ⟨gb260, 1, none⟩ = some (.int .i64 a0_1) ∧ w'.cell? ⟨gb261, 0, none⟩ = some (.int .i64 a1_0) ∧ w'.cell? ⟨gb261, 1, none⟩ = some (.int .i64 a1_1) ∧ w'.cell? ⟨gb262, 0, none⟩ = some (.int .i64 a2_0) ∧ w'.cell? ⟨gb262, 1, none⟩ = some (.int .i64 a2_1) ∧ w'.cell? ⟨gb263, 0, none⟩ = some (.int .i64 a3_0) ∧ w'.cell? ⟨gb263, 1, none⟩ = some (.int .i64 a3_1)) ∧ (w'.heap[gb260]? = some (.cells #[.int .i64 a0_0, .int .i64 a0_1] 23 (0, 0))) ∧ (w'.heap[gb261]? = some (.cells #[.int .i64 a1_0, .int .i64 a1_1] 23 (0, 0))) ∧ (w'.heap[gb262]? = some (.cells #[.int .i64 a2_0, .int .i64 a2_1] 23 (0, 0))) ∧ (w'.heap[gb263]? = some (.cells #[.int .i64 a3_0, .int .i64 a3_1] 23 (0, 0))) ∧ (w'.heap[gb275]? = some (.cells #[.int .i64 t272, .int .i64 t273] 29 (0, 0))) ∧ (w'.heap[s_]? = some (.cells #[.int .i64 0, .int .i64 0] 29 (0, 0))) ∧ (w.heap.size ≤ s_) ∧ (w.heap.size ≤ s_) ∧ (gb260 ≠ s_) ∧ (s_ ≠ gb260) ∧ (gb261 ≠ s_) ∧ (s_ ≠ gb261) ∧ (gb262 ≠ s_) ∧ (s_ ≠ gb262) ∧ (gb263 ≠ s_) ∧ (s_ ≠ gb263) ∧ (gb275 ≠ s_) ∧ (s_ ≠ gb275) ∧ (Below w.heap.size w w')) ?_ ?_
                      rotate_left
                      · intro hJ12
                        refine two_ (i := 1) (j := 12) (Ni := some 27) (Nj := some 11) #[true,true,true,false,true,false,true,false,false,false,false,false,false,false,false] #[true,false,true,false,true,false,true,false,false,false,false,false,true,false,false] rfl rfl rfl rfl (two_of HT_.out (by kernel_rfl)) (by decide) (by decide) (fun K hK => ?_) (fun K hK => ?_)
                        · skip
                          refine goes_ Try.func13 (by kernel_rfl) rfl #[.agg #[.int .i64 a0_0, .int .i64 a0_1]] (by rfl) rfl rfl al ?_
                          with_reducible refine (laws_toPoint.calls a0_0 a0_1 t276 t277 _ A10.out).mono ?_
                          rintro e w34 ⟨rfl, hb⟩
                          refine ⟨_, rfl, ?_⟩
                          have n0_ := Aside0.mk (blk_below (bf BK260.out) hb)
                          have n1_ := Aside0.mk (blk_below (bf BK261.out) hb)
                          have n2_ := Aside0.mk (blk_below (bf BK262.out) hb)
                          have n3_ := Aside0.mk (blk_below (bf BK263.out) hb)
                          have n4_ := Aside0.mk (blk_below (bf BK275.out) hb)
                          have n5_ := Aside0.mk (below_step (lb HB.out) hb)
                          clear BK260
                          clear BK261
                          clear BK262
                          clear BK263
                          clear BK275
                          clear HB
                          have BK260 := n0_
                          have BK261 := n1_
                          have BK262 := n2_
                          have BK263 := n3_
                          have BK275 := n4_
                          have HB := n5_
                          clear n0_ n1_ n2_ n3_ n4_ n5_
                          (try clear hb)
                          (try clear hb2)
                          (try clear hk)
                          (try clear hi)
                          refine hK.out _ _ ⟨(blk_cell BK260.out 0).trans rfl, (blk_cell BK260.out 1).trans rfl, (blk_cell BK261.out 0).trans rfl, (blk_cell BK261.out 1).trans rfl, (blk_cell BK262.out 0).trans rfl, (blk_cell BK262.out 1).trans rfl, (blk_cell BK263.out 0).trans rfl, (blk_cell BK263.out 1).trans rfl⟩ (fun hHeld => ?_)
                          clear hK K
                          refine norm_ (a' := ?_) ?_ ?_
                          rotate_left
                          · show Act.put _ (some 27) _ = _
                            simp only [Act.put, List.setIfInBounds_toArray, List.set_cons_zero, List.set_cons_succ, i64_w, i32_w]
                            rfl
                          exact norm_ (by first | (simp only [putAll, Act.put, List.setIfInBounds_toArray, List.set_cons_zero, List.set_cons_succ]; done) | (simp only [putAll, Act.put, List.setIfInBounds_toArray, List.set_cons_zero, List.set_cons_succ]; rfl)) (hJ1 () _ ⟨hHeld, (bf BK260.out), (bf BK261.out), (bf BK262.out), (bf BK263.out), (bf BK275.out), (lb HB.out)⟩)
                        · skip
                          refine box_step ?hg (N := 11) ?hd (cs := #[.int .i64 0, .int .i64 0]) (t := 29) ?hr ?_; (case hd => rfl); (case hg => rfl); (case hr => first | (go_simp; done) | (go_simp; rfl))
                          intro gb287 hg w34 hbox hb
                          have n0_ := Aside0.mk (blk_below (bf BK260.out) hb)
                          have n1_ := Aside0.mk (blk_below (bf BK261.out) hb)
                          have n2_ := Aside0.mk (blk_below (bf BK262.out) hb)
                          have n3_ := Aside0.mk (blk_below (bf BK263.out) hb)
                          have n4_ := Aside0.mk (blk_below (bf BK275.out) hb)
                          have n5_ := Aside0.mk (below_step (lb HB.out) hb)
                          have n6_ := Aside0.mk (hbox)
                          have n7_ := Aside0.mk ((by rw [hg]; exact (below_size (lb HB.out)) : w.heap.size ≤ gb287))
                          have n8_ := Aside0.mk ((by rw [hg]; exact (below_size (lb HB.out)) : w.heap.size ≤ gb287))
                          have n9_ := Aside0.mk ((by rw [hg]; exact Nat.ne_of_lt (blk_lt (bf BK260.out)) : gb260 ≠ gb287))
                          have n10_ := Aside0.mk ((by rw [hg]; exact Nat.ne_of_gt (blk_lt (bf BK260.out)) : gb287 ≠ gb260))
                          have n11_ := Aside0.mk ((by rw [hg]; exact Nat.ne_of_lt (blk_lt (bf BK261.out)) : gb261 ≠ gb287))
                          have n12_ := Aside0.mk ((by rw [hg]; exact Nat.ne_of_gt (blk_lt (bf BK261.out)) : gb287 ≠ gb261))
                          have n13_ := Aside0.mk ((by rw [hg]; exact Nat.ne_of_lt (blk_lt (bf BK262.out)) : gb262 ≠ gb287))
                          have n14_ := Aside0.mk ((by rw [hg]; exact Nat.ne_of_gt (blk_lt (bf BK262.out)) : gb287 ≠ gb262))
                          have n15_ := Aside0.mk ((by rw [hg]; exact Nat.ne_of_lt (blk_lt (bf BK263.out)) : gb263 ≠ gb287))
                          have n16_ := Aside0.mk ((by rw [hg]; exact Nat.ne_of_gt (blk_lt (bf BK263.out)) : gb287 ≠ gb263))
                          have n17_ := Aside0.mk ((by rw [hg]; exact Nat.ne_of_lt (blk_lt (bf BK275.out)) : gb275 ≠ gb287))
                          have n18_ := Aside0.mk ((by rw [hg]; exact Nat.ne_of_gt (blk_lt (bf BK275.out)) : gb287 ≠ gb275))
                          clear BK260
                          clear BK261
                          clear BK262
                          clear BK263
                          clear BK275
                          clear HB
                          have BK260 := n0_
                          have BK261 := n1_
                          have BK262 := n2_
                          have BK263 := n3_
                          have BK275 := n4_
                          have HB := n5_
                          have BK287 := n6_
                          have GW287 := n7_
                          have GE287 := n8_
                          have NB260_287 := n9_
                          have NB287_260 := n10_
                          have NB261_287 := n11_
                          have NB287_261 := n12_
                          have NB262_287 := n13_
                          have NB287_262 := n14_
                          have NB263_287 := n15_
                          have NB287_263 := n16_
                          have NB275_287 := n17_
                          have NB287_275 := n18_
                          clear n0_ n1_ n2_ n3_ n4_ n5_ n6_ n7_ n8_ n9_ n10_ n11_ n12_ n13_ n14_ n15_ n16_ n17_ n18_
                          clear hb hbox hg
                          refine hK.out _ _ ⟨(blk_cell BK260.out 0).trans rfl, (blk_cell BK260.out 1).trans rfl, (blk_cell BK261.out 0).trans rfl, (blk_cell BK261.out 1).trans rfl, (blk_cell BK262.out 0).trans rfl, (blk_cell BK262.out 1).trans rfl, (blk_cell BK263.out 0).trans rfl, (blk_cell BK263.out 1).trans rfl⟩ (fun hHeld => ?_)
                          clear hK K
                          refine norm_ (a' := ?_) ?_ ?_
                          rotate_left
                          · show Act.put _ (some 11) _ = _
                            simp only [Act.put, List.setIfInBounds_toArray, List.set_cons_zero, List.set_cons_succ, i64_w, i32_w]
                            rfl
                          exact norm_ (by first | (simp only [putAll, Act.put, List.setIfInBounds_toArray, List.set_cons_zero, List.set_cons_succ]; done) | (simp only [putAll, Act.put, List.setIfInBounds_toArray, List.set_cons_zero, List.set_cons_succ]; rfl)) (hJ12 (gb287) _ ⟨hHeld, (bf BK260.out), (bf BK261.out), (bf BK262.out), (bf BK263.out), (bf BK275.out), (bf BK287.out), GW287.out, GE287.out, NB260_287.out, NB287_260.out, NB261_287.out, NB287_261.out, NB262_287.out, NB287_262.out, NB263_287.out, NB287_263.out, NB275_287.out, NB287_275.out, (lb HB.out)⟩)
                      · skip
                        rintro gb287 w35 ⟨hS_, h0_, h1_, h2_, h3_, h4_, h5_, h6_, h7_, h8_, h9_, h10_, h11_, h12_, h13_, h14_, h15_, h16_, h17_, h18_⟩
                        have n0_ : Aside0 (w35.heap[gb260]? = some (.cells #[.int .i64 a0_0, .int .i64 a0_1] 23 (0, 0))) := ⟨h0_⟩
                        have n1_ : Aside0 (w35.heap[gb261]? = some (.cells #[.int .i64 a1_0, .int .i64 a1_1] 23 (0, 0))) := ⟨h1_⟩
                        have n2_ : Aside0 (w35.heap[gb262]? = some (.cells #[.int .i64 a2_0, .int .i64 a2_1] 23 (0, 0))) := ⟨h2_⟩
                        have n3_ : Aside0 (w35.heap[gb263]? = some (.cells #[.int .i64 a3_0, .int .i64 a3_1] 23 (0, 0))) := ⟨h3_⟩
                        have n4_ : Aside0 (w35.heap[gb275]? = some (.cells #[.int .i64 t272, .int .i64 t273] 29 (0, 0))) := ⟨h4_⟩
                        have n5_ : Aside0 (w35.heap[gb287]? = some (.cells #[.int .i64 0, .int .i64 0] 29 (0, 0))) := ⟨h5_⟩
                        have n6_ : Aside0 (w.heap.size ≤ gb287) := ⟨h6_⟩
                        have n7_ : Aside0 (w.heap.size ≤ gb287) := ⟨h7_⟩
                        have n8_ : Aside0 (gb260 ≠ gb287) := ⟨h8_⟩
                        have n9_ : Aside0 (gb287 ≠ gb260) := ⟨h9_⟩
                        have n10_ : Aside0 (gb261 ≠ gb287) := ⟨h10_⟩
                        have n11_ : Aside0 (gb287 ≠ gb261) := ⟨h11_⟩
                        have n12_ : Aside0 (gb262 ≠ gb287) := ⟨h12_⟩
                        have n13_ : Aside0 (gb287 ≠ gb262) := ⟨h13_⟩
                        have n14_ : Aside0 (gb263 ≠ gb287) := ⟨h14_⟩
                        have n15_ : Aside0 (gb287 ≠ gb263) := ⟨h15_⟩
                        have n16_ : Aside0 (gb275 ≠ gb287) := ⟨h16_⟩
                        have n17_ : Aside0 (gb287 ≠ gb275) := ⟨h17_⟩
                        have n18_ : Aside0 (Below w.heap.size w w35) := ⟨h18_⟩
                        clear BK260
                        clear BK261
                        clear BK262
                        clear BK263
                        clear BK275
                        clear HB
                        clear h0_ h1_ h2_ h3_ h4_ h5_ h6_ h7_ h8_ h9_ h10_ h11_ h12_ h13_ h14_ h15_ h16_ h17_ h18_
                        have BK260 := n0_
                        have BK261 := n1_
                        have BK262 := n2_
                        have BK263 := n3_
                        have BK275 := n4_
                        have BK287 := n5_
                        have GW287 := n6_
                        have GE287 := n7_
                        have NB260_287 := n8_
                        have NB287_260 := n9_
                        have NB261_287 := n10_
                        have NB287_261 := n11_
                        have NB262_287 := n12_
                        have NB287_262 := n13_
                        have NB263_287 := n14_
                        have NB287_263 := n15_
                        have NB275_287 := n16_
                        have NB287_275 := n17_
                        have HB := n18_
                        clear n0_ n1_ n2_ n3_ n4_ n5_ n6_ n7_ n8_ n9_ n10_ n11_ n12_ n13_ n14_ n15_ n16_ n17_ n18_
                        have hHeld : w35.cell? ⟨gb260, 0, none⟩ = some (.int .i64 a0_0) ∧ w35.cell? ⟨gb260, 1, none⟩ = some (.int .i64 a0_1) ∧ w35.cell? ⟨gb261, 0, none⟩ = some (.int .i64 a1_0) ∧ w35.cell? ⟨gb261, 1, none⟩ = some (.int .i64 a1_1) ∧ w35.cell? ⟨gb262, 0, none⟩ = some (.int .i64 a2_0) ∧ w35.cell? ⟨gb262, 1, none⟩ = some (.int .i64 a2_1) ∧ w35.cell? ⟨gb263, 0, none⟩ = some (.int .i64 a3_0) ∧ w35.cell? ⟨gb263, 1, none⟩ = some (.int .i64 a3_1) := hS_
                        refine norm_ (a' := ?_) ?_ ?_
                        rotate_left
                        · simp only [putAll, Act.put, List.setIfInBounds_toArray, List.set_cons_zero, List.set_cons_succ]
                          rfl
                        refine one_ (i := 1) (N := some 27) #[true,true,true,false,true,false,true,false,false,false,false,false,true,false,false] rfl rfl (one_of HT_.out (by kernel_rfl)) (by decide) (fun K hK => ?_)
                        refine goes_ Try.func13 (by kernel_rfl) rfl #[.agg #[.int .i64 a0_0, .int .i64 a0_1]] (by rfl) rfl rfl al ?_
                        with_reducible refine (laws_toPoint.calls a0_0 a0_1 t276 t277 _ A10.out).mono ?_
                        rintro e w36 ⟨rfl, hb⟩
                        refine ⟨_, rfl, ?_⟩
                        have n0_ := Aside0.mk (blk_below (bf BK260.out) hb)
                        have n1_ := Aside0.mk (blk_below (bf BK261.out) hb)
                        have n2_ := Aside0.mk (blk_below (bf BK262.out) hb)
                        have n3_ := Aside0.mk (blk_below (bf BK263.out) hb)
                        have n4_ := Aside0.mk (blk_below (bf BK275.out) hb)
                        have n5_ := Aside0.mk (blk_below (bf BK287.out) hb)
                        have n6_ := Aside0.mk (below_step (lb HB.out) hb)
                        clear BK260
                        clear BK261
                        clear BK262
                        clear BK263
                        clear BK275
                        clear BK287
                        clear HB
                        have BK260 := n0_
                        have BK261 := n1_
                        have BK262 := n2_
                        have BK263 := n3_
                        have BK275 := n4_
                        have BK287 := n5_
                        have HB := n6_
                        clear n0_ n1_ n2_ n3_ n4_ n5_ n6_
                        (try clear hb)
                        (try clear hb2)
                        (try clear hk)
                        (try clear hi)
                        refine hK.out _ _ ⟨(blk_cell BK260.out 0).trans rfl, (blk_cell BK260.out 1).trans rfl, (blk_cell BK261.out 0).trans rfl, (blk_cell BK261.out 1).trans rfl, (blk_cell BK262.out 0).trans rfl, (blk_cell BK262.out 1).trans rfl, (blk_cell BK263.out 0).trans rfl, (blk_cell BK263.out 1).trans rfl⟩ (fun hHeld => ?_)
                        clear hK K
                        refine norm_ (a' := ?_) ?_ ?_
                        rotate_left
                        · show Act.put _ (some 27) _ = _
                          simp only [Act.put, List.setIfInBounds_toArray, List.set_cons_zero, List.set_cons_succ, i64_w, i32_w]
                          rfl
                        exact norm_ (by first | (simp only [putAll, Act.put, List.setIfInBounds_toArray, List.set_cons_zero, List.set_cons_succ]; done) | (simp only [putAll, Act.put, List.setIfInBounds_toArray, List.set_cons_zero, List.set_cons_succ]; rfl)) (hJ1_12 (gb287) _ ⟨hHeld, (bf BK260.out), (bf BK261.out), (bf BK262.out), (bf BK263.out), (bf BK275.out), (bf BK287.out), GW287.out, GE287.out, NB260_287.out, NB287_260.out, NB261_287.out, NB287_261.out, NB262_287.out, NB287_262.out, NB263_287.out, NB287_263.out, NB275_287.out, NB287_275.out, (lb HB.out)⟩)
                    · skip
                      rintro _ w35 ⟨hS_, h0_, h1_, h2_, h3_, h4_, h5_⟩
                      have n0_ : Aside0 (w35.heap[gb260]? = some (.cells #[.int .i64 a0_0, .int .i64 a0_1] 23 (0, 0))) := ⟨h0_⟩
                      have n1_ : Aside0 (w35.heap[gb261]? = some (.cells #[.int .i64 a1_0, .int .i64 a1_1] 23 (0, 0))) := ⟨h1_⟩
                      have n2_ : Aside0 (w35.heap[gb262]? = some (.cells #[.int .i64 a2_0, .int .i64 a2_1] 23 (0, 0))) := ⟨h2_⟩
                      have n3_ : Aside0 (w35.heap[gb263]? = some (.cells #[.int .i64 a3_0, .int .i64 a3_1] 23 (0, 0))) := ⟨h3_⟩
                      have n4_ : Aside0 (w35.heap[gb275]? = some (.cells #[.int .i64 t272, .int .i64 t273] 29 (0, 0))) := ⟨h4_⟩
                      have n5_ : Aside0 (Below w.heap.size w w35) := ⟨h5_⟩
                      clear BK260
                      clear BK261
                      clear BK262
                      clear BK263
                      clear BK275
                      clear HB
                      clear h0_ h1_ h2_ h3_ h4_ h5_
                      have BK260 := n0_
                      have BK261 := n1_
                      have BK262 := n2_
                      have BK263 := n3_
                      have BK275 := n4_
                      have HB := n5_
                      clear n0_ n1_ n2_ n3_ n4_ n5_
                      have hHeld : w35.cell? ⟨gb260, 0, none⟩ = some (.int .i64 a0_0) ∧ w35.cell? ⟨gb260, 1, none⟩ = some (.int .i64 a0_1) ∧ w35.cell? ⟨gb261, 0, none⟩ = some (.int .i64 a1_0) ∧ w35.cell? ⟨gb261, 1, none⟩ = some (.int .i64 a1_1) ∧ w35.cell? ⟨gb262, 0, none⟩ = some (.int .i64 a2_0) ∧ w35.cell? ⟨gb262, 1, none⟩ = some (.int .i64 a2_1) ∧ w35.cell? ⟨gb263, 0, none⟩ = some (.int .i64 a3_0) ∧ w35.cell? ⟨gb263, 1, none⟩ = some (.int .i64 a3_1) := hS_
                      refine norm_ (a' := ?_) ?_ ?_
                      rotate_left
                      · simp only [putAll, Act.put, List.setIfInBounds_toArray, List.set_cons_zero, List.set_cons_succ]
                        rfl
                      refine two_ (i := 3) (j := 12) (Ni := some 29) (Nj := some 11) #[true,true,true,true,true,false,true,false,false,false,false,false,false,false,false] #[true,true,true,false,true,false,true,false,false,false,false,false,true,false,false] rfl rfl rfl rfl (two_of HT_.out (by kernel_rfl)) (by decide) (by decide) (fun K hK => ?_) (fun K hK => ?_)
                      · skip
                        refine goes_ Try.func13 (by kernel_rfl) rfl #[.agg #[.int .i64 a1_0, .int .i64 a1_1]] (by rfl) rfl rfl al ?_
                        with_reducible refine (laws_toPoint.calls a1_0 a1_1 t278 t279 _ A11.out).mono ?_
                        rintro e w36 ⟨rfl, hb⟩
                        refine ⟨_, rfl, ?_⟩
                        have n0_ := Aside0.mk (blk_below (bf BK260.out) hb)
                        have n1_ := Aside0.mk (blk_below (bf BK261.out) hb)
                        have n2_ := Aside0.mk (blk_below (bf BK262.out) hb)
                        have n3_ := Aside0.mk (blk_below (bf BK263.out) hb)
                        have n4_ := Aside0.mk (blk_below (bf BK275.out) hb)
                        have n5_ := Aside0.mk (below_step (lb HB.out) hb)
                        clear BK260
                        clear BK261
                        clear BK262
                        clear BK263
                        clear BK275
                        clear HB
                        have BK260 := n0_
                        have BK261 := n1_
                        have BK262 := n2_
                        have BK263 := n3_
                        have BK275 := n4_
                        have HB := n5_
                        clear n0_ n1_ n2_ n3_ n4_ n5_
                        (try clear hb)
                        (try clear hb2)
                        (try clear hk)
                        (try clear hi)
                        refine hK.out _ _ ⟨(blk_cell BK260.out 0).trans rfl, (blk_cell BK260.out 1).trans rfl, (blk_cell BK261.out 0).trans rfl, (blk_cell BK261.out 1).trans rfl, (blk_cell BK262.out 0).trans rfl, (blk_cell BK262.out 1).trans rfl, (blk_cell BK263.out 0).trans rfl, (blk_cell BK263.out 1).trans rfl⟩ (fun hHeld => ?_)
                        clear hK K
                        refine norm_ (a' := ?_) ?_ ?_
                        rotate_left
                        · show Act.put _ (some 29) _ = _
                          simp only [Act.put, List.setIfInBounds_toArray, List.set_cons_zero, List.set_cons_succ, i64_w, i32_w]
                          rfl
                        exact norm_ (by first | (simp only [putAll, Act.put, List.setIfInBounds_toArray, List.set_cons_zero, List.set_cons_succ]; done) | (simp only [putAll, Act.put, List.setIfInBounds_toArray, List.set_cons_zero, List.set_cons_succ]; rfl)) (hJ1_3 () _ ⟨hHeld, (bf BK260.out), (bf BK261.out), (bf BK262.out), (bf BK263.out), (bf BK275.out), (lb HB.out)⟩)
                      · skip
                        refine box_step ?hg (N := 11) ?hd (cs := #[.int .i64 0, .int .i64 0]) (t := 29) ?hr ?_; (case hd => rfl); (case hg => rfl); (case hr => first | (go_simp; done) | (go_simp; rfl))
                        intro gb287 hg w36 hbox hb
                        have n0_ := Aside0.mk (blk_below (bf BK260.out) hb)
                        have n1_ := Aside0.mk (blk_below (bf BK261.out) hb)
                        have n2_ := Aside0.mk (blk_below (bf BK262.out) hb)
                        have n3_ := Aside0.mk (blk_below (bf BK263.out) hb)
                        have n4_ := Aside0.mk (blk_below (bf BK275.out) hb)
                        have n5_ := Aside0.mk (below_step (lb HB.out) hb)
                        have n6_ := Aside0.mk (hbox)
                        have n7_ := Aside0.mk ((by rw [hg]; exact (below_size (lb HB.out)) : w.heap.size ≤ gb287))
                        have n8_ := Aside0.mk ((by rw [hg]; exact (below_size (lb HB.out)) : w.heap.size ≤ gb287))
                        have n9_ := Aside0.mk ((by rw [hg]; exact Nat.ne_of_lt (blk_lt (bf BK260.out)) : gb260 ≠ gb287))
                        have n10_ := Aside0.mk ((by rw [hg]; exact Nat.ne_of_gt (blk_lt (bf BK260.out)) : gb287 ≠ gb260))
                        have n11_ := Aside0.mk ((by rw [hg]; exact Nat.ne_of_lt (blk_lt (bf BK261.out)) : gb261 ≠ gb287))
                        have n12_ := Aside0.mk ((by rw [hg]; exact Nat.ne_of_gt (blk_lt (bf BK261.out)) : gb287 ≠ gb261))
                        have n13_ := Aside0.mk ((by rw [hg]; exact Nat.ne_of_lt (blk_lt (bf BK262.out)) : gb262 ≠ gb287))
                        have n14_ := Aside0.mk ((by rw [hg]; exact Nat.ne_of_gt (blk_lt (bf BK262.out)) : gb287 ≠ gb262))
                        have n15_ := Aside0.mk ((by rw [hg]; exact Nat.ne_of_lt (blk_lt (bf BK263.out)) : gb263 ≠ gb287))
                        have n16_ := Aside0.mk ((by rw [hg]; exact Nat.ne_of_gt (blk_lt (bf BK263.out)) : gb287 ≠ gb263))
                        have n17_ := Aside0.mk ((by rw [hg]; exact Nat.ne_of_lt (blk_lt (bf BK275.out)) : gb275 ≠ gb287))
                        have n18_ := Aside0.mk ((by rw [hg]; exact Nat.ne_of_gt (blk_lt (bf BK275.out)) : gb287 ≠ gb275))
                        clear BK260
                        clear BK261
                        clear BK262
                        clear BK263
                        clear BK275
                        clear HB
                        have BK260 := n0_
                        have BK261 := n1_
                        have BK262 := n2_
                        have BK263 := n3_
                        have BK275 := n4_
                        have HB := n5_
                        have BK287 := n6_
                        have GW287 := n7_
                        have GE287 := n8_
                        have NB260_287 := n9_
                        have NB287_260 := n10_
                        have NB261_287 := n11_
                        have NB287_261 := n12_
                        have NB262_287 := n13_
                        have NB287_262 := n14_
                        have NB263_287 := n15_
                        have NB287_263 := n16_
                        have NB275_287 := n17_
                        have NB287_275 := n18_
                        clear n0_ n1_ n2_ n3_ n4_ n5_ n6_ n7_ n8_ n9_ n10_ n11_ n12_ n13_ n14_ n15_ n16_ n17_ n18_
                        clear hb hbox hg
                        refine hK.out _ _ ⟨(blk_cell BK260.out 0).trans rfl, (blk_cell BK260.out 1).trans rfl, (blk_cell BK261.out 0).trans rfl, (blk_cell BK261.out 1).trans rfl, (blk_cell BK262.out 0).trans rfl, (blk_cell BK262.out 1).trans rfl, (blk_cell BK263.out 0).trans rfl, (blk_cell BK263.out 1).trans rfl⟩ (fun hHeld => ?_)
                        clear hK K
                        refine norm_ (a' := ?_) ?_ ?_
                        rotate_left
                        · show Act.put _ (some 11) _ = _
                          simp only [Act.put, List.setIfInBounds_toArray, List.set_cons_zero, List.set_cons_succ, i64_w, i32_w]
                          rfl
                        exact norm_ (by first | (simp only [putAll, Act.put, List.setIfInBounds_toArray, List.set_cons_zero, List.set_cons_succ]; done) | (simp only [putAll, Act.put, List.setIfInBounds_toArray, List.set_cons_zero, List.set_cons_succ]; rfl)) (hJ1_12 (gb287) _ ⟨hHeld, (bf BK260.out), (bf BK261.out), (bf BK262.out), (bf BK263.out), (bf BK275.out), (bf BK287.out), GW287.out, GE287.out, NB260_287.out, NB287_260.out, NB261_287.out, NB287_261.out, NB262_287.out, NB287_262.out, NB263_287.out, NB287_263.out, NB275_287.out, NB287_275.out, (lb HB.out)⟩)
                  · skip
                    rintro gb287 w36 ⟨hS_, h0_, h1_, h2_, h3_, h4_, h5_, h6_, h7_, h8_, h9_, h10_, h11_, h12_, h13_, h14_, h15_, h16_, h17_, h18_⟩
                    have n0_ : Aside0 (w36.heap[gb260]? = some (.cells #[.int .i64 a0_0, .int .i64 a0_1] 23 (0, 0))) := ⟨h0_⟩
                    have n1_ : Aside0 (w36.heap[gb261]? = some (.cells #[.int .i64 a1_0, .int .i64 a1_1] 23 (0, 0))) := ⟨h1_⟩
                    have n2_ : Aside0 (w36.heap[gb262]? = some (.cells #[.int .i64 a2_0, .int .i64 a2_1] 23 (0, 0))) := ⟨h2_⟩
                    have n3_ : Aside0 (w36.heap[gb263]? = some (.cells #[.int .i64 a3_0, .int .i64 a3_1] 23 (0, 0))) := ⟨h3_⟩
                    have n4_ : Aside0 (w36.heap[gb275]? = some (.cells #[.int .i64 t272, .int .i64 t273] 29 (0, 0))) := ⟨h4_⟩
                    have n5_ : Aside0 (w36.heap[gb287]? = some (.cells #[.int .i64 0, .int .i64 0] 29 (0, 0))) := ⟨h5_⟩
                    have n6_ : Aside0 (w.heap.size ≤ gb287) := ⟨h6_⟩
                    have n7_ : Aside0 (w.heap.size ≤ gb287) := ⟨h7_⟩
                    have n8_ : Aside0 (gb260 ≠ gb287) := ⟨h8_⟩
                    have n9_ : Aside0 (gb287 ≠ gb260) := ⟨h9_⟩
                    have n10_ : Aside0 (gb261 ≠ gb287) := ⟨h10_⟩
                    have n11_ : Aside0 (gb287 ≠ gb261) := ⟨h11_⟩
                    have n12_ : Aside0 (gb262 ≠ gb287) := ⟨h12_⟩
                    have n13_ : Aside0 (gb287 ≠ gb262) := ⟨h13_⟩
                    have n14_ : Aside0 (gb263 ≠ gb287) := ⟨h14_⟩
                    have n15_ : Aside0 (gb287 ≠ gb263) := ⟨h15_⟩
                    have n16_ : Aside0 (gb275 ≠ gb287) := ⟨h16_⟩
                    have n17_ : Aside0 (gb287 ≠ gb275) := ⟨h17_⟩
                    have n18_ : Aside0 (Below w.heap.size w w36) := ⟨h18_⟩
                    clear BK260
                    clear BK261
                    clear BK262
                    clear BK263
                    clear BK275
                    clear HB
                    clear h0_ h1_ h2_ h3_ h4_ h5_ h6_ h7_ h8_ h9_ h10_ h11_ h12_ h13_ h14_ h15_ h16_ h17_ h18_
                    have BK260 := n0_
                    have BK261 := n1_
                    have BK262 := n2_
                    have BK263 := n3_
                    have BK275 := n4_
                    have BK287 := n5_
                    have GW287 := n6_
                    have GE287 := n7_
                    have NB260_287 := n8_
                    have NB287_260 := n9_
                    have NB261_287 := n10_
                    have NB287_261 := n11_
                    have NB262_287 := n12_
                    have NB287_262 := n13_
                    have NB263_287 := n14_
                    have NB287_263 := n15_
                    have NB275_287 := n16_
                    have NB287_275 := n17_
                    have HB := n18_
                    clear n0_ n1_ n2_ n3_ n4_ n5_ n6_ n7_ n8_ n9_ n10_ n11_ n12_ n13_ n14_ n15_ n16_ n17_ n18_
                    have hHeld : w36.cell? ⟨gb260, 0, none⟩ = some (.int .i64 a0_0) ∧ w36.cell? ⟨gb260, 1, none⟩ = some (.int .i64 a0_1) ∧ w36.cell? ⟨gb261, 0, none⟩ = some (.int .i64 a1_0) ∧ w36.cell? ⟨gb261, 1, none⟩ = some (.int .i64 a1_1) ∧ w36.cell? ⟨gb262, 0, none⟩ = some (.int .i64 a2_0) ∧ w36.cell? ⟨gb262, 1, none⟩ = some (.int .i64 a2_1) ∧ w36.cell? ⟨gb263, 0, none⟩ = some (.int .i64 a3_0) ∧ w36.cell? ⟨gb263, 1, none⟩ = some (.int .i64 a3_1) := hS_
                    refine norm_ (a' := ?_) ?_ ?_
                    rotate_left
                    · simp only [putAll, Act.put, List.setIfInBounds_toArray, List.set_cons_zero, List.set_cons_succ]
                      rfl
                    refine one_ (i := 3) (N := some 29) #[true,true,true,true,true,false,true,false,false,false,false,false,true,false,false] rfl rfl (one_of HT_.out (by kernel_rfl)) (by decide) (fun K hK => ?_)
                    refine goes_ Try.func13 (by kernel_rfl) rfl #[.agg #[.int .i64 a1_0, .int .i64 a1_1]] (by rfl) rfl rfl al ?_
                    with_reducible refine (laws_toPoint.calls a1_0 a1_1 t278 t279 _ A11.out).mono ?_
                    rintro e w37 ⟨rfl, hb⟩
                    refine ⟨_, rfl, ?_⟩
                    have n0_ := Aside0.mk (blk_below (bf BK260.out) hb)
                    have n1_ := Aside0.mk (blk_below (bf BK261.out) hb)
                    have n2_ := Aside0.mk (blk_below (bf BK262.out) hb)
                    have n3_ := Aside0.mk (blk_below (bf BK263.out) hb)
                    have n4_ := Aside0.mk (blk_below (bf BK275.out) hb)
                    have n5_ := Aside0.mk (blk_below (bf BK287.out) hb)
                    have n6_ := Aside0.mk (below_step (lb HB.out) hb)
                    clear BK260
                    clear BK261
                    clear BK262
                    clear BK263
                    clear BK275
                    clear BK287
                    clear HB
                    have BK260 := n0_
                    have BK261 := n1_
                    have BK262 := n2_
                    have BK263 := n3_
                    have BK275 := n4_
                    have BK287 := n5_
                    have HB := n6_
                    clear n0_ n1_ n2_ n3_ n4_ n5_ n6_
                    (try clear hb)
                    (try clear hb2)
                    (try clear hk)
                    (try clear hi)
                    refine hK.out _ _ ⟨(blk_cell BK260.out 0).trans rfl, (blk_cell BK260.out 1).trans rfl, (blk_cell BK261.out 0).trans rfl, (blk_cell BK261.out 1).trans rfl, (blk_cell BK262.out 0).trans rfl, (blk_cell BK262.out 1).trans rfl, (blk_cell BK263.out 0).trans rfl, (blk_cell BK263.out 1).trans rfl⟩ (fun hHeld => ?_)
                    clear hK K
                    refine norm_ (a' := ?_) ?_ ?_
                    rotate_left
                    · show Act.put _ (some 29) _ = _
                      simp only [Act.put, List.setIfInBounds_toArray, List.set_cons_zero, List.set_cons_succ, i64_w, i32_w]
                      rfl
                    exact norm_ (by first | (simp only [putAll, Act.put, List.setIfInBounds_toArray, List.set_cons_zero, List.set_cons_succ]; done) | (simp only [putAll, Act.put, List.setIfInBounds_toArray, List.set_cons_zero, List.set_cons_succ]; rfl)) (hJ1_3_12 (gb287) _ ⟨hHeld, (bf BK260.out), (bf BK261.out), (bf BK262.out), (bf BK263.out), (bf BK275.out), (bf BK287.out), GW287.out, GE287.out, NB260_287.out, NB287_260.out, NB261_287.out, NB287_261.out, NB262_287.out, NB287_262.out, NB263_287.out, NB287_263.out, NB275_287.out, NB287_275.out, (lb HB.out)⟩)
                · skip
                  rintro _ w36 ⟨hS_, h0_, h1_, h2_, h3_, h4_, h5_⟩
                  have n0_ : Aside0 (w36.heap[gb260]? = some (.cells #[.int .i64 a0_0, .int .i64 a0_1] 23 (0, 0))) := ⟨h0_⟩
                  have n1_ : Aside0 (w36.heap[gb261]? = some (.cells #[.int .i64 a1_0, .int .i64 a1_1] 23 (0, 0))) := ⟨h1_⟩
                  have n2_ : Aside0 (w36.heap[gb262]? = some (.cells #[.int .i64 a2_0, .int .i64 a2_1] 23 (0, 0))) := ⟨h2_⟩
                  have n3_ : Aside0 (w36.heap[gb263]? = some (.cells #[.int .i64 a3_0, .int .i64 a3_1] 23 (0, 0))) := ⟨h3_⟩
                  have n4_ : Aside0 (w36.heap[gb275]? = some (.cells #[.int .i64 t272, .int .i64 t273] 29 (0, 0))) := ⟨h4_⟩
                  have n5_ : Aside0 (Below w.heap.size w w36) := ⟨h5_⟩
                  clear BK260
                  clear BK261
                  clear BK262
                  clear BK263
                  clear BK275
                  clear HB
                  clear h0_ h1_ h2_ h3_ h4_ h5_
                  have BK260 := n0_
                  have BK261 := n1_
                  have BK262 := n2_
                  have BK263 := n3_
                  have BK275 := n4_
                  have HB := n5_
                  clear n0_ n1_ n2_ n3_ n4_ n5_
                  have hHeld : w36.cell? ⟨gb260, 0, none⟩ = some (.int .i64 a0_0) ∧ w36.cell? ⟨gb260, 1, none⟩ = some (.int .i64 a0_1) ∧ w36.cell? ⟨gb261, 0, none⟩ = some (.int .i64 a1_0) ∧ w36.cell? ⟨gb261, 1, none⟩ = some (.int .i64 a1_1) ∧ w36.cell? ⟨gb262, 0, none⟩ = some (.int .i64 a2_0) ∧ w36.cell? ⟨gb262, 1, none⟩ = some (.int .i64 a2_1) ∧ w36.cell? ⟨gb263, 0, none⟩ = some (.int .i64 a3_0) ∧ w36.cell? ⟨gb263, 1, none⟩ = some (.int .i64 a3_1) := hS_
                  refine norm_ (a' := ?_) ?_ ?_
                  rotate_left
                  · simp only [putAll, Act.put, List.setIfInBounds_toArray, List.set_cons_zero, List.set_cons_succ]
                    rfl
                  refine two_ (i := 5) (j := 12) (Ni := some 31) (Nj := some 11) #[true,true,true,true,true,true,true,false,false,false,false,false,false,false,false] #[true,true,true,true,true,false,true,false,false,false,false,false,true,false,false] rfl rfl rfl rfl (two_of HT_.out (by kernel_rfl)) (by decide) (by decide) (fun K hK => ?_) (fun K hK => ?_)
                  · skip
                    refine goes_ Try.func13 (by kernel_rfl) rfl #[.agg #[.int .i64 a2_0, .int .i64 a2_1]] (by rfl) rfl rfl al ?_
                    with_reducible refine (laws_toPoint.calls a2_0 a2_1 t280 t281 _ A12.out).mono ?_
                    rintro e w37 ⟨rfl, hb⟩
                    refine ⟨_, rfl, ?_⟩
                    have n0_ := Aside0.mk (blk_below (bf BK260.out) hb)
                    have n1_ := Aside0.mk (blk_below (bf BK261.out) hb)
                    have n2_ := Aside0.mk (blk_below (bf BK262.out) hb)
                    have n3_ := Aside0.mk (blk_below (bf BK263.out) hb)
                    have n4_ := Aside0.mk (blk_below (bf BK275.out) hb)
                    have n5_ := Aside0.mk (below_step (lb HB.out) hb)
                    clear BK260
                    clear BK261
                    clear BK262
                    clear BK263
                    clear BK275
                    clear HB
                    have BK260 := n0_
                    have BK261 := n1_
                    have BK262 := n2_
                    have BK263 := n3_
                    have BK275 := n4_
                    have HB := n5_
                    clear n0_ n1_ n2_ n3_ n4_ n5_
                    (try clear hb)
                    (try clear hb2)
                    (try clear hk)
                    (try clear hi)
                    refine hK.out _ _ ⟨(blk_cell BK260.out 0).trans rfl, (blk_cell BK260.out 1).trans rfl, (blk_cell BK261.out 0).trans rfl, (blk_cell BK261.out 1).trans rfl, (blk_cell BK262.out 0).trans rfl, (blk_cell BK262.out 1).trans rfl, (blk_cell BK263.out 0).trans rfl, (blk_cell BK263.out 1).trans rfl⟩ (fun hHeld => ?_)
                    clear hK K
                    refine norm_ (a' := ?_) ?_ ?_
                    rotate_left
                    · show Act.put _ (some 31) _ = _
                      simp only [Act.put, List.setIfInBounds_toArray, List.set_cons_zero, List.set_cons_succ, i64_w, i32_w]
                      rfl
                    exact norm_ (by first | (simp only [putAll, Act.put, List.setIfInBounds_toArray, List.set_cons_zero, List.set_cons_succ]; done) | (simp only [putAll, Act.put, List.setIfInBounds_toArray, List.set_cons_zero, List.set_cons_succ]; rfl)) (hJ1_3_5 () _ ⟨hHeld, (bf BK260.out), (bf BK261.out), (bf BK262.out), (bf BK263.out), (bf BK275.out), (lb HB.out)⟩)
                  · skip
                    refine box_step ?hg (N := 11) ?hd (cs := #[.int .i64 0, .int .i64 0]) (t := 29) ?hr ?_; (case hd => rfl); (case hg => rfl); (case hr => first | (go_simp; done) | (go_simp; rfl))
                    intro gb287 hg w37 hbox hb
                    have n0_ := Aside0.mk (blk_below (bf BK260.out) hb)
                    have n1_ := Aside0.mk (blk_below (bf BK261.out) hb)
                    have n2_ := Aside0.mk (blk_below (bf BK262.out) hb)
                    have n3_ := Aside0.mk (blk_below (bf BK263.out) hb)
                    have n4_ := Aside0.mk (blk_below (bf BK275.out) hb)
                    have n5_ := Aside0.mk (below_step (lb HB.out) hb)
                    have n6_ := Aside0.mk (hbox)
                    have n7_ := Aside0.mk ((by rw [hg]; exact (below_size (lb HB.out)) : w.heap.size ≤ gb287))
                    have n8_ := Aside0.mk ((by rw [hg]; exact (below_size (lb HB.out)) : w.heap.size ≤ gb287))
                    have n9_ := Aside0.mk ((by rw [hg]; exact Nat.ne_of_lt (blk_lt (bf BK260.out)) : gb260 ≠ gb287))
                    have n10_ := Aside0.mk ((by rw [hg]; exact Nat.ne_of_gt (blk_lt (bf BK260.out)) : gb287 ≠ gb260))
                    have n11_ := Aside0.mk ((by rw [hg]; exact Nat.ne_of_lt (blk_lt (bf BK261.out)) : gb261 ≠ gb287))
                    have n12_ := Aside0.mk ((by rw [hg]; exact Nat.ne_of_gt (blk_lt (bf BK261.out)) : gb287 ≠ gb261))
                    have n13_ := Aside0.mk ((by rw [hg]; exact Nat.ne_of_lt (blk_lt (bf BK262.out)) : gb262 ≠ gb287))
                    have n14_ := Aside0.mk ((by rw [hg]; exact Nat.ne_of_gt (blk_lt (bf BK262.out)) : gb287 ≠ gb262))
                    have n15_ := Aside0.mk ((by rw [hg]; exact Nat.ne_of_lt (blk_lt (bf BK263.out)) : gb263 ≠ gb287))
                    have n16_ := Aside0.mk ((by rw [hg]; exact Nat.ne_of_gt (blk_lt (bf BK263.out)) : gb287 ≠ gb263))
                    have n17_ := Aside0.mk ((by rw [hg]; exact Nat.ne_of_lt (blk_lt (bf BK275.out)) : gb275 ≠ gb287))
                    have n18_ := Aside0.mk ((by rw [hg]; exact Nat.ne_of_gt (blk_lt (bf BK275.out)) : gb287 ≠ gb275))
                    clear BK260
                    clear BK261
                    clear BK262
                    clear BK263
                    clear BK275
                    clear HB
                    have BK260 := n0_
                    have BK261 := n1_
                    have BK262 := n2_
                    have BK263 := n3_
                    have BK275 := n4_
                    have HB := n5_
                    have BK287 := n6_
                    have GW287 := n7_
                    have GE287 := n8_
                    have NB260_287 := n9_
                    have NB287_260 := n10_
                    have NB261_287 := n11_
                    have NB287_261 := n12_
                    have NB262_287 := n13_
                    have NB287_262 := n14_
                    have NB263_287 := n15_
                    have NB287_263 := n16_
                    have NB275_287 := n17_
                    have NB287_275 := n18_
                    clear n0_ n1_ n2_ n3_ n4_ n5_ n6_ n7_ n8_ n9_ n10_ n11_ n12_ n13_ n14_ n15_ n16_ n17_ n18_
                    clear hb hbox hg
                    refine hK.out _ _ ⟨(blk_cell BK260.out 0).trans rfl, (blk_cell BK260.out 1).trans rfl, (blk_cell BK261.out 0).trans rfl, (blk_cell BK261.out 1).trans rfl, (blk_cell BK262.out 0).trans rfl, (blk_cell BK262.out 1).trans rfl, (blk_cell BK263.out 0).trans rfl, (blk_cell BK263.out 1).trans rfl⟩ (fun hHeld => ?_)
                    clear hK K
                    refine norm_ (a' := ?_) ?_ ?_
                    rotate_left
                    · show Act.put _ (some 11) _ = _
                      simp only [Act.put, List.setIfInBounds_toArray, List.set_cons_zero, List.set_cons_succ, i64_w, i32_w]
                      rfl
                    exact norm_ (by first | (simp only [putAll, Act.put, List.setIfInBounds_toArray, List.set_cons_zero, List.set_cons_succ]; done) | (simp only [putAll, Act.put, List.setIfInBounds_toArray, List.set_cons_zero, List.set_cons_succ]; rfl)) (hJ1_3_12 (gb287) _ ⟨hHeld, (bf BK260.out), (bf BK261.out), (bf BK262.out), (bf BK263.out), (bf BK275.out), (bf BK287.out), GW287.out, GE287.out, NB260_287.out, NB287_260.out, NB261_287.out, NB287_261.out, NB262_287.out, NB287_262.out, NB263_287.out, NB287_263.out, NB275_287.out, NB287_275.out, (lb HB.out)⟩)
              · skip
                rintro gb287 w37 ⟨hS_, h0_, h1_, h2_, h3_, h4_, h5_, h6_, h7_, h8_, h9_, h10_, h11_, h12_, h13_, h14_, h15_, h16_, h17_, h18_⟩
                have n0_ : Aside0 (w37.heap[gb260]? = some (.cells #[.int .i64 a0_0, .int .i64 a0_1] 23 (0, 0))) := ⟨h0_⟩
                have n1_ : Aside0 (w37.heap[gb261]? = some (.cells #[.int .i64 a1_0, .int .i64 a1_1] 23 (0, 0))) := ⟨h1_⟩
                have n2_ : Aside0 (w37.heap[gb262]? = some (.cells #[.int .i64 a2_0, .int .i64 a2_1] 23 (0, 0))) := ⟨h2_⟩
                have n3_ : Aside0 (w37.heap[gb263]? = some (.cells #[.int .i64 a3_0, .int .i64 a3_1] 23 (0, 0))) := ⟨h3_⟩
                have n4_ : Aside0 (w37.heap[gb275]? = some (.cells #[.int .i64 t272, .int .i64 t273] 29 (0, 0))) := ⟨h4_⟩
                have n5_ : Aside0 (w37.heap[gb287]? = some (.cells #[.int .i64 0, .int .i64 0] 29 (0, 0))) := ⟨h5_⟩
                have n6_ : Aside0 (w.heap.size ≤ gb287) := ⟨h6_⟩
                have n7_ : Aside0 (w.heap.size ≤ gb287) := ⟨h7_⟩
                have n8_ : Aside0 (gb260 ≠ gb287) := ⟨h8_⟩
                have n9_ : Aside0 (gb287 ≠ gb260) := ⟨h9_⟩
                have n10_ : Aside0 (gb261 ≠ gb287) := ⟨h10_⟩
                have n11_ : Aside0 (gb287 ≠ gb261) := ⟨h11_⟩
                have n12_ : Aside0 (gb262 ≠ gb287) := ⟨h12_⟩
                have n13_ : Aside0 (gb287 ≠ gb262) := ⟨h13_⟩
                have n14_ : Aside0 (gb263 ≠ gb287) := ⟨h14_⟩
                have n15_ : Aside0 (gb287 ≠ gb263) := ⟨h15_⟩
                have n16_ : Aside0 (gb275 ≠ gb287) := ⟨h16_⟩
                have n17_ : Aside0 (gb287 ≠ gb275) := ⟨h17_⟩
                have n18_ : Aside0 (Below w.heap.size w w37) := ⟨h18_⟩
                clear BK260
                clear BK261
                clear BK262
                clear BK263
                clear BK275
                clear HB
                clear h0_ h1_ h2_ h3_ h4_ h5_ h6_ h7_ h8_ h9_ h10_ h11_ h12_ h13_ h14_ h15_ h16_ h17_ h18_
                have BK260 := n0_
                have BK261 := n1_
                have BK262 := n2_
                have BK263 := n3_
                have BK275 := n4_
                have BK287 := n5_
                have GW287 := n6_
                have GE287 := n7_
                have NB260_287 := n8_
                have NB287_260 := n9_
                have NB261_287 := n10_
                have NB287_261 := n11_
                have NB262_287 := n12_
                have NB287_262 := n13_
                have NB263_287 := n14_
                have NB287_263 := n15_
                have NB275_287 := n16_
                have NB287_275 := n17_
                have HB := n18_
                clear n0_ n1_ n2_ n3_ n4_ n5_ n6_ n7_ n8_ n9_ n10_ n11_ n12_ n13_ n14_ n15_ n16_ n17_ n18_
                have hHeld : w37.cell? ⟨gb260, 0, none⟩ = some (.int .i64 a0_0) ∧ w37.cell? ⟨gb260, 1, none⟩ = some (.int .i64 a0_1) ∧ w37.cell? ⟨gb261, 0, none⟩ = some (.int .i64 a1_0) ∧ w37.cell? ⟨gb261, 1, none⟩ = some (.int .i64 a1_1) ∧ w37.cell? ⟨gb262, 0, none⟩ = some (.int .i64 a2_0) ∧ w37.cell? ⟨gb262, 1, none⟩ = some (.int .i64 a2_1) ∧ w37.cell? ⟨gb263, 0, none⟩ = some (.int .i64 a3_0) ∧ w37.cell? ⟨gb263, 1, none⟩ = some (.int .i64 a3_1) := hS_
                refine norm_ (a' := ?_) ?_ ?_
                rotate_left
                · simp only [putAll, Act.put, List.setIfInBounds_toArray, List.set_cons_zero, List.set_cons_succ]
                  rfl
                refine one_ (i := 5) (N := some 31) #[true,true,true,true,true,true,true,false,false,false,false,false,true,false,false] rfl rfl (one_of HT_.out (by kernel_rfl)) (by decide) (fun K hK => ?_)
                refine goes_ Try.func13 (by kernel_rfl) rfl #[.agg #[.int .i64 a2_0, .int .i64 a2_1]] (by rfl) rfl rfl al ?_
                with_reducible refine (laws_toPoint.calls a2_0 a2_1 t280 t281 _ A12.out).mono ?_
                rintro e w38 ⟨rfl, hb⟩
                refine ⟨_, rfl, ?_⟩
                have n0_ := Aside0.mk (blk_below (bf BK260.out) hb)
                have n1_ := Aside0.mk (blk_below (bf BK261.out) hb)
                have n2_ := Aside0.mk (blk_below (bf BK262.out) hb)
                have n3_ := Aside0.mk (blk_below (bf BK263.out) hb)
                have n4_ := Aside0.mk (blk_below (bf BK275.out) hb)
                have n5_ := Aside0.mk (blk_below (bf BK287.out) hb)
                have n6_ := Aside0.mk (below_step (lb HB.out) hb)
                clear BK260
                clear BK261
                clear BK262
                clear BK263
                clear BK275
                clear BK287
                clear HB
                have BK260 := n0_
                have BK261 := n1_
                have BK262 := n2_
                have BK263 := n3_
                have BK275 := n4_
                have BK287 := n5_
                have HB := n6_
                clear n0_ n1_ n2_ n3_ n4_ n5_ n6_
                (try clear hb)
                (try clear hb2)
                (try clear hk)
                (try clear hi)
                refine hK.out _ _ ⟨(blk_cell BK260.out 0).trans rfl, (blk_cell BK260.out 1).trans rfl, (blk_cell BK261.out 0).trans rfl, (blk_cell BK261.out 1).trans rfl, (blk_cell BK262.out 0).trans rfl, (blk_cell BK262.out 1).trans rfl, (blk_cell BK263.out 0).trans rfl, (blk_cell BK263.out 1).trans rfl⟩ (fun hHeld => ?_)
                clear hK K
                refine norm_ (a' := ?_) ?_ ?_
                rotate_left
                · show Act.put _ (some 31) _ = _
                  simp only [Act.put, List.setIfInBounds_toArray, List.set_cons_zero, List.set_cons_succ, i64_w, i32_w]
                  rfl
                exact norm_ (by first | (simp only [putAll, Act.put, List.setIfInBounds_toArray, List.set_cons_zero, List.set_cons_succ]; done) | (simp only [putAll, Act.put, List.setIfInBounds_toArray, List.set_cons_zero, List.set_cons_succ]; rfl)) (hJ1_3_5_12 (gb287) _ ⟨hHeld, (bf BK260.out), (bf BK261.out), (bf BK262.out), (bf BK263.out), (bf BK275.out), (bf BK287.out), GW287.out, GE287.out, NB260_287.out, NB287_260.out, NB261_287.out, NB287_261.out, NB262_287.out, NB287_262.out, NB263_287.out, NB287_263.out, NB275_287.out, NB287_275.out, (lb HB.out)⟩)
            · skip
              rintro _ w37 ⟨hS_, h0_, h1_, h2_, h3_, h4_, h5_⟩
              have n0_ : Aside0 (w37.heap[gb260]? = some (.cells #[.int .i64 a0_0, .int .i64 a0_1] 23 (0, 0))) := ⟨h0_⟩
              have n1_ : Aside0 (w37.heap[gb261]? = some (.cells #[.int .i64 a1_0, .int .i64 a1_1] 23 (0, 0))) := ⟨h1_⟩
              have n2_ : Aside0 (w37.heap[gb262]? = some (.cells #[.int .i64 a2_0, .int .i64 a2_1] 23 (0, 0))) := ⟨h2_⟩
              have n3_ : Aside0 (w37.heap[gb263]? = some (.cells #[.int .i64 a3_0, .int .i64 a3_1] 23 (0, 0))) := ⟨h3_⟩
              have n4_ : Aside0 (w37.heap[gb275]? = some (.cells #[.int .i64 t272, .int .i64 t273] 29 (0, 0))) := ⟨h4_⟩
              have n5_ : Aside0 (Below w.heap.size w w37) := ⟨h5_⟩
              clear BK260
              clear BK261
              clear BK262
              clear BK263
              clear BK275
              clear HB
              clear h0_ h1_ h2_ h3_ h4_ h5_
              have BK260 := n0_
              have BK261 := n1_
              have BK262 := n2_
              have BK263 := n3_
              have BK275 := n4_
              have HB := n5_
              clear n0_ n1_ n2_ n3_ n4_ n5_
              have hHeld : w37.cell? ⟨gb260, 0, none⟩ = some (.int .i64 a0_0) ∧ w37.cell? ⟨gb260, 1, none⟩ = some (.int .i64 a0_1) ∧ w37.cell? ⟨gb261, 0, none⟩ = some (.int .i64 a1_0) ∧ w37.cell? ⟨gb261, 1, none⟩ = some (.int .i64 a1_1) ∧ w37.cell? ⟨gb262, 0, none⟩ = some (.int .i64 a2_0) ∧ w37.cell? ⟨gb262, 1, none⟩ = some (.int .i64 a2_1) ∧ w37.cell? ⟨gb263, 0, none⟩ = some (.int .i64 a3_0) ∧ w37.cell? ⟨gb263, 1, none⟩ = some (.int .i64 a3_1) := hS_
              refine norm_ (a' := ?_) ?_ ?_
              rotate_left
              · simp only [putAll, Act.put, List.setIfInBounds_toArray, List.set_cons_zero, List.set_cons_succ]
                rfl
              refine two_ (i := 7) (j := 12) (Ni := some 33) (Nj := some 11) #[true,true,true,true,true,true,true,true,false,false,false,false,false,false,false] #[true,true,true,true,true,true,true,false,false,false,false,false,true,false,false] rfl rfl rfl rfl (two_of HT_.out (by kernel_rfl)) (by decide) (by decide) (fun K hK => ?_) (fun K hK => ?_)
              · skip
                refine goes_ Try.func13 (by kernel_rfl) rfl #[.agg #[.int .i64 a3_0, .int .i64 a3_1]] (by rfl) rfl rfl al ?_
                with_reducible refine (laws_toPoint.calls a3_0 a3_1 t282 t283 _ A13.out).mono ?_
                rintro e w38 ⟨rfl, hb⟩
                refine ⟨_, rfl, ?_⟩
                have n0_ := Aside0.mk (blk_below (bf BK260.out) hb)
                have n1_ := Aside0.mk (blk_below (bf BK261.out) hb)
                have n2_ := Aside0.mk (blk_below (bf BK262.out) hb)
                have n3_ := Aside0.mk (blk_below (bf BK263.out) hb)
                have n4_ := Aside0.mk (blk_below (bf BK275.out) hb)
                have n5_ := Aside0.mk (below_step (lb HB.out) hb)
                clear BK260
                clear BK261
                clear BK262
                clear BK263
                clear BK275
                clear HB
                have BK260 := n0_
                have BK261 := n1_
                have BK262 := n2_
                have BK263 := n3_
                have BK275 := n4_
                have HB := n5_
                clear n0_ n1_ n2_ n3_ n4_ n5_
                (try clear hb)
                (try clear hb2)
                (try clear hk)
                (try clear hi)
                refine hK.out _ _ ⟨(blk_cell BK260.out 0).trans rfl, (blk_cell BK260.out 1).trans rfl, (blk_cell BK261.out 0).trans rfl, (blk_cell BK261.out 1).trans rfl, (blk_cell BK262.out 0).trans rfl, (blk_cell BK262.out 1).trans rfl, (blk_cell BK263.out 0).trans rfl, (blk_cell BK263.out 1).trans rfl⟩ (fun hHeld => ?_)
                clear hK K
                refine norm_ (a' := ?_) ?_ ?_
                rotate_left
                · show Act.put _ (some 33) _ = _
                  simp only [Act.put, List.setIfInBounds_toArray, List.set_cons_zero, List.set_cons_succ, i64_w, i32_w]
                  rfl
                exact norm_ (by first | (simp only [putAll, Act.put, List.setIfInBounds_toArray, List.set_cons_zero, List.set_cons_succ]; done) | (simp only [putAll, Act.put, List.setIfInBounds_toArray, List.set_cons_zero, List.set_cons_succ]; rfl)) (hJ1_3_5_7 () _ ⟨hHeld, (bf BK260.out), (bf BK261.out), (bf BK262.out), (bf BK263.out), (bf BK275.out), (lb HB.out)⟩)
              · skip
                refine box_step ?hg (N := 11) ?hd (cs := #[.int .i64 0, .int .i64 0]) (t := 29) ?hr ?_; (case hd => rfl); (case hg => rfl); (case hr => first | (go_simp; done) | (go_simp; rfl))
                intro gb287 hg w38 hbox hb
                have n0_ := Aside0.mk (blk_below (bf BK260.out) hb)
                have n1_ := Aside0.mk (blk_below (bf BK261.out) hb)
                have n2_ := Aside0.mk (blk_below (bf BK262.out) hb)
                have n3_ := Aside0.mk (blk_below (bf BK263.out) hb)
                have n4_ := Aside0.mk (blk_below (bf BK275.out) hb)
                have n5_ := Aside0.mk (below_step (lb HB.out) hb)
                have n6_ := Aside0.mk (hbox)
                have n7_ := Aside0.mk ((by rw [hg]; exact (below_size (lb HB.out)) : w.heap.size ≤ gb287))
                have n8_ := Aside0.mk ((by rw [hg]; exact (below_size (lb HB.out)) : w.heap.size ≤ gb287))
                have n9_ := Aside0.mk ((by rw [hg]; exact Nat.ne_of_lt (blk_lt (bf BK260.out)) : gb260 ≠ gb287))
                have n10_ := Aside0.mk ((by rw [hg]; exact Nat.ne_of_gt (blk_lt (bf BK260.out)) : gb287 ≠ gb260))
                have n11_ := Aside0.mk ((by rw [hg]; exact Nat.ne_of_lt (blk_lt (bf BK261.out)) : gb261 ≠ gb287))
                have n12_ := Aside0.mk ((by rw [hg]; exact Nat.ne_of_gt (blk_lt (bf BK261.out)) : gb287 ≠ gb261))
                have n13_ := Aside0.mk ((by rw [hg]; exact Nat.ne_of_lt (blk_lt (bf BK262.out)) : gb262 ≠ gb287))
                have n14_ := Aside0.mk ((by rw [hg]; exact Nat.ne_of_gt (blk_lt (bf BK262.out)) : gb287 ≠ gb262))
                have n15_ := Aside0.mk ((by rw [hg]; exact Nat.ne_of_lt (blk_lt (bf BK263.out)) : gb263 ≠ gb287))
                have n16_ := Aside0.mk ((by rw [hg]; exact Nat.ne_of_gt (blk_lt (bf BK263.out)) : gb287 ≠ gb263))
                have n17_ := Aside0.mk ((by rw [hg]; exact Nat.ne_of_lt (blk_lt (bf BK275.out)) : gb275 ≠ gb287))
                have n18_ := Aside0.mk ((by rw [hg]; exact Nat.ne_of_gt (blk_lt (bf BK275.out)) : gb287 ≠ gb275))
                clear BK260
                clear BK261
                clear BK262
                clear BK263
                clear BK275
                clear HB
                have BK260 := n0_
                have BK261 := n1_
                have BK262 := n2_
                have BK263 := n3_
                have BK275 := n4_
                have HB := n5_
                have BK287 := n6_
                have GW287 := n7_
                have GE287 := n8_
                have NB260_287 := n9_
                have NB287_260 := n10_
                have NB261_287 := n11_
                have NB287_261 := n12_
                have NB262_287 := n13_
                have NB287_262 := n14_
                have NB263_287 := n15_
                have NB287_263 := n16_
                have NB275_287 := n17_
                have NB287_275 := n18_
                clear n0_ n1_ n2_ n3_ n4_ n5_ n6_ n7_ n8_ n9_ n10_ n11_ n12_ n13_ n14_ n15_ n16_ n17_ n18_
                clear hb hbox hg
                refine hK.out _ _ ⟨(blk_cell BK260.out 0).trans rfl, (blk_cell BK260.out 1).trans rfl, (blk_cell BK261.out 0).trans rfl, (blk_cell BK261.out 1).trans rfl, (blk_cell BK262.out 0).trans rfl, (blk_cell BK262.out 1).trans rfl, (blk_cell BK263.out 0).trans rfl, (blk_cell BK263.out 1).trans rfl⟩ (fun hHeld => ?_)
                clear hK K
                refine norm_ (a' := ?_) ?_ ?_
                rotate_left
                · show Act.put _ (some 11) _ = _
                  simp only [Act.put, List.setIfInBounds_toArray, List.set_cons_zero, List.set_cons_succ, i64_w, i32_w]
                  rfl
                exact norm_ (by first | (simp only [putAll, Act.put, List.setIfInBounds_toArray, List.set_cons_zero, List.set_cons_succ]; done) | (simp only [putAll, Act.put, List.setIfInBounds_toArray, List.set_cons_zero, List.set_cons_succ]; rfl)) (hJ1_3_5_12 (gb287) _ ⟨hHeld, (bf BK260.out), (bf BK261.out), (bf BK262.out), (bf BK263.out), (bf BK275.out), (bf BK287.out), GW287.out, GE287.out, NB260_287.out, NB287_260.out, NB261_287.out, NB287_261.out, NB262_287.out, NB287_262.out, NB263_287.out, NB287_263.out, NB275_287.out, NB287_275.out, (lb HB.out)⟩)
          · skip
            rintro gb287 w38 ⟨hS_, h0_, h1_, h2_, h3_, h4_, h5_, h6_, h7_, h8_, h9_, h10_, h11_, h12_, h13_, h14_, h15_, h16_, h17_, h18_⟩
            have n0_ : Aside0 (w38.heap[gb260]? = some (.cells #[.int .i64 a0_0, .int .i64 a0_1] 23 (0, 0))) := ⟨h0_⟩
            have n1_ : Aside0 (w38.heap[gb261]? = some (.cells #[.int .i64 a1_0, .int .i64 a1_1] 23 (0, 0))) := ⟨h1_⟩
            have n2_ : Aside0 (w38.heap[gb262]? = some (.cells #[.int .i64 a2_0, .int .i64 a2_1] 23 (0, 0))) := ⟨h2_⟩
            have n3_ : Aside0 (w38.heap[gb263]? = some (.cells #[.int .i64 a3_0, .int .i64 a3_1] 23 (0, 0))) := ⟨h3_⟩
            have n4_ : Aside0 (w38.heap[gb275]? = some (.cells #[.int .i64 t272, .int .i64 t273] 29 (0, 0))) := ⟨h4_⟩
            have n5_ : Aside0 (w38.heap[gb287]? = some (.cells #[.int .i64 0, .int .i64 0] 29 (0, 0))) := ⟨h5_⟩
            have n6_ : Aside0 (w.heap.size ≤ gb287) := ⟨h6_⟩
            have n7_ : Aside0 (w.heap.size ≤ gb287) := ⟨h7_⟩
            have n8_ : Aside0 (gb260 ≠ gb287) := ⟨h8_⟩
            have n9_ : Aside0 (gb287 ≠ gb260) := ⟨h9_⟩
            have n10_ : Aside0 (gb261 ≠ gb287) := ⟨h10_⟩
            have n11_ : Aside0 (gb287 ≠ gb261) := ⟨h11_⟩
            have n12_ : Aside0 (gb262 ≠ gb287) := ⟨h12_⟩
            have n13_ : Aside0 (gb287 ≠ gb262) := ⟨h13_⟩
            have n14_ : Aside0 (gb263 ≠ gb287) := ⟨h14_⟩
            have n15_ : Aside0 (gb287 ≠ gb263) := ⟨h15_⟩
            have n16_ : Aside0 (gb275 ≠ gb287) := ⟨h16_⟩
            have n17_ : Aside0 (gb287 ≠ gb275) := ⟨h17_⟩
            have n18_ : Aside0 (Below w.heap.size w w38) := ⟨h18_⟩
            clear BK260
            clear BK261
            clear BK262
            clear BK263
            clear BK275
            clear HB
            clear h0_ h1_ h2_ h3_ h4_ h5_ h6_ h7_ h8_ h9_ h10_ h11_ h12_ h13_ h14_ h15_ h16_ h17_ h18_
            have BK260 := n0_
            have BK261 := n1_
            have BK262 := n2_
            have BK263 := n3_
            have BK275 := n4_
            have BK287 := n5_
            have GW287 := n6_
            have GE287 := n7_
            have NB260_287 := n8_
            have NB287_260 := n9_
            have NB261_287 := n10_
            have NB287_261 := n11_
            have NB262_287 := n12_
            have NB287_262 := n13_
            have NB263_287 := n14_
            have NB287_263 := n15_
            have NB275_287 := n16_
            have NB287_275 := n17_
            have HB := n18_
            clear n0_ n1_ n2_ n3_ n4_ n5_ n6_ n7_ n8_ n9_ n10_ n11_ n12_ n13_ n14_ n15_ n16_ n17_ n18_
            have hHeld : w38.cell? ⟨gb260, 0, none⟩ = some (.int .i64 a0_0) ∧ w38.cell? ⟨gb260, 1, none⟩ = some (.int .i64 a0_1) ∧ w38.cell? ⟨gb261, 0, none⟩ = some (.int .i64 a1_0) ∧ w38.cell? ⟨gb261, 1, none⟩ = some (.int .i64 a1_1) ∧ w38.cell? ⟨gb262, 0, none⟩ = some (.int .i64 a2_0) ∧ w38.cell? ⟨gb262, 1, none⟩ = some (.int .i64 a2_1) ∧ w38.cell? ⟨gb263, 0, none⟩ = some (.int .i64 a3_0) ∧ w38.cell? ⟨gb263, 1, none⟩ = some (.int .i64 a3_1) := hS_
            refine norm_ (a' := ?_) ?_ ?_
            rotate_left
            · simp only [putAll, Act.put, List.setIfInBounds_toArray, List.set_cons_zero, List.set_cons_succ]
              rfl
            refine one_ (i := 7) (N := some 33) #[true,true,true,true,true,true,true,true,false,false,false,false,true,false,false] rfl rfl (one_of HT_.out (by kernel_rfl)) (by decide) (fun K hK => ?_)
            refine goes_ Try.func13 (by kernel_rfl) rfl #[.agg #[.int .i64 a3_0, .int .i64 a3_1]] (by rfl) rfl rfl al ?_
            with_reducible refine (laws_toPoint.calls a3_0 a3_1 t282 t283 _ A13.out).mono ?_
            rintro e w39 ⟨rfl, hb⟩
            refine ⟨_, rfl, ?_⟩
            have n0_ := Aside0.mk (blk_below (bf BK260.out) hb)
            have n1_ := Aside0.mk (blk_below (bf BK261.out) hb)
            have n2_ := Aside0.mk (blk_below (bf BK262.out) hb)
            have n3_ := Aside0.mk (blk_below (bf BK263.out) hb)
            have n4_ := Aside0.mk (blk_below (bf BK275.out) hb)
            have n5_ := Aside0.mk (blk_below (bf BK287.out) hb)
            have n6_ := Aside0.mk (below_step (lb HB.out) hb)
            clear BK260
            clear BK261
            clear BK262
            clear BK263
            clear BK275
            clear BK287
            clear HB
            have BK260 := n0_
            have BK261 := n1_
            have BK262 := n2_
            have BK263 := n3_
            have BK275 := n4_
            have BK287 := n5_
            have HB := n6_
            clear n0_ n1_ n2_ n3_ n4_ n5_ n6_
            (try clear hb)
            (try clear hb2)
            (try clear hk)
            (try clear hi)
            refine hK.out _ _ ⟨(blk_cell BK260.out 0).trans rfl, (blk_cell BK260.out 1).trans rfl, (blk_cell BK261.out 0).trans rfl, (blk_cell BK261.out 1).trans rfl, (blk_cell BK262.out 0).trans rfl, (blk_cell BK262.out 1).trans rfl, (blk_cell BK263.out 0).trans rfl, (blk_cell BK263.out 1).trans rfl⟩ (fun hHeld => ?_)
            clear hK K
            refine norm_ (a' := ?_) ?_ ?_
            rotate_left
            · show Act.put _ (some 33) _ = _
              simp only [Act.put, List.setIfInBounds_toArray, List.set_cons_zero, List.set_cons_succ, i64_w, i32_w]
              rfl
            exact norm_ (by first | (simp only [putAll, Act.put, List.setIfInBounds_toArray, List.set_cons_zero, List.set_cons_succ]; done) | (simp only [putAll, Act.put, List.setIfInBounds_toArray, List.set_cons_zero, List.set_cons_succ]; rfl)) (hJ1_3_5_7_12 (gb287) _ ⟨hHeld, (bf BK260.out), (bf BK261.out), (bf BK262.out), (bf BK263.out), (bf BK275.out), (bf BK287.out), GW287.out, GE287.out, NB260_287.out, NB287_260.out, NB261_287.out, NB287_261.out, NB262_287.out, NB287_262.out, NB263_287.out, NB287_263.out, NB275_287.out, NB287_275.out, (lb HB.out)⟩)
        · skip
          rintro _ w38 ⟨hS_, h0_, h1_, h2_, h3_, h4_, h5_⟩
          have n0_ : Aside0 (w38.heap[gb260]? = some (.cells #[.int .i64 a0_0, .int .i64 a0_1] 23 (0, 0))) := ⟨h0_⟩
          have n1_ : Aside0 (w38.heap[gb261]? = some (.cells #[.int .i64 a1_0, .int .i64 a1_1] 23 (0, 0))) := ⟨h1_⟩
          have n2_ : Aside0 (w38.heap[gb262]? = some (.cells #[.int .i64 a2_0, .int .i64 a2_1] 23 (0, 0))) := ⟨h2_⟩
          have n3_ : Aside0 (w38.heap[gb263]? = some (.cells #[.int .i64 a3_0, .int .i64 a3_1] 23 (0, 0))) := ⟨h3_⟩
          have n4_ : Aside0 (w38.heap[gb275]? = some (.cells #[.int .i64 t272, .int .i64 t273] 29 (0, 0))) := ⟨h4_⟩
          have n5_ : Aside0 (Below w.heap.size w w38) := ⟨h5_⟩
          clear BK260
          clear BK261
          clear BK262
          clear BK263
          clear BK275
          clear HB
          clear h0_ h1_ h2_ h3_ h4_ h5_
          have BK260 := n0_
          have BK261 := n1_
          have BK262 := n2_
          have BK263 := n3_
          have BK275 := n4_
          have HB := n5_
          clear n0_ n1_ n2_ n3_ n4_ n5_
          have hHeld : w38.cell? ⟨gb260, 0, none⟩ = some (.int .i64 a0_0) ∧ w38.cell? ⟨gb260, 1, none⟩ = some (.int .i64 a0_1) ∧ w38.cell? ⟨gb261, 0, none⟩ = some (.int .i64 a1_0) ∧ w38.cell? ⟨gb261, 1, none⟩ = some (.int .i64 a1_1) ∧ w38.cell? ⟨gb262, 0, none⟩ = some (.int .i64 a2_0) ∧ w38.cell? ⟨gb262, 1, none⟩ = some (.int .i64 a2_1) ∧ w38.cell? ⟨gb263, 0, none⟩ = some (.int .i64 a3_0) ∧ w38.cell? ⟨gb263, 1, none⟩ = some (.int .i64 a3_1) := hS_
          refine norm_ (a' := ?_) ?_ ?_
          rotate_left
          · simp only [putAll, Act.put, List.setIfInBounds_toArray, List.set_cons_zero, List.set_cons_succ]
            rfl
          refine two_ (i := 8) (j := 12) (Ni := some 34) (Nj := some 11) #[true,true,true,true,true,true,true,true,true,false,false,false,false,false,false] #[true,true,true,true,true,true,true,true,false,false,false,false,true,false,false] rfl rfl rfl rfl (two_of HT_.out (by kernel_rfl)) (by decide) (by decide) (fun K hK => ?_) (fun K hK => ?_)
          · skip
            refine goes_ Try.func18 (by kernel_rfl) rfl #[.agg #[.int .i64 t276, .int .i64 t277], .agg #[.int .i64 t278, .int .i64 t279], .agg #[.int .i64 t280, .int .i64 t281], .agg #[.int .i64 t282, .int .i64 t283]] (by rfl) rfl rfl al ?_
            with_reducible refine (impl_CrossOf.calls k t276 t277 t278 t279 t280 t281 t282 t283 t284 t285 t286 _ A14.out).mono ?_
            rintro e w39 ⟨rfl, hb⟩
            refine ⟨_, rfl, ?_⟩
            have n0_ := Aside0.mk (blk_below (bf BK260.out) hb)
            have n1_ := Aside0.mk (blk_below (bf BK261.out) hb)
            have n2_ := Aside0.mk (blk_below (bf BK262.out) hb)
            have n3_ := Aside0.mk (blk_below (bf BK263.out) hb)
            have n4_ := Aside0.mk (blk_below (bf BK275.out) hb)
            have n5_ := Aside0.mk (below_step (lb HB.out) hb)
            clear BK260
            clear BK261
            clear BK262
            clear BK263
            clear BK275
            clear HB
            have BK260 := n0_
            have BK261 := n1_
            have BK262 := n2_
            have BK263 := n3_
            have BK275 := n4_
            have HB := n5_
            clear n0_ n1_ n2_ n3_ n4_ n5_
            (try clear hb)
            (try clear hb2)
            (try clear hk)
            (try clear hi)
            refine hK.out _ _ ⟨(blk_cell BK260.out 0).trans rfl, (blk_cell BK260.out 1).trans rfl, (blk_cell BK261.out 0).trans rfl, (blk_cell BK261.out 1).trans rfl, (blk_cell BK262.out 0).trans rfl, (blk_cell BK262.out 1).trans rfl, (blk_cell BK263.out 0).trans rfl, (blk_cell BK263.out 1).trans rfl⟩ (fun hHeld => ?_)
            clear hK K
            refine norm_ (a' := ?_) ?_ ?_
            rotate_left
            · show Act.put _ (some 34) _ = _
              simp only [Act.put, List.setIfInBounds_toArray, List.set_cons_zero, List.set_cons_succ, i64_w, i32_w]
              rfl
            refine pure_ (i := 9) (N := some 25) (v := ?_) (a' := ?_) #[true,true,true,true,true,true,true,true,true,true,false,false,false,false,false] rfl rfl (any_of HT_.out (by kernel_rfl)) (fun _ _ _ h => h) (Or.inl ⟨by rfl, ?_⟩) ?_ ?_
            rotate_left
            · intro w'
              go_simp
              with_reducible rfl
            rotate_left
            · simp only [Act.put, List.setIfInBounds_toArray, List.set_cons_zero, List.set_cons_succ, i64_w, i32_w]
              rfl
            refine pure_ (i := 10) (N := some 35) (v := ?_) (a' := ?_) #[true,true,true,true,true,true,true,true,true,true,true,false,false,false,false] rfl rfl (any_of HT_.out (by kernel_rfl)) (fun _ _ _ h => h) (Or.inl ⟨by rfl, ?_⟩) ?_ ?_
            rotate_left
            · intro w'
              go_simp
              with_reducible rfl
            rotate_left
            · simp only [Act.put, List.setIfInBounds_toArray, List.set_cons_zero, List.set_cons_succ, i64_w, i32_w]
              rfl
            refine pure_ (i := 11) (N := some 36) (v := ?_) (a' := ?_) #[true,true,true,true,true,true,true,true,true,true,true,true,false,false,false] rfl rfl (any_of HT_.out (by kernel_rfl)) (fun _ _ _ h => h) (Or.inl ⟨by rfl, ?_⟩) ?_ ?_
            rotate_left
            · intro w'
              go_simp
              with_reducible rfl
            rotate_left
            · simp only [Act.put, List.setIfInBounds_toArray, List.set_cons_zero, List.set_cons_succ, i64_w, i32_w]
              rfl
            exact norm_ (by first | (simp only [putAll, Act.put, List.setIfInBounds_toArray, List.set_cons_zero, List.set_cons_succ]; done) | (simp only [putAll, Act.put, List.setIfInBounds_toArray, List.set_cons_zero, List.set_cons_succ]; rfl)) (hJ1_3_5_7_8 () _ ⟨hHeld, (bf BK260.out), (bf BK261.out), (bf BK262.out), (bf BK263.out), (bf BK275.out), (lb HB.out)⟩)
          · skip
            refine box_step ?hg (N := 11) ?hd (cs := #[.int .i64 0, .int .i64 0]) (t := 29) ?hr ?_; (case hd => rfl); (case hg => rfl); (case hr => first | (go_simp; done) | (go_simp; rfl))
            intro gb287 hg w39 hbox hb
            have n0_ := Aside0.mk (blk_below (bf BK260.out) hb)
            have n1_ := Aside0.mk (blk_below (bf BK261.out) hb)
            have n2_ := Aside0.mk (blk_below (bf BK262.out) hb)
            have n3_ := Aside0.mk (blk_below (bf BK263.out) hb)
            have n4_ := Aside0.mk (blk_below (bf BK275.out) hb)
            have n5_ := Aside0.mk (below_step (lb HB.out) hb)
            have n6_ := Aside0.mk (hbox)
            have n7_ := Aside0.mk ((by rw [hg]; exact (below_size (lb HB.out)) : w.heap.size ≤ gb287))
            have n8_ := Aside0.mk ((by rw [hg]; exact (below_size (lb HB.out)) : w.heap.size ≤ gb287))
            have n9_ := Aside0.mk ((by rw [hg]; exact Nat.ne_of_lt (blk_lt (bf BK260.out)) : gb260 ≠ gb287))
            have n10_ := Aside0.mk ((by rw [hg]; exact Nat.ne_of_gt (blk_lt (bf BK260.out)) : gb287 ≠ gb260))
            have n11_ := Aside0.mk ((by rw [hg]; exact Nat.ne_of_lt (blk_lt (bf BK261.out)) : gb261 ≠ gb287))
            have n12_ := Aside0.mk ((by rw [hg]; exact Nat.ne_of_gt (blk_lt (bf BK261.out)) : gb287 ≠ gb261))
            have n13_ := Aside0.mk ((by rw [hg]; exact Nat.ne_of_lt (blk_lt (bf BK262.out)) : gb262 ≠ gb287))
            have n14_ := Aside0.mk ((by rw [hg]; exact Nat.ne_of_gt (blk_lt (bf BK262.out)) : gb287 ≠ gb262))
            have n15_ := Aside0.mk ((by rw [hg]; exact Nat.ne_of_lt (blk_lt (bf BK263.out)) : gb263 ≠ gb287))
            have n16_ := Aside0.mk ((by rw [hg]; exact Nat.ne_of_gt (blk_lt (bf BK263.out)) : gb287 ≠ gb263))
            have n17_ := Aside0.mk ((by rw [hg]; exact Nat.ne_of_lt (blk_lt (bf BK275.out)) : gb275 ≠ gb287))
            have n18_ := Aside0.mk ((by rw [hg]; exact Nat.ne_of_gt (blk_lt (bf BK275.out)) : gb287 ≠ gb275))
            clear BK260
            clear BK261
            clear BK262
            clear BK263
            clear BK275
            clear HB
            have BK260 := n0_
            have BK261 := n1_
            have BK262 := n2_
            have BK263 := n3_
            have BK275 := n4_
            have HB := n5_
            have BK287 := n6_
            have GW287 := n7_
            have GE287 := n8_
            have NB260_287 := n9_
            have NB287_260 := n10_
            have NB261_287 := n11_
            have NB287_261 := n12_
            have NB262_287 := n13_
            have NB287_262 := n14_
            have NB263_287 := n15_
            have NB287_263 := n16_
            have NB275_287 := n17_
            have NB287_275 := n18_
            clear n0_ n1_ n2_ n3_ n4_ n5_ n6_ n7_ n8_ n9_ n10_ n11_ n12_ n13_ n14_ n15_ n16_ n17_ n18_
            clear hb hbox hg
            refine hK.out _ _ ⟨(blk_cell BK260.out 0).trans rfl, (blk_cell BK260.out 1).trans rfl, (blk_cell BK261.out 0).trans rfl, (blk_cell BK261.out 1).trans rfl, (blk_cell BK262.out 0).trans rfl, (blk_cell BK262.out 1).trans rfl, (blk_cell BK263.out 0).trans rfl, (blk_cell BK263.out 1).trans rfl⟩ (fun hHeld => ?_)
            clear hK K
            refine norm_ (a' := ?_) ?_ ?_
            rotate_left
            · show Act.put _ (some 11) _ = _
              simp only [Act.put, List.setIfInBounds_toArray, List.set_cons_zero, List.set_cons_succ, i64_w, i32_w]
              rfl
            exact norm_ (by first | (simp only [putAll, Act.put, List.setIfInBounds_toArray, List.set_cons_zero, List.set_cons_succ]; done) | (simp only [putAll, Act.put, List.setIfInBounds_toArray, List.set_cons_zero, List.set_cons_succ]; rfl)) (hJ1_3_5_7_12 (gb287) _ ⟨hHeld, (bf BK260.out), (bf BK261.out), (bf BK262.out), (bf BK263.out), (bf BK275.out), (bf BK287.out), GW287.out, GE287.out, NB260_287.out, NB287_260.out, NB261_287.out, NB287_261.out, NB262_287.out, NB287_262.out, NB263_287.out, NB287_263.out, NB275_287.out, NB287_275.out, (lb HB.out)⟩)
      · skip
        rintro gb287 w39 ⟨hS_, h0_, h1_, h2_, h3_, h4_, h5_, h6_, h7_, h8_, h9_, h10_, h11_, h12_, h13_, h14_, h15_, h16_, h17_, h18_⟩
        have n0_ : Aside0 (w39.heap[gb260]? = some (.cells #[.int .i64 a0_0, .int .i64 a0_1] 23 (0, 0))) := ⟨h0_⟩
        have n1_ : Aside0 (w39.heap[gb261]? = some (.cells #[.int .i64 a1_0, .int .i64 a1_1] 23 (0, 0))) := ⟨h1_⟩
        have n2_ : Aside0 (w39.heap[gb262]? = some (.cells #[.int .i64 a2_0, .int .i64 a2_1] 23 (0, 0))) := ⟨h2_⟩
        have n3_ : Aside0 (w39.heap[gb263]? = some (.cells #[.int .i64 a3_0, .int .i64 a3_1] 23 (0, 0))) := ⟨h3_⟩
        have n4_ : Aside0 (w39.heap[gb275]? = some (.cells #[.int .i64 t272, .int .i64 t273] 29 (0, 0))) := ⟨h4_⟩
        have n5_ : Aside0 (w39.heap[gb287]? = some (.cells #[.int .i64 0, .int .i64 0] 29 (0, 0))) := ⟨h5_⟩
        have n6_ : Aside0 (w.heap.size ≤ gb287) := ⟨h6_⟩
        have n7_ : Aside0 (w.heap.size ≤ gb287) := ⟨h7_⟩
        have n8_ : Aside0 (gb260 ≠ gb287) := ⟨h8_⟩
        have n9_ : Aside0 (gb287 ≠ gb260) := ⟨h9_⟩
        have n10_ : Aside0 (gb261 ≠ gb287) := ⟨h10_⟩
        have n11_ : Aside0 (gb287 ≠ gb261) := ⟨h11_⟩
        have n12_ : Aside0 (gb262 ≠ gb287) := ⟨h12_⟩
        have n13_ : Aside0 (gb287 ≠ gb262) := ⟨h13_⟩
        have n14_ : Aside0 (gb263 ≠ gb287) := ⟨h14_⟩
        have n15_ : Aside0 (gb287 ≠ gb263) := ⟨h15_⟩
        have n16_ : Aside0 (gb275 ≠ gb287) := ⟨h16_⟩
        have n17_ : Aside0 (gb287 ≠ gb275) := ⟨h17_⟩
        have n18_ : Aside0 (Below w.heap.size w w39) := ⟨h18_⟩
        clear BK260
        clear BK261
        clear BK262
        clear BK263
        clear BK275
        clear HB
        clear h0_ h1_ h2_ h3_ h4_ h5_ h6_ h7_ h8_ h9_ h10_ h11_ h12_ h13_ h14_ h15_ h16_ h17_ h18_
        have BK260 := n0_
        have BK261 := n1_
        have BK262 := n2_
        have BK263 := n3_
        have BK275 := n4_
        have BK287 := n5_
        have GW287 := n6_
        have GE287 := n7_
        have NB260_287 := n8_
        have NB287_260 := n9_
        have NB261_287 := n10_
        have NB287_261 := n11_
        have NB262_287 := n12_
        have NB287_262 := n13_
        have NB263_287 := n14_
        have NB287_263 := n15_
        have NB275_287 := n16_
        have NB287_275 := n17_
        have HB := n18_
        clear n0_ n1_ n2_ n3_ n4_ n5_ n6_ n7_ n8_ n9_ n10_ n11_ n12_ n13_ n14_ n15_ n16_ n17_ n18_
        have hHeld : w39.cell? ⟨gb260, 0, none⟩ = some (.int .i64 a0_0) ∧ w39.cell? ⟨gb260, 1, none⟩ = some (.int .i64 a0_1) ∧ w39.cell? ⟨gb261, 0, none⟩ = some (.int .i64 a1_0) ∧ w39.cell? ⟨gb261, 1, none⟩ = some (.int .i64 a1_1) ∧ w39.cell? ⟨gb262, 0, none⟩ = some (.int .i64 a2_0) ∧ w39.cell? ⟨gb262, 1, none⟩ = some (.int .i64 a2_1) ∧ w39.cell? ⟨gb263, 0, none⟩ = some (.int .i64 a3_0) ∧ w39.cell? ⟨gb263, 1, none⟩ = some (.int .i64 a3_1) := hS_
        refine norm_ (a' := ?_) ?_ ?_
        rotate_left
        · simp only [putAll, Act.put, List.setIfInBounds_toArray, List.set_cons_zero, List.set_cons_succ]
          rfl
        refine one_ (i := 8) (N := some 34) #[true,true,true,true,true,true,true,true,true,false,false,false,true,false,false] rfl rfl (one_of HT_.out (by kernel_rfl)) (by decide) (fun K hK => ?_)
        refine goes_ Try.func18 (by kernel_rfl) rfl #[.agg #[.int .i64 t276, .int .i64 t277], .agg #[.int .i64 t278, .int .i64 t279], .agg #[.int .i64 t280, .int .i64 t281], .agg #[.int .i64 t282, .int .i64 t283]] (by rfl) rfl rfl al ?_
        with_reducible refine (impl_CrossOf.calls k t276 t277 t278 t279 t280 t281 t282 t283 t284 t285 t286 _ A14.out).mono ?_
        rintro e w40 ⟨rfl, hb⟩
        refine ⟨_, rfl, ?_⟩
        have n0_ := Aside0.mk (blk_below (bf BK260.out) hb)
        have n1_ := Aside0.mk (blk_below (bf BK261.out) hb)
        have n2_ := Aside0.mk (blk_below (bf BK262.out) hb)
        have n3_ := Aside0.mk (blk_below (bf BK263.out) hb)
        have n4_ := Aside0.mk (blk_below (bf BK275.out) hb)
        have n5_ := Aside0.mk (blk_below (bf BK287.out) hb)
        have n6_ := Aside0.mk (below_step (lb HB.out) hb)
        clear BK260
        clear BK261
        clear BK262
        clear BK263
        clear BK275
        clear BK287
        clear HB
        have BK260 := n0_
        have BK261 := n1_
        have BK262 := n2_
        have BK263 := n3_
        have BK275 := n4_
        have BK287 := n5_
        have HB := n6_
        clear n0_ n1_ n2_ n3_ n4_ n5_ n6_
        (try clear hb)
        (try clear hb2)
        (try clear hk)
        (try clear hi)
        refine hK.out _ _ ⟨(blk_cell BK260.out 0).trans rfl, (blk_cell BK260.out 1).trans rfl, (blk_cell BK261.out 0).trans rfl, (blk_cell BK261.out 1).trans rfl, (blk_cell BK262.out 0).trans rfl, (blk_cell BK262.out 1).trans rfl, (blk_cell BK263.out 0).trans rfl, (blk_cell BK263.out 1).trans rfl⟩ (fun hHeld => ?_)
        clear hK K
        refine norm_ (a' := ?_) ?_ ?_
        rotate_left
        · show Act.put _ (some 34) _ = _
          simp only [Act.put, List.setIfInBounds_toArray, List.set_cons_zero, List.set_cons_succ, i64_w, i32_w]
          rfl
        refine pure_ (i := 9) (N := some 25) (v := ?_) (a' := ?_) #[true,true,true,true,true,true,true,true,true,true,false,false,true,false,false] rfl rfl (any_of HT_.out (by kernel_rfl)) (fun _ _ _ h => h) (Or.inl ⟨by rfl, ?_⟩) ?_ ?_
        rotate_left
        · intro w'
          go_simp
          with_reducible rfl
        rotate_left
        · simp only [Act.put, List.setIfInBounds_toArray, List.set_cons_zero, List.set_cons_succ, i64_w, i32_w]
          rfl
        refine pure_ (i := 10) (N := some 35) (v := ?_) (a' := ?_) #[true,true,true,true,true,true,true,true,true,true,true,false,true,false,false] rfl rfl (any_of HT_.out (by kernel_rfl)) (fun _ _ _ h => h) (Or.inl ⟨by rfl, ?_⟩) ?_ ?_
        rotate_left
        · intro w'
          go_simp
          with_reducible rfl
        rotate_left
        · simp only [Act.put, List.setIfInBounds_toArray, List.set_cons_zero, List.set_cons_succ, i64_w, i32_w]
          rfl
        refine pure_ (i := 11) (N := some 36) (v := ?_) (a' := ?_) #[true,true,true,true,true,true,true,true,true,true,true,true,true,false,false] rfl rfl (any_of HT_.out (by kernel_rfl)) (fun _ _ _ h => h) (Or.inl ⟨by rfl, ?_⟩) ?_ ?_
        rotate_left
        · intro w'
          go_simp
          with_reducible rfl
        rotate_left
        · simp only [Act.put, List.setIfInBounds_toArray, List.set_cons_zero, List.set_cons_succ, i64_w, i32_w]
          rfl
        exact norm_ (by first | (simp only [putAll, Act.put, List.setIfInBounds_toArray, List.set_cons_zero, List.set_cons_succ]; done) | (simp only [putAll, Act.put, List.setIfInBounds_toArray, List.set_cons_zero, List.set_cons_succ]; rfl)) (hJ1_3_5_7_8_12 (gb287) _ ⟨hHeld, (bf BK260.out), (bf BK261.out), (bf BK262.out), (bf BK263.out), (bf BK275.out), (bf BK287.out), GW287.out, GE287.out, NB260_287.out, NB287_260.out, NB261_287.out, NB287_261.out, NB262_287.out, NB287_262.out, NB263_287.out, NB287_263.out, NB275_287.out, NB287_275.out, (lb HB.out)⟩)
    · skip
      rintro _ w39 ⟨hS_, h0_, h1_, h2_, h3_, h4_, h5_⟩
      have n0_ : Aside0 (w39.heap[gb260]? = some (.cells #[.int .i64 a0_0, .int .i64 a0_1] 23 (0, 0))) := ⟨h0_⟩
      have n1_ : Aside0 (w39.heap[gb261]? = some (.cells #[.int .i64 a1_0, .int .i64 a1_1] 23 (0, 0))) := ⟨h1_⟩
      have n2_ : Aside0 (w39.heap[gb262]? = some (.cells #[.int .i64 a2_0, .int .i64 a2_1] 23 (0, 0))) := ⟨h2_⟩
      have n3_ : Aside0 (w39.heap[gb263]? = some (.cells #[.int .i64 a3_0, .int .i64 a3_1] 23 (0, 0))) := ⟨h3_⟩
      have n4_ : Aside0 (w39.heap[gb275]? = some (.cells #[.int .i64 t272, .int .i64 t273] 29 (0, 0))) := ⟨h4_⟩
      have n5_ : Aside0 (Below w.heap.size w w39) := ⟨h5_⟩
      clear BK260
      clear BK261
      clear BK262
      clear BK263
      clear BK275
      clear HB
      clear h0_ h1_ h2_ h3_ h4_ h5_
      have BK260 := n0_
      have BK261 := n1_
      have BK262 := n2_
      have BK263 := n3_
      have BK275 := n4_
      have HB := n5_
      clear n0_ n1_ n2_ n3_ n4_ n5_
      have hHeld : w39.cell? ⟨gb260, 0, none⟩ = some (.int .i64 a0_0) ∧ w39.cell? ⟨gb260, 1, none⟩ = some (.int .i64 a0_1) ∧ w39.cell? ⟨gb261, 0, none⟩ = some (.int .i64 a1_0) ∧ w39.cell? ⟨gb261, 1, none⟩ = some (.int .i64 a1_1) ∧ w39.cell? ⟨gb262, 0, none⟩ = some (.int .i64 a2_0) ∧ w39.cell? ⟨gb262, 1, none⟩ = some (.int .i64 a2_1) ∧ w39.cell? ⟨gb263, 0, none⟩ = some (.int .i64 a3_0) ∧ w39.cell? ⟨gb263, 1, none⟩ = some (.int .i64 a3_1) := hS_
      refine norm_ (a' := ?_) ?_ ?_
      rotate_left
      · simp only [putAll, Act.put, List.setIfInBounds_toArray, List.set_cons_zero, List.set_cons_succ]
        rfl
      refine one_ (i := 12) (N := some 11) #[true,true,true,true,true,true,true,true,true,true,true,true,true,false,false] rfl rfl (one_of HT_.out (by kernel_rfl)) (by decide) (fun K hK => ?_)
      refine box_step ?hg (N := 11) ?hd (cs := #[.int .i64 0, .int .i64 0]) (t := 29) ?hr ?_; (case hd => rfl); (case hg => rfl); (case hr => first | (go_simp; done) | (go_simp; rfl))
      intro gb287 hg w40 hbox hb
      have n0_ := Aside0.mk (blk_below (bf BK260.out) hb)
      have n1_ := Aside0.mk (blk_below (bf BK261.out) hb)
      have n2_ := Aside0.mk (blk_below (bf BK262.out) hb)
      have n3_ := Aside0.mk (blk_below (bf BK263.out) hb)
      have n4_ := Aside0.mk (blk_below (bf BK275.out) hb)
      have n5_ := Aside0.mk (below_step (lb HB.out) hb)
      have n6_ := Aside0.mk (hbox)
      have n7_ := Aside0.mk ((by rw [hg]; exact (below_size (lb HB.out)) : w.heap.size ≤ gb287))
      have n8_ := Aside0.mk ((by rw [hg]; exact (below_size (lb HB.out)) : w.heap.size ≤ gb287))
      have n9_ := Aside0.mk ((by rw [hg]; exact Nat.ne_of_lt (blk_lt (bf BK260.out)) : gb260 ≠ gb287))
      have n10_ := Aside0.mk ((by rw [hg]; exact Nat.ne_of_gt (blk_lt (bf BK260.out)) : gb287 ≠ gb260))
      have n11_ := Aside0.mk ((by rw [hg]; exact Nat.ne_of_lt (blk_lt (bf BK261.out)) : gb261 ≠ gb287))
      have n12_ := Aside0.mk ((by rw [hg]; exact Nat.ne_of_gt (blk_lt (bf BK261.out)) : gb287 ≠ gb261))
      have n13_ := Aside0.mk ((by rw [hg]; exact Nat.ne_of_lt (blk_lt (bf BK262.out)) : gb262 ≠ gb287))
      have n14_ := Aside0.mk ((by rw [hg]; exact Nat.ne_of_gt (blk_lt (bf BK262.out)) : gb287 ≠ gb262))
      have n15_ := Aside0.mk ((by rw [hg]; exact Nat.ne_of_lt (blk_lt (bf BK263.out)) : gb263 ≠ gb287))
      have n16_ := Aside0.mk ((by rw [hg]; exact Nat.ne_of_gt (blk_lt (bf BK263.out)) : gb287 ≠ gb263))
      have n17_ := Aside0.mk ((by rw [hg]; exact Nat.ne_of_lt (blk_lt (bf BK275.out)) : gb275 ≠ gb287))
      have n18_ := Aside0.mk ((by rw [hg]; exact Nat.ne_of_gt (blk_lt (bf BK275.out)) : gb287 ≠ gb275))
      clear BK260
      clear BK261
      clear BK262
      clear BK263
      clear BK275
      clear HB
      have BK260 := n0_
      have BK261 := n1_
      have BK262 := n2_
      have BK263 := n3_
      have BK275 := n4_
      have HB := n5_
      have BK287 := n6_
      have GW287 := n7_
      have GE287 := n8_
      have NB260_287 := n9_
      have NB287_260 := n10_
      have NB261_287 := n11_
      have NB287_261 := n12_
      have NB262_287 := n13_
      have NB287_262 := n14_
      have NB263_287 := n15_
      have NB287_263 := n16_
      have NB275_287 := n17_
      have NB287_275 := n18_
      clear n0_ n1_ n2_ n3_ n4_ n5_ n6_ n7_ n8_ n9_ n10_ n11_ n12_ n13_ n14_ n15_ n16_ n17_ n18_
      clear hb hbox hg
      refine hK.out _ _ ⟨(blk_cell BK260.out 0).trans rfl, (blk_cell BK260.out 1).trans rfl, (blk_cell BK261.out 0).trans rfl, (blk_cell BK261.out 1).trans rfl, (blk_cell BK262.out 0).trans rfl, (blk_cell BK262.out 1).trans rfl, (blk_cell BK263.out 0).trans rfl, (blk_cell BK263.out 1).trans rfl⟩ (fun hHeld => ?_)
      clear hK K
      refine norm_ (a' := ?_) ?_ ?_
      rotate_left
      · show Act.put _ (some 11) _ = _
        simp only [Act.put, List.setIfInBounds_toArray, List.set_cons_zero, List.set_cons_succ, i64_w, i32_w]
        rfl
      exact norm_ (by first | (simp only [putAll, Act.put, List.setIfInBounds_toArray, List.set_cons_zero, List.set_cons_succ]; done) | (simp only [putAll, Act.put, List.setIfInBounds_toArray, List.set_cons_zero, List.set_cons_succ]; rfl)) (hJ1_3_5_7_8_12 (gb287) _ ⟨hHeld, (bf BK260.out), (bf BK261.out), (bf BK262.out), (bf BK263.out), (bf BK275.out), (bf BK287.out), GW287.out, GE287.out, NB260_287.out, NB287_260.out, NB261_287.out, NB287_261.out, NB262_287.out, NB287_262.out, NB263_287.out, NB287_263.out, NB275_287.out, NB287_275.out, (lb HB.out)⟩)
  rintro gb287 w40 ⟨hS_, h0_, h1_, h2_, h3_, h4_, h5_, h6_, h7_, h8_, h9_, h10_, h11_, h12_, h13_, h14_, h15_, h16_, h17_, h18_⟩
  have n0_ : Aside0 (w40.heap[gb260]? = some (.cells #[.int .i64 a0_0, .int .i64 a0_1] 23 (0, 0))) := ⟨h0_⟩
  have n1_ : Aside0 (w40.heap[gb261]? = some (.cells #[.int .i64 a1_0, .int .i64 a1_1] 23 (0, 0))) := ⟨h1_⟩
  have n2_ : Aside0 (w40.heap[gb262]? = some (.cells #[.int .i64 a2_0, .int .i64 a2_1] 23 (0, 0))) := ⟨h2_⟩
  have n3_ : Aside0 (w40.heap[gb263]? = some (.cells #[.int .i64 a3_0, .int .i64 a3_1] 23 (0, 0))) := ⟨h3_⟩
  have n4_ : Aside0 (w40.heap[gb275]? = some (.cells #[.int .i64 t272, .int .i64 t273] 29 (0, 0))) := ⟨h4_⟩
  have n5_ : Aside0 (w40.heap[gb287]? = some (.cells #[.int .i64 0, .int .i64 0] 29 (0, 0))) := ⟨h5_⟩
  have n6_ : Aside0 (w.heap.size ≤ gb287) := ⟨h6_⟩
  have n7_ : Aside0 (w.heap.size ≤ gb287) := ⟨h7_⟩
  have n8_ : Aside0 (gb260 ≠ gb287) := ⟨h8_⟩
  have n9_ : Aside0 (gb287 ≠ gb260) := ⟨h9_⟩
  have n10_ : Aside0 (gb261 ≠ gb287) := ⟨h10_⟩
  have n11_ : Aside0 (gb287 ≠ gb261) := ⟨h11_⟩
  have n12_ : Aside0 (gb262 ≠ gb287) := ⟨h12_⟩
  have n13_ : Aside0 (gb287 ≠ gb262) := ⟨h13_⟩
  have n14_ : Aside0 (gb263 ≠ gb287) := ⟨h14_⟩
  have n15_ : Aside0 (gb287 ≠ gb263) := ⟨h15_⟩
  have n16_ : Aside0 (gb275 ≠ gb287) := ⟨h16_⟩
  have n17_ : Aside0 (gb287 ≠ gb275) := ⟨h17_⟩
  have n18_ : Aside0 (Below w.heap.size w w40) := ⟨h18_⟩
  clear BK260
  clear BK261
  clear BK262
  clear BK263
  clear BK275
  clear HB
  clear h0_ h1_ h2_ h3_ h4_ h5_ h6_ h7_ h8_ h9_ h10_ h11_ h12_ h13_ h14_ h15_ h16_ h17_ h18_
  have BK260 := n0_
  have BK261 := n1_
  have BK262 := n2_
  have BK263 := n3_
  have BK275 := n4_
  have BK287 := n5_
  have GW287 := n6_
  have GE287 := n7_
  have NB260_287 := n8_
  have NB287_260 := n9_
  have NB261_287 := n10_
  have NB287_261 := n11_
  have NB262_287 := n12_
  have NB287_262 := n13_
  have NB263_287 := n14_
  have NB287_263 := n15_
  have NB275_287 := n16_
  have NB287_275 := n17_
  have HB := n18_
  clear n0_ n1_ n2_ n3_ n4_ n5_ n6_ n7_ n8_ n9_ n10_ n11_ n12_ n13_ n14_ n15_ n16_ n17_ n18_
  have hHeld : w40.cell? ⟨gb260, 0, none⟩ = some (.int .i64 a0_0) ∧ w40.cell? ⟨gb260, 1, none⟩ = some (.int .i64 a0_1) ∧ w40.cell? ⟨gb261, 0, none⟩ = some (.int .i64 a1_0) ∧ w40.cell? ⟨gb261, 1, none⟩ = some (.int .i64 a1_1) ∧ w40.cell? ⟨gb262, 0, none⟩ = some (.int .i64 a2_0) ∧ w40.cell? ⟨gb262, 1, none⟩ = some (.int .i64 a2_1) ∧ w40.cell? ⟨gb263, 0, none⟩ = some (.int .i64 a3_0) ∧ w40.cell? ⟨gb263, 1, none⟩ = some (.int .i64 a3_1) := hS_
  refine norm_ (a' := ?_) ?_ ?_
  rotate_left
  · simp only [putAll, Act.put, List.setIfInBounds_toArray, List.set_cons_zero, List.set_cons_succ]
    rfl
  refine one_ (i := 13) (N := none) #[true,true,true,true,true,true,true,true,true,true,true,true,true,true,false] rfl rfl (one_of HT_.out (by kernel_rfl)) (by decide) (fun K hK => ?_)
  have hs41 : w40.cell? ⟨gb287, 0, none⟩ = some (.int .i64 0) := (blk_cell BK287.out 0).trans rfl
  have hfs41 := blk_frozen BK287.out 0
  have hns41_0 := NB260_287.out
  have hns41_1 := NB261_287.out
  have hns41_2 := NB262_287.out
  have hns41_3 := NB263_287.out
  have hns41_4 := NB275_287.out
  have hms41_0 := NB287_260.out
  have hms41_1 := NB287_261.out
  have hms41_2 := NB287_262.out
  have hms41_3 := NB287_263.out
  have hms41_4 := NB287_275.out
  have hs42 : w40.cell? ⟨gb287, 1, none⟩ = some (.int .i64 0) := (blk_cell BK287.out 1).trans rfl
  have hfs42 := blk_frozen BK287.out 1
  have hns42_0 := NB260_287.out
  have hns42_1 := NB261_287.out
  have hns42_2 := NB262_287.out
  have hns42_3 := NB263_287.out
  have hns42_4 := NB275_287.out
  have hms42_0 := NB287_260.out
  have hms42_1 := NB287_261.out
  have hms42_2 := NB287_262.out
  have hms42_3 := NB287_263.out
  have hms42_4 := NB287_275.out
  refine skip_ (w1 := ?_) (by rfl) rfl ?_ ?_
  rotate_left
  · go_simp
    rfl
  refine hK.out _ _ ⟨((cell_far (p := ⟨gb287, _, none⟩) NB260_287.out _).trans (((cell_far (p := ⟨gb287, _, none⟩) NB260_287.out _).trans (hHeld.1)))), ((cell_far (p := ⟨gb287, _, none⟩) NB260_287.out _).trans (((cell_far (p := ⟨gb287, _, none⟩) NB260_287.out _).trans (hHeld.2.1)))), ((cell_far (p := ⟨gb287, _, none⟩) NB261_287.out _).trans (((cell_far (p := ⟨gb287, _, none⟩) NB261_287.out _).trans (hHeld.2.2.1)))), ((cell_far (p := ⟨gb287, _, none⟩) NB261_287.out _).trans (((cell_far (p := ⟨gb287, _, none⟩) NB261_287.out _).trans (hHeld.2.2.2.1)))), ((cell_far (p := ⟨gb287, _, none⟩) NB262_287.out _).trans (((cell_far (p := ⟨gb287, _, none⟩) NB262_287.out _).trans (hHeld.2.2.2.2.1)))), ((cell_far (p := ⟨gb287, _, none⟩) NB262_287.out _).trans (((cell_far (p := ⟨gb287, _, none⟩) NB262_287.out _).trans (hHeld.2.2.2.2.2.1)))), ((cell_far (p := ⟨gb287, _, none⟩) NB263_287.out _).trans (((cell_far (p := ⟨gb287, _, none⟩) NB263_287.out _).trans (hHeld.2.2.2.2.2.2.1)))), ((cell_far (p := ⟨gb287, _, none⟩) NB263_287.out _).trans (((cell_far (p := ⟨gb287, _, none⟩) NB263_287.out _).trans (hHeld.2.2.2.2.2.2.2))))⟩ (fun hHeld => ?_)
  clear hK K
  refine pure_ (i := 14) (N := some 12) (v := ?_) (a' := ?_) #[true,true,true,true,true,true,true,true,true,true,true,true,true,true,true] rfl rfl (any_of HT_.out (by kernel_rfl)) (fun _ _ _ h => h) (Or.inl ⟨by rfl, ?_⟩) ?_ ?_
  rotate_left
  · intro w'
    go_simp
    with_reducible rfl
  rotate_left
  · simp only [Act.put, List.setIfInBounds_toArray, List.set_cons_zero, List.set_cons_succ, i64_w, i32_w]
    rfl
  refine done_ (done_of HT_.out (by kernel_rfl)) ?_
  have hnb43 := NB287_260.out
  have hnc43 := NB260_287.out
  have hnb44 := NB287_261.out
  have hnc44 := NB261_287.out
  have hnb45 := NB287_262.out
  have hnc45 := NB262_287.out
  have hnb46 := NB287_263.out
  have hnc46 := NB263_287.out
  have hnb47 := NB287_275.out
  have hnc47 := NB275_287.out
  have hcz48_0 : w40.cell? ⟨gb287, 0, none⟩ = some (.int .i64 0) := (blk_cell BK287.out 0).trans rfl
  have hcz48_1 : w40.cell? ⟨gb287, 1, none⟩ = some (.int .i64 0) := (blk_cell BK287.out 1).trans rfl
  have hfz48_0 := blk_frozen BK287.out 0
  have hfz48_1 := blk_frozen BK287.out 1
  have hnb49 := NB275_260.out
  have hnc49 := NB260_275.out
  have hnb50 := NB275_261.out
  have hnc50 := NB261_275.out
  have hnb51 := NB275_262.out
  have hnc51 := NB262_275.out
  have hnb52 := NB275_263.out
  have hnc52 := NB263_275.out
  have hcz53_0 : w40.cell? ⟨gb275, 0, none⟩ = some (.int .i64 t272) := (blk_cell BK275.out 0).trans rfl
  have hcz53_1 : w40.cell? ⟨gb275, 1, none⟩ = some (.int .i64 t273) := (blk_cell BK275.out 1).trans rfl
  have hfz53_0 := blk_frozen BK275.out 0
  have hfz53_1 := blk_frozen BK275.out 1
  by_cases c16 : t288 = true
  · subst c16
    have H1 : (if (t286 != t274) = true then (some false) else (some true)) = some r := by rw [if_pos rfl] at H; exact H
    clear H
    have H := H1
    clear H1
    by_cases c17 : (t286 != t274) = true
    · rw [if_pos c17] at H
      have c17b0 : (t286 != t274) = true := c17
      (try (have c17b1 : decide (t286 = t274) = false := by simpa using c17))
      (try (have c17b2 : (t286 == t274) = false := by simpa using c17))
      (try (have c17b3 : ¬ (t286 = t274) := by simpa using c17))
      clear c17
      obtain rfl := Option.some.inj H
      try go_wp2_with (first | ((with_reducible refine gate_callee (f := 19) rfl ?_); refine goesL_ (some 39) rfl rfl Try.func19 (by kernel_rfl) rfl #[.agg #[.int .i64 t284, .int .i64 t285], .agg #[.int .i64 t272, .int .i64 t273]] rfl al ?_; (with_reducible refine (laws_eqQuo.calls t284 t285 t272 t273 true _ A15.out).mono ?_); rintro e w54 ⟨rfl, hb⟩; refine ⟨_, rfl, ?_⟩; have n0_ := Aside0.mk (blk_below (bf BK260.out) hb); have n1_ := Aside0.mk (blk_below (bf BK261.out) hb); have n2_ := Aside0.mk (blk_below (bf BK262.out) hb); have n3_ := Aside0.mk (blk_below (bf BK263.out) hb); have n4_ := Aside0.mk (blk_below (bf BK275.out) hb); have n5_ := Aside0.mk (blk_below (g := gb287) (o := .cells #[.int .i64 t284, .int .i64 t285] 29 (0, 0)) (by (with_reducible repeat (first | refine blk_drewN ?_ _ | refine blk_drew ?_ | refine blk_alloc ?_ _)); refine blk_put (cs := #[.int .i64 t284, .int .i64 0]) ?_ 1 _ rfl; (with_reducible repeat (first | refine blk_drewN ?_ _ | refine blk_drew ?_ | refine blk_alloc ?_ _)); refine blk_put (cs := #[.int .i64 0, .int .i64 0]) ?_ 0 _ rfl; (with_reducible repeat (first | refine blk_drewN ?_ _ | refine blk_drew ?_ | refine blk_alloc ?_ _)); exact BK287.out) hb); have n6_ := Aside0.mk (below_step (lb HB.out) hb); clear BK260; clear BK261; clear BK262; clear BK263; clear BK275; clear BK287; clear HB; have BK260 := n0_; have BK261 := n1_; have BK262 := n2_; have BK263 := n3_; have BK275 := n4_; have BK287 := n5_; have HB := n6_; clear n0_ n1_ n2_ n3_ n4_ n5_ n6_; (try clear hb); (try clear hb2); (try clear hk); (try clear hi)))
      go_ret
      exact ⟨er, lb HB.out⟩
    · rw [if_neg c17] at H
      have c17b0 : (t286 != t274) = false := by simpa using c17
      (try (have c17b1 : decide (t286 = t274) = true := by simpa using c17))
      (try (have c17b2 : (t286 == t274) = true := by simpa using c17))
      clear c17
      obtain rfl := Option.some.inj H
      try go_wp2_with (first | ((with_reducible refine gate_callee (f := 19) rfl ?_); refine goesL_ (some 39) rfl rfl Try.func19 (by kernel_rfl) rfl #[.agg #[.int .i64 t284, .int .i64 t285], .agg #[.int .i64 t272, .int .i64 t273]] rfl al ?_; (with_reducible refine (laws_eqQuo.calls t284 t285 t272 t273 true _ A15.out).mono ?_); rintro e w91 ⟨rfl, hb⟩; refine ⟨_, rfl, ?_⟩; have n0_ := Aside0.mk (blk_below (bf BK260.out) hb); have n1_ := Aside0.mk (blk_below (bf BK261.out) hb); have n2_ := Aside0.mk (blk_below (bf BK262.out) hb); have n3_ := Aside0.mk (blk_below (bf BK263.out) hb); have n4_ := Aside0.mk (blk_below (bf BK275.out) hb); have n5_ := Aside0.mk (blk_below (g := gb287) (o := .cells #[.int .i64 t284, .int .i64 t285] 29 (0, 0)) (by (with_reducible repeat (first | refine blk_drewN ?_ _ | refine blk_drew ?_ | refine blk_alloc ?_ _)); refine blk_put (cs := #[.int .i64 t284, .int .i64 0]) ?_ 1 _ rfl; (with_reducible repeat (first | refine blk_drewN ?_ _ | refine blk_drew ?_ | refine blk_alloc ?_ _)); refine blk_put (cs := #[.int .i64 0, .int .i64 0]) ?_ 0 _ rfl; (with_reducible repeat (first | refine blk_drewN ?_ _ | refine blk_drew ?_ | refine blk_alloc ?_ _)); exact BK287.out) hb); have n6_ := Aside0.mk (below_step (lb HB.out) hb); clear BK260; clear BK261; clear BK262; clear BK263; clear BK275; clear BK287; clear HB; have BK260 := n0_; have BK261 := n1_; have BK262 := n2_; have BK263 := n3_; have BK275 := n4_; have BK287 := n5_; have HB := n6_; clear n0_ n1_ n2_ n3_ n4_ n5_ n6_; (try clear hb); (try clear hb2); (try clear hk); (try clear hi)))
      go_ret
      exact ⟨er, lb HB.out⟩
  · replace c16 := Bool.eq_false_iff.mpr c16
    subst c16
    have H1 : (some false) = some r := by rw [if_neg (show ¬ (false = true) by decide)] at H; exact H
    clear H
    have H := H1
    clear H1
    obtain rfl := Option.some.inj H
    try go_wp2_with (first | ((with_reducible refine gate_callee (f := 19) rfl ?_); refine goesL_ (some 39) rfl rfl Try.func19 (by kernel_rfl) rfl #[.agg #[.int .i64 t284, .int .i64 t285], .agg #[.int .i64 t272, .int .i64 t273]] rfl al ?_; (with_reducible refine (laws_eqQuo.calls t284 t285 t272 t273 false _ A15.out).mono ?_); rintro e w128 ⟨rfl, hb⟩; refine ⟨_, rfl, ?_⟩; have n0_ := Aside0.mk (blk_below (bf BK260.out) hb); have n1_ := Aside0.mk (blk_below (bf BK261.out) hb); have n2_ := Aside0.mk (blk_below (bf BK262.out) hb); have n3_ := Aside0.mk (blk_below (bf BK263.out) hb); have n4_ := Aside0.mk (blk_below (bf BK275.out) hb); have n5_ := Aside0.mk (blk_below (g := gb287) (o := .cells #[.int .i64 t284, .int .i64 t285] 29 (0, 0)) (by (with_reducible repeat (first | refine blk_drewN ?_ _ | refine blk_drew ?_ | refine blk_alloc ?_ _)); refine blk_put (cs := #[.int .i64 t284, .int .i64 0]) ?_ 1 _ rfl; (with_reducible repeat (first | refine blk_drewN ?_ _ | refine blk_drew ?_ | refine blk_alloc ?_ _)); refine blk_put (cs := #[.int .i64 0, .int .i64 0]) ?_ 0 _ rfl; (with_reducible repeat (first | refine blk_drewN ?_ _ | refine blk_drew ?_ | refine blk_alloc ?_ _)); exact BK287.out) hb); have n6_ := Aside0.mk (below_step (lb HB.out) hb); clear BK260; clear BK261; clear BK262; clear BK263; clear BK275; clear BK287; clear HB; have BK260 := n0_; have BK261 := n1_; have BK262 := n2_; have BK263 := n3_; have BK275 := n4_; have BK287 := n5_; have HB := n6_; clear n0_ n1_ n2_ n3_ n4_ n5_ n6_; (try clear hb); (try clear hb2); (try clear hk); (try clear hi)))
    go_ret
    exact ⟨er, lb HB.out⟩

/-- THE ONE PURE STATEMENT of laws_FnExactCrossOf: yours. -/
def laws_FnExactCrossOf.Pure : Prop := ∀ (a0_0 : Int) (a0_1 : Int) (a1_0 : Int) (a1_1 : Int) (a2_0 : Int) (a2_1 : Int) (a3_0 : Int) (a3_1 : Int), (Lit.int .i64 a0_0).wf = true → (Lit.int .i64 a0_1).wf = true → (Lit.int .i64 a1_0).wf = true → (Lit.int .i64 a1_1).wf = true → (Lit.int .i64 a2_0).wf = true → (Lit.int .i64 a2_1).wf = true → (Lit.int .i64 a3_0).wf = true → (Lit.int .i64 a3_1).wf = true → ∃ k, laws_FnExactCrossOf.f k a0_0 a0_1 a1_0 a1_1 a2_0 a2_1 a3_0 a3_1 = some true

end Go.Proofs.Ytgoejfdciejikaa.P

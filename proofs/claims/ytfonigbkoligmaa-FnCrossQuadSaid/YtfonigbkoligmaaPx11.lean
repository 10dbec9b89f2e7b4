import Derived.Test.YtfonigbkoligmaaPx0
import Derived.Test.YtfonigbkoligmaaPx2
import Derived.Test.YtfonigbkoligmaaPx4
import Derived.Test.YtfonigbkoligmaaPx6
import Derived.Test.YtfonigbkoligmaaPx7
import Derived.Test.YtfonigbkoligmaaPx9
import Derived.Test.YtfonigbkoligmaaPx10
namespace Go.Proofs.Ytfonigbkoligmaa.P
open Go.RowKit Go.Proofs.YtfonigbkoligmaaW.PrintWords Go.Proofs.YtfonigbkoligmaaW.PrintLast Go.Proofs.YtfonigbkoligmaaW.PrintMore
attribute [local go_sem] max2_int min2_int max_two min_two max_three min_three max_four min_four
set_option linter.unusedVariables false
set_option linter.unusedSimpArgs false
mutual
def laws_FnCrossQuad.j0 : Nat → Bool → Bool → Bool → Int → Int → Int → Int → Int → Int → Int → Int → Option (Bool)
 | 0, _, _, _, _, _, _, _, _, _, _, _ => none
 | k + 1, x7, x8, x44, x356000, x356001, x357000, x357001, x358000, x358001, x359000, x359001 => if x44 = true then (some (x7 == x8)) else ((impl_PointOn.f k x356000 x356001 x357000 x357001 x358000 x358001).bind fun t361 => (if t361 = true then (laws_FnCrossQuad.j1 k true x356000 x356001 x357000 x357001 x358000 x358001 x359000 x359001) else ((impl_PointOn.f k x356000 x356001 x357000 x357001 x359000 x359001).bind fun t362 => (if t362 = true then (laws_FnCrossQuad.j1 k true x356000 x356001 x357000 x357001 x358000 x358001 x359000 x359001) else ((impl_PointOn.f k x358000 x358001 x359000 x359001 x356000 x356001).bind fun t363 => (if t363 = true then (laws_FnCrossQuad.j1 k true x356000 x356001 x357000 x357001 x358000 x358001 x359000 x359001) else ((impl_PointOn.f k x358000 x358001 x359000 x359001 x357000 x357001).bind fun t364 => (laws_FnCrossQuad.j1 k t364 x356000 x356001 x357000 x357001 x358000 x358001 x359000 x359001))))))))
def laws_FnCrossQuad.j1 : Nat → Bool → Int → Int → Int → Int → Int → Int → Int → Int → Option (Bool)
 | 0, _, _, _, _, _, _, _, _, _ => none
 | k + 1, x9, x356000, x356001, x357000, x357001, x358000, x358001, x359000, x359001 => if x9 = true then ((impl_CrossInner.f x356000 x356001 x357000 x357001 x359000 x359001 x358000 x358001).bind fun t365 => (some t365)) else ((some (([(⟨x356000, x356001⟩ : S33), (⟨x358000, x358001⟩ : S33), (⟨x357000, x357001⟩ : S33), (⟨x359000, x359001⟩ : S33)] : List (S33)) : List (S33))).bind fun y366 => ((impl_PolyArea.f y366).bind fun bt369 => (if bt369.1 < 0 then ((impl_PolyBack.f k y366).bind fun bt371 => (if bt369.2 = true then (laws_FnCrossQuad.j2 k y366 bt371.2 bt371.1 x356000 x356001 x357000 x357001 x358000 x358001 x359000 x359001) else (laws_FnCrossQuad.j2 k y366 false bt371.1 x356000 x356001 x357000 x357001 x358000 x358001 x359000 x359001))) else (laws_FnCrossQuad.j2 k y366 bt369.2 y366 x356000 x356001 x357000 x357001 x358000 x358001 x359000 x359001))))
def laws_FnCrossQuad.j2 : Nat → List (S33) → Bool → List (S33) → Int → Int → Int → Int → Int → Int → Int → Int → Option (Bool)
 | 0, _, _, _, _, _, _, _, _, _, _, _ => none
 | k + 1, x10, x12, x13, x356000, x356001, x357000, x357001, x358000, x358001, x359000, x359001 => (impl_ParcelShare.f k x13 0 2).bind fun bt375 => (if x12 = true then ((impl_PolyValid.f x10).bind fun t379 => (if t379 = true then ((impl_PolyConvex.f x10).bind fun t380 => (if t380 = true then ((impl_PolyValid.f (([(⟨x356000, x356001⟩ : S33), (⟨x357000, x357001⟩ : S33), (⟨x358000, x358001⟩ : S33), (⟨x359000, x359001⟩ : S33)] : List (S33)))).bind fun t384 => (if t384 = true then (some false) else (if bt375.2.2 = true then (if bt375.1 > 0 then (some (decide (bt375.1 < bt375.2.1))) else (some false)) else (some true)))) else (some false))) else (some false))) else (some false))
end
def laws_FnCrossQuad.f (k : Nat) (l0 : List Int) : Option (Bool) := if (l0.length : Int) > 1048576 then (some true) else ((spec_DrawCrossInner.f k l0).bind fun bt347 => ((impl_CrossInner.f bt347.1 bt347.2.1 bt347.2.2.1 bt347.2.2.2.1 bt347.2.2.2.2.1 bt347.2.2.2.2.2.1 bt347.2.2.2.2.2.2.1 bt347.2.2.2.2.2.2.2).bind fun t359 => ((spec_CrossInner.f k bt347.1 bt347.2.1 bt347.2.2.1 bt347.2.2.2.1 bt347.2.2.2.2.1 bt347.2.2.2.2.2.1 bt347.2.2.2.2.2.2.1 bt347.2.2.2.2.2.2.2).bind fun t360 => (if (t359 != t360) = true then (laws_FnCrossQuad.j0 k t359 t360 true bt347.1 bt347.2.1 bt347.2.2.1 bt347.2.2.2.1 bt347.2.2.2.2.1 bt347.2.2.2.2.2.1 bt347.2.2.2.2.2.2.1 bt347.2.2.2.2.2.2.2) else (laws_FnCrossQuad.j0 k t359 t360 (!t359) bt347.1 bt347.2.1 bt347.2.2.1 bt347.2.2.2.1 bt347.2.2.2.2.1 bt347.2.2.2.2.2.1 bt347.2.2.2.2.2.2.1 bt347.2.2.2.2.2.2.2)))))
theorem laws_FnCrossQuad.mono_l : ∀ k, (∀ y0 y1 y2 y3 y4 y5 y6 y7 y8 y9 y10, LeO (laws_FnCrossQuad.j0 k y0 y1 y2 y3 y4 y5 y6 y7 y8 y9 y10) (laws_FnCrossQuad.j0 (k + 1) y0 y1 y2 y3 y4 y5 y6 y7 y8 y9 y10)) ∧ (∀ y0 y1 y2 y3 y4 y5 y6 y7 y8, LeO (laws_FnCrossQuad.j1 k y0 y1 y2 y3 y4 y5 y6 y7 y8) (laws_FnCrossQuad.j1 (k + 1) y0 y1 y2 y3 y4 y5 y6 y7 y8)) ∧ (∀ y0 y1 y2 y3 y4 y5 y6 y7 y8 y9 y10, LeO (laws_FnCrossQuad.j2 k y0 y1 y2 y3 y4 y5 y6 y7 y8 y9 y10) (laws_FnCrossQuad.j2 (k + 1) y0 y1 y2 y3 y4 y5 y6 y7 y8 y9 y10))
 | 0 => ⟨fun _ _ _ _ _ _ _ _ _ _ _ r h => by simp [laws_FnCrossQuad.j0] at h, fun _ _ _ _ _ _ _ _ _ r h => by simp [laws_FnCrossQuad.j1] at h, fun _ _ _ _ _ _ _ _ _ _ _ r h => by simp [laws_FnCrossQuad.j2] at h⟩
 | k + 1 => by
  obtain ⟨ih0, ih1, ih2⟩ := laws_FnCrossQuad.mono_l k
  refine ⟨?_, ?_, ?_⟩
  ·intro y0 y1 y2 y3 y4 y5 y6 y7 y8 y9 y10
   unfold laws_FnCrossQuad.j0
   repeat' first
   | (with_reducible exact ih0 _ _ _ _ _ _ _ _ _ _ _)
   | (with_reducible exact ih1 _ _ _ _ _ _ _ _ _)
   | (with_reducible exact ih2 _ _ _ _ _ _ _ _ _ _ _)
   | (with_reducible exact impl_ParcelShare.mono _ _ _ _)
   | (with_reducible exact impl_PointOn.mono _ _ _ _ _ _ _)
   | (with_reducible exact impl_PolyBack.mono _ _)
   | (with_reducible exact spec_CrossInner.mono _ _ _ _ _ _ _ _ _)
   | (with_reducible exact spec_DrawCrossInner.mono _ _)
   | (with_reducible exact LeO.refl _)
   | (with_reducible exact LeO.none _)
   | (with_reducible refine LeO.ite ?_ ?_)
   | (with_reducible refine LeO.bind ?_ (fun _ => ?_))
   | exact ih0 _ _ _ _ _ _ _ _ _ _ _
   | exact ih1 _ _ _ _ _ _ _ _ _
   | exact ih2 _ _ _ _ _ _ _ _ _ _ _
   | exact impl_ParcelShare.mono _ _ _ _
   | exact impl_PointOn.mono _ _ _ _ _ _ _
   | exact impl_PolyBack.mono _ _
   | exact spec_CrossInner.mono _ _ _ _ _ _ _ _ _
   | exact spec_DrawCrossInner.mono _ _
   | exact LeO.none _
   | refine LeO.ite ?_ ?_
   | refine LeO.bind ?_ (fun _ => ?_)
  ·intro y0 y1 y2 y3 y4 y5 y6 y7 y8
   unfold laws_FnCrossQuad.j1
   repeat' first
   | (with_reducible exact ih0 _ _ _ _ _ _ _ _ _ _ _)
   | (with_reducible exact ih1 _ _ _ _ _ _ _ _ _)
   | (with_reducible exact ih2 _ _ _ _ _ _ _ _ _ _ _)
   | (with_reducible exact impl_ParcelShare.mono _ _ _ _)
   | (with_reducible exact impl_PointOn.mono _ _ _ _ _ _ _)
   | (with_reducible exact impl_PolyBack.mono _ _)
   | (with_reducible exact spec_CrossInner.mono _ _ _ _ _ _ _ _ _)
   | (with_reducible exact spec_DrawCrossInner.mono _ _)
   | (with_reducible exact LeO.refl _)
   | (with_reducible exact LeO.none _)
   | (with_reducible refine LeO.ite ?_ ?_)
   | (with_reducible refine LeO.bind ?_ (fun _ => ?_))
   | exact ih0 _ _ _ _ _ _ _ _ _ _ _
   | exact ih1 _ _ _ _ _ _ _ _ _
   | exact ih2 _ _ _ _ _ _ _ _ _ _ _
   | exact impl_ParcelShare.mono _ _ _ _
   | exact impl_PointOn.mono _ _ _ _ _ _ _
   | exact impl_PolyBack.mono _ _
   | exact spec_CrossInner.mono _ _ _ _ _ _ _ _ _
   | exact spec_DrawCrossInner.mono _ _
   | exact LeO.none _
   | refine LeO.ite ?_ ?_
   | refine LeO.bind ?_ (fun _ => ?_)
  ·intro y0 y1 y2 y3 y4 y5 y6 y7 y8 y9 y10
   unfold laws_FnCrossQuad.j2
   repeat' first
   | (with_reducible exact ih0 _ _ _ _ _ _ _ _ _ _ _)
   | (with_reducible exact ih1 _ _ _ _ _ _ _ _ _)
   | (with_reducible exact ih2 _ _ _ _ _ _ _ _ _ _ _)
   | (with_reducible exact impl_ParcelShare.mono _ _ _ _)
   | (with_reducible exact impl_PointOn.mono _ _ _ _ _ _ _)
   | (with_reducible exact impl_PolyBack.mono _ _)
   | (with_reducible exact spec_CrossInner.mono _ _ _ _ _ _ _ _ _)
   | (with_reducible exact spec_DrawCrossInner.mono _ _)
   | (with_reducible exact LeO.refl _)
   | (with_reducible exact LeO.none _)
   | (with_reducible refine LeO.ite ?_ ?_)
   | (with_reducible refine LeO.bind ?_ (fun _ => ?_))
   | exact ih0 _ _ _ _ _ _ _ _ _ _ _
   | exact ih1 _ _ _ _ _ _ _ _ _
   | exact ih2 _ _ _ _ _ _ _ _ _ _ _
   | exact impl_ParcelShare.mono _ _ _ _
   | exact impl_PointOn.mono _ _ _ _ _ _ _
   | exact impl_PolyBack.mono _ _
   | exact spec_CrossInner.mono _ _ _ _ _ _ _ _ _
   | exact spec_DrawCrossInner.mono _ _
   | exact LeO.none _
   | refine LeO.ite ?_ ?_
   | refine LeO.bind ?_ (fun _ => ?_)
theorem laws_FnCrossQuad.mono : ∀ a0 k, LeO (laws_FnCrossQuad.f k a0) (laws_FnCrossQuad.f (k + 1) a0) := by
 intro a0 k
 obtain ⟨ih0, ih1, ih2⟩ := laws_FnCrossQuad.mono_l k
 unfold laws_FnCrossQuad.f
 repeat' first
   | (with_reducible exact ih0 _ _ _ _ _ _ _ _ _ _ _)
   | (with_reducible exact ih1 _ _ _ _ _ _ _ _ _)
   | (with_reducible exact ih2 _ _ _ _ _ _ _ _ _ _ _)
   | (with_reducible exact impl_ParcelShare.mono _ _ _ _)
   | (with_reducible exact impl_PointOn.mono _ _ _ _ _ _ _)
   | (with_reducible exact impl_PolyBack.mono _ _)
   | (with_reducible exact spec_CrossInner.mono _ _ _ _ _ _ _ _ _)
   | (with_reducible exact spec_DrawCrossInner.mono _ _)
   | (with_reducible exact LeO.refl _)
   | (with_reducible exact LeO.none _)
   | (with_reducible refine LeO.ite ?_ ?_)
   | (with_reducible refine LeO.bind ?_ (fun _ => ?_))
   | exact ih0 _ _ _ _ _ _ _ _ _ _ _
   | exact ih1 _ _ _ _ _ _ _ _ _
   | exact ih2 _ _ _ _ _ _ _ _ _ _ _
   | exact impl_ParcelShare.mono _ _ _ _
   | exact impl_PointOn.mono _ _ _ _ _ _ _
   | exact impl_PolyBack.mono _ _
   | exact spec_CrossInner.mono _ _ _ _ _ _ _ _ _
   | exact spec_DrawCrossInner.mono _ _
   | exact LeO.none _
   | refine LeO.ite ?_ ?_
   | refine LeO.bind ?_ (fun _ => ?_)
set_option maxHeartbeats 8000000 in
set_option maxRecDepth 100000 in
theorem laws_FnCrossQuad.calls (k : Nat) (A0 : Option Addr) (c0 : Nat) (l0 : List Int) (r : Bool) (w : World) (hr0 : Kd.C (Kd.int .u8) w A0 l0.length l0) (hc0 : l0.length ≤ c0) (h : laws_FnCrossQuad.f k l0 = some r) :
  Calls Try.prog 6 #[.slice A0 l0.length c0] w fun e w' => e = .returned (.bool r) ∧ Below w.heap.size w w' := by
 have hu33 := Try.underlying33
 have hu39 := Try.underlying39
 have HR0 := Aside0.mk hr0
 have HC0 := Aside0.mk hc0
 clear hr0 hc0
 have HB := Aside0.mk (Below.refl w.heap.size w)
 have H : (if (l0.length : Int) > 1048576 then (some true) else ((spec_DrawCrossInner.f k l0).bind fun bt347 => ((impl_CrossInner.f bt347.1 bt347.2.1 bt347.2.2.1 bt347.2.2.2.1 bt347.2.2.2.2.1 bt347.2.2.2.2.2.1 bt347.2.2.2.2.2.2.1 bt347.2.2.2.2.2.2.2).bind fun t359 => ((spec_CrossInner.f k bt347.1 bt347.2.1 bt347.2.2.1 bt347.2.2.2.1 bt347.2.2.2.2.1 bt347.2.2.2.2.2.1 bt347.2.2.2.2.2.2.1 bt347.2.2.2.2.2.2.2).bind fun t360 => (if (t359 != t360) = true then (laws_FnCrossQuad.j0 k t359 t360 true bt347.1 bt347.2.1 bt347.2.2.1 bt347.2.2.2.1 bt347.2.2.2.2.1 bt347.2.2.2.2.2.1 bt347.2.2.2.2.2.2.1 bt347.2.2.2.2.2.2.2) else (laws_FnCrossQuad.j0 k t359 t360 (!t359) bt347.1 bt347.2.1 bt347.2.2.1 bt347.2.2.2.1 bt347.2.2.2.2.1 bt347.2.2.2.2.2.1 bt347.2.2.2.2.2.2.1 bt347.2.2.2.2.2.2.2)))))) = some r := h
 clear h
 by_cases c2 : (l0.length : Int) > 1048576
 ·rw [if_pos c2] at H
  have c2b0 : decide (1048576 < (l0.length : Int)) = true := decide_eq_true c2
  have c2b1 : decide (1048576 < l0.length) = true := decide_eq_true (by omega)
  clear c2
  obtain rfl := Option.some.inj H
  go_enter Try.func6, Try.ntmps6
  go_wp2
  go_ret
  exact ⟨er, lb HB.out⟩
 ·rw [if_neg c2] at H
  have c2b0 : decide (1048576 < (l0.length : Int)) = false := decide_eq_false c2
  have c2b1 : decide (1048576 < l0.length) = false := decide_eq_false (by omega)
  clear c2
  replace H := Option.bind_eq_some_iff.mp H
  obtain ⟨⟨t347, t348, t349, t350, t351, t352, t353, t354⟩, A30, H⟩ := H
  replace H : ((impl_CrossInner.f t347 t348 t349 t350 t351 t352 t353 t354).bind fun t359 => ((spec_CrossInner.f k t347 t348 t349 t350 t351 t352 t353 t354).bind fun t360 => (if (t359 != t360) = true then (laws_FnCrossQuad.j0 k t359 t360 true t347 t348 t349 t350 t351 t352 t353 t354) else (laws_FnCrossQuad.j0 k t359 t360 (!t359) t347 t348 t349 t350 t351 t352 t353 t354)))) = some r := H
  have A3 := Aside0.mk A30
  clear A30
  replace H := Option.bind_eq_some_iff.mp H
  obtain ⟨t359, A40, H⟩ := H
  replace H : ((spec_CrossInner.f k t347 t348 t349 t350 t351 t352 t353 t354).bind fun t360 => (if (t359 != t360) = true then (laws_FnCrossQuad.j0 k t359 t360 true t347 t348 t349 t350 t351 t352 t353 t354) else (laws_FnCrossQuad.j0 k t359 t360 (!t359) t347 t348 t349 t350 t351 t352 t353 t354))) = some r := H
  have A4 := Aside0.mk A40
  clear A40
  replace H := Option.bind_eq_some_iff.mp H
  obtain ⟨t360, A50, H⟩ := H
  replace H : (if (t359 != t360) = true then (laws_FnCrossQuad.j0 k t359 t360 true t347 t348 t349 t350 t351 t352 t353 t354) else (laws_FnCrossQuad.j0 k t359 t360 (!t359) t347 t348 t349 t350 t351 t352 t353 t354)) = some r := H
  have A5 := Aside0.mk A50
  clear A50
  have HC6 := Aside0.mk H
  clear H
  go_enter Try.func6, Try.ntmps6
  go_upto_region 6 with (first | ((with_reducible refine gate_callee (f := 27) rfl ?_); refine goesL_ (some 23) rfl rfl Try.func27 (by kernel_rfl) rfl #[.slice A0 l0.length c0] rfl al ?_; (with_reducible refine (spec_DrawCrossInner.calls k _ _ l0 t347 t348 t349 t350 t351 t352 t353 t354 _ ?side1 ?side2 A3.out).mono ?_); (case side1 => repeat (first | exact HR0.out | (with_reducible refine Kd.C_alloc ?_ _) | (with_reducible refine Kd.C_drewN ?_ _) | (with_reducible refine Kd.C_drew ?_))); (case side2 => exact HC0.out); rintro e w7 ⟨rfl, hb⟩; refine ⟨_, rfl, ?_⟩; have n0_ := Aside0.mk (below_step (lb HB.out) hb); clear HB; have HB := n0_; clear n0_; (try clear hb); (try clear hb2); (try clear hk); (try clear hi)) | ((with_reducible refine gate_dst (N := 3) rfl ?_); (try (refine gate_guard (by rfl) ?_; dsimp only)); refine box_event ?hg (N := 3) ?hd (cs := #[.int .i64 0, .int .i64 0]) (t := 33) ?hr ?_; (case hd => rfl); (case hg => rfl); (case hr => first | (go_simp; done) | (go_simp; rfl)); intro gb355 hg w8 hbox hb; have n0_ := Aside0.mk (below_step (lb HB.out) hb); have n1_ := Aside0.mk (hbox); have n2_ := Aside0.mk ((by rw [hg]; exact (below_size (lb HB.out)) : w.heap.size ≤ gb355)); have n3_ := Aside0.mk ((by rw [hg]; exact (below_size (lb HB.out)) : w.heap.size ≤ gb355)); clear HB; have HB := n0_; have BK355 := n1_; have GW355 := n2_; have GE355 := n3_; clear n0_ n1_ n2_ n3_; clear hb hbox hg) | ((with_reducible refine gate_dst (N := 4) rfl ?_); (try (refine gate_guard (by rfl) ?_; dsimp only)); refine box_event ?hg (N := 4) ?hd (cs := #[.int .i64 0, .int .i64 0]) (t := 33) ?hr ?_; (case hd => rfl); (case hg => rfl); (case hr => first | (go_simp; done) | (go_simp; rfl)); intro gb356 hg w9 hbox hb; have n0_ := Aside0.mk (blk_below (bf BK355.out) hb); have n1_ := Aside0.mk (below_step (lb HB.out) hb); have n2_ := Aside0.mk (hbox); have n3_ := Aside0.mk ((by rw [hg]; exact (below_size (lb HB.out)) : w.heap.size ≤ gb356)); have n4_ := Aside0.mk ((by rw [hg]; exact (below_size (lb HB.out)) : w.heap.size ≤ gb356)); have n5_ := Aside0.mk ((by rw [hg]; exact Nat.ne_of_lt (blk_lt (bf BK355.out)) : gb355 ≠ gb356)); have n6_ := Aside0.mk ((by rw [hg]; exact Nat.ne_of_gt (blk_lt (bf BK355.out)) : gb356 ≠ gb355)); clear BK355; clear HB; have BK355 := n0_; have HB := n1_; have BK356 := n2_; have GW356 := n3_; have GE356 := n4_; have NB355_356 := n5_; have NB356_355 := n6_; clear n0_ n1_ n2_ n3_ n4_ n5_ n6_; clear hb hbox hg) | ((with_reducible refine gate_dst (N := 5) rfl ?_); (try (refine gate_guard (by rfl) ?_; dsimp only)); refine box_event ?hg (N := 5) ?hd (cs := #[.int .i64 0, .int .i64 0]) (t := 33) ?hr ?_; (case hd => rfl); (case hg => rfl); (case hr => first | (go_simp; done) | (go_simp; rfl)); intro gb357 hg w10 hbox hb; have n0_ := Aside0.mk (blk_below (bf BK355.out) hb); have n1_ := Aside0.mk (blk_below (bf BK356.out) hb); have n2_ := Aside0.mk (below_step (lb HB.out) hb); have n3_ := Aside0.mk (hbox); have n4_ := Aside0.mk ((by rw [hg]; exact (below_size (lb HB.out)) : w.heap.size ≤ gb357)); have n5_ := Aside0.mk ((by rw [hg]; exact (below_size (lb HB.out)) : w.heap.size ≤ gb357)); have n6_ := Aside0.mk ((by rw [hg]; exact Nat.ne_of_lt (blk_lt (bf BK355.out)) : gb355 ≠ gb357)); have n7_ := Aside0.mk ((by rw [hg]; exact Nat.ne_of_gt (blk_lt (bf BK355.out)) : gb357 ≠ gb355)); have n8_ := Aside0.mk ((by rw [hg]; exact Nat.ne_of_lt (blk_lt (bf BK356.out)) : gb356 ≠ gb357)); have n9_ := Aside0.mk ((by rw [hg]; exact Nat.ne_of_gt (blk_lt (bf BK356.out)) : gb357 ≠ gb356)); clear BK355; clear BK356; clear HB; have BK355 := n0_; have BK356 := n1_; have HB := n2_; have BK357 := n3_; have GW357 := n4_; have GE357 := n5_; have NB355_357 := n6_; have NB357_355 := n7_; have NB356_357 := n8_; have NB357_356 := n9_; clear n0_ n1_ n2_ n3_ n4_ n5_ n6_ n7_ n8_ n9_; clear hb hbox hg) | ((with_reducible refine gate_dst (N := 6) rfl ?_); (try (refine gate_guard (by rfl) ?_; dsimp only)); refine box_event ?hg (N := 6) ?hd (cs := #[.int .i64 0, .int .i64 0]) (t := 33) ?hr ?_; (case hd => rfl); (case hg => rfl); (case hr => first | (go_simp; done) | (go_simp; rfl)); intro gb358 hg w11 hbox hb; have n0_ := Aside0.mk (blk_below (bf BK355.out) hb); have n1_ := Aside0.mk (blk_below (bf BK356.out) hb); have n2_ := Aside0.mk (blk_below (bf BK357.out) hb); have n3_ := Aside0.mk (below_step (lb HB.out) hb); have n4_ := Aside0.mk (hbox); have n5_ := Aside0.mk ((by rw [hg]; exact (below_size (lb HB.out)) : w.heap.size ≤ gb358)); have n6_ := Aside0.mk ((by rw [hg]; exact (below_size (lb HB.out)) : w.heap.size ≤ gb358)); have n7_ := Aside0.mk ((by rw [hg]; exact Nat.ne_of_lt (blk_lt (bf BK355.out)) : gb355 ≠ gb358)); have n8_ := Aside0.mk ((by rw [hg]; exact Nat.ne_of_gt (blk_lt (bf BK355.out)) : gb358 ≠ gb355)); have n9_ := Aside0.mk ((by rw [hg]; exact Nat.ne_of_lt (blk_lt (bf BK356.out)) : gb356 ≠ gb358)); have n10_ := Aside0.mk ((by rw [hg]; exact Nat.ne_of_gt (blk_lt (bf BK356.out)) : gb358 ≠ gb356)); have n11_ := Aside0.mk ((by rw [hg]; exact Nat.ne_of_lt (blk_lt (bf BK357.out)) : gb357 ≠ gb358)); have n12_ := Aside0.mk ((by rw [hg]; exact Nat.ne_of_gt (blk_lt (bf BK357.out)) : gb358 ≠ gb357)); clear BK355; clear BK356; clear BK357; clear HB; have BK355 := n0_; have BK356 := n1_; have BK357 := n2_; have HB := n3_; have BK358 := n4_; have GW358 := n5_; have GE358 := n6_; have NB355_358 := n7_; have NB358_355 := n8_; have NB356_358 := n9_; have NB358_356 := n10_; have NB357_358 := n11_; have NB358_357 := n12_; clear n0_ n1_ n2_ n3_ n4_ n5_ n6_ n7_ n8_ n9_ n10_ n11_ n12_; clear hb hbox hg; have hnb12 := NB355_356.out; have hnc12 := NB356_355.out; have hnb13 := NB355_357.out; have hnc13 := NB357_355.out; have hnb14 := NB355_358.out; have hnc14 := NB358_355.out; have hcz15_0 : w11.cell? ⟨gb355, 0, none⟩ = some (.int .i64 0) := (blk_cell BK355.out 0).trans rfl; have hcz15_1 : w11.cell? ⟨gb355, 1, none⟩ = some (.int .i64 0) := (blk_cell BK355.out 1).trans rfl; have hfz15_0 := blk_frozen BK355.out 0; have hfz15_1 := blk_frozen BK355.out 1; have hnb16 := NB356_357.out; have hnc16 := NB357_356.out; have hnb17 := NB356_358.out; have hnc17 := NB358_356.out; have hcz18_0 : w11.cell? ⟨gb356, 0, none⟩ = some (.int .i64 0) := (blk_cell BK356.out 0).trans rfl; have hcz18_1 : w11.cell? ⟨gb356, 1, none⟩ = some (.int .i64 0) := (blk_cell BK356.out 1).trans rfl; have hfz18_0 := blk_frozen BK356.out 0; have hfz18_1 := blk_frozen BK356.out 1; have hnb19 := NB357_358.out; have hnc19 := NB358_357.out; have hcz20_0 : w11.cell? ⟨gb357, 0, none⟩ = some (.int .i64 0) := (blk_cell BK357.out 0).trans rfl; have hcz20_1 : w11.cell? ⟨gb357, 1, none⟩ = some (.int .i64 0) := (blk_cell BK357.out 1).trans rfl; have hfz20_0 := blk_frozen BK357.out 0; have hfz20_1 := blk_frozen BK357.out 1; have hcz21_0 : w11.cell? ⟨gb358, 0, none⟩ = some (.int .i64 0) := (blk_cell BK358.out 0).trans rfl; have hcz21_1 : w11.cell? ⟨gb358, 1, none⟩ = some (.int .i64 0) := (blk_cell BK358.out 1).trans rfl; have hfz21_0 := blk_frozen BK358.out 0; have hfz21_1 := blk_frozen BK358.out 1) | ((with_reducible refine gate_callee (f := 28) rfl ?_); refine goesL_ (some 32) rfl rfl Try.func28 (by kernel_rfl) rfl #[.agg #[.int .i64 t347, .int .i64 t348], .agg #[.int .i64 t349, .int .i64 t350], .agg #[.int .i64 t351, .int .i64 t352], .agg #[.int .i64 t353, .int .i64 t354]] rfl al ?_; (with_reducible refine (impl_CrossInner.calls t347 t348 t349 t350 t351 t352 t353 t354 t359 _ A4.out).mono ?_); rintro e w22 ⟨rfl, hb⟩; refine ⟨_, rfl, ?_⟩; have n0_ := Aside0.mk (blk_below (g := gb355) (o := .cells #[.int .i64 t347, .int .i64 t348] 33 (0, 0)) (by (with_reducible repeat (first | refine blk_drewN ?_ _ | refine blk_drew ?_ | refine blk_alloc ?_ _)); refine blk_far ?_ NB355_358.out _; (with_reducible repeat (first | refine blk_drewN ?_ _ | refine blk_drew ?_ | refine blk_alloc ?_ _)); refine blk_far ?_ NB355_358.out _; (with_reducible repeat (first | refine blk_drewN ?_ _ | refine blk_drew ?_ | refine blk_alloc ?_ _)); refine blk_far ?_ NB355_357.out _; (with_reducible repeat (first | refine blk_drewN ?_ _ | refine blk_drew ?_ | refine blk_alloc ?_ _)); refine blk_far ?_ NB355_357.out _; (with_reducible repeat (first | refine blk_drewN ?_ _ | refine blk_drew ?_ | refine blk_alloc ?_ _)); refine blk_far ?_ NB355_356.out _; (with_reducible repeat (first | refine blk_drewN ?_ _ | refine blk_drew ?_ | refine blk_alloc ?_ _)); refine blk_far ?_ NB355_356.out _; (with_reducible repeat (first | refine blk_drewN ?_ _ | refine blk_drew ?_ | refine blk_alloc ?_ _)); refine blk_put (cs := #[.int .i64 t347, .int .i64 0]) ?_ 1 _ rfl; (with_reducible repeat (first | refine blk_drewN ?_ _ | refine blk_drew ?_ | refine blk_alloc ?_ _)); refine blk_put (cs := #[.int .i64 0, .int .i64 0]) ?_ 0 _ rfl; (with_reducible repeat (first | refine blk_drewN ?_ _ | refine blk_drew ?_ | refine blk_alloc ?_ _)); exact BK355.out) hb); have n1_ := Aside0.mk (blk_below (g := gb356) (o := .cells #[.int .i64 t349, .int .i64 t350] 33 (0, 0)) (by (with_reducible repeat (first | refine blk_drewN ?_ _ | refine blk_drew ?_ | refine blk_alloc ?_ _)); refine blk_far ?_ NB356_358.out _; (with_reducible repeat (first | refine blk_drewN ?_ _ | refine blk_drew ?_ | refine blk_alloc ?_ _)); refine blk_far ?_ NB356_358.out _; (with_reducible repeat (first | refine blk_drewN ?_ _ | refine blk_drew ?_ | refine blk_alloc ?_ _)); refine blk_far ?_ NB356_357.out _; (with_reducible repeat (first | refine blk_drewN ?_ _ | refine blk_drew ?_ | refine blk_alloc ?_ _)); refine blk_far ?_ NB356_357.out _; (with_reducible repeat (first | refine blk_drewN ?_ _ | refine blk_drew ?_ | refine blk_alloc ?_ _)); refine blk_put (cs := #[.int .i64 t349, .int .i64 0]) ?_ 1 _ rfl; (with_reducible repeat (first | refine blk_drewN ?_ _ | refine blk_drew ?_ | refine blk_alloc ?_ _)); refine blk_put (cs := #[.int .i64 0, .int .i64 0]) ?_ 0 _ rfl; (with_reducible repeat (first | refine blk_drewN ?_ _ | refine blk_drew ?_ | refine blk_alloc ?_ _)); refine blk_far ?_ NB356_355.out _; (with_reducible repeat (first | refine blk_drewN ?_ _ | refine blk_drew ?_ | refine blk_alloc ?_ _)); refine blk_far ?_ NB356_355.out _; (with_reducible repeat (first | refine blk_drewN ?_ _ | refine blk_drew ?_ | refine blk_alloc ?_ _)); exact BK356.out) hb); have n2_ := Aside0.mk (blk_below (g := gb357) (o := .cells #[.int .i64 t351, .int .i64 t352] 33 (0, 0)) (by (with_reducible repeat (first | refine blk_drewN ?_ _ | refine blk_drew ?_ | refine blk_alloc ?_ _)); refine blk_far ?_ NB357_358.out _; (with_reducible repeat (first | refine blk_drewN ?_ _ | refine blk_drew ?_ | refine blk_alloc ?_ _)); refine blk_far ?_ NB357_358.out _; (with_reducible repeat (first | refine blk_drewN ?_ _ | refine blk_drew ?_ | refine blk_alloc ?_ _)); refine blk_put (cs := #[.int .i64 t351, .int .i64 0]) ?_ 1 _ rfl; (with_reducible repeat (first | refine blk_drewN ?_ _ | refine blk_drew ?_ | refine blk_alloc ?_ _)); refine blk_put (cs := #[.int .i64 0, .int .i64 0]) ?_ 0 _ rfl; (with_reducible repeat (first | refine blk_drewN ?_ _ | refine blk_drew ?_ | refine blk_alloc ?_ _)); refine blk_far ?_ NB357_356.out _; (with_reducible repeat (first | refine blk_drewN ?_ _ | refine blk_drew ?_ | refine blk_alloc ?_ _)); refine blk_far ?_ NB357_356.out _; (with_reducible repeat (first | refine blk_drewN ?_ _ | refine blk_drew ?_ | refine blk_alloc ?_ _)); refine blk_far ?_ NB357_355.out _; (with_reducible repeat (first | refine blk_drewN ?_ _ | refine blk_drew ?_ | refine blk_alloc ?_ _)); refine blk_far ?_ NB357_355.out _; (with_reducible repeat (first | refine blk_drewN ?_ _ | refine blk_drew ?_ | refine blk_alloc ?_ _)); exact BK357.out) hb); have n3_ := Aside0.mk (blk_below (g := gb358) (o := .cells #[.int .i64 t353, .int .i64 t354] 33 (0, 0)) (by (with_reducible repeat (first | refine blk_drewN ?_ _ | refine blk_drew ?_ | refine blk_alloc ?_ _)); refine blk_put (cs := #[.int .i64 t353, .int .i64 0]) ?_ 1 _ rfl; (with_reducible repeat (first | refine blk_drewN ?_ _ | refine blk_drew ?_ | refine blk_alloc ?_ _)); refine blk_put (cs := #[.int .i64 0, .int .i64 0]) ?_ 0 _ rfl; (with_reducible repeat (first | refine blk_drewN ?_ _ | refine blk_drew ?_ | refine blk_alloc ?_ _)); refine blk_far ?_ NB358_357.out _; (with_reducible repeat (first | refine blk_drewN ?_ _ | refine blk_drew ?_ | refine blk_alloc ?_ _)); refine blk_far ?_ NB358_357.out _; (with_reducible repeat (first | refine blk_drewN ?_ _ | refine blk_drew ?_ | refine blk_alloc ?_ _)); refine blk_far ?_ NB358_356.out _; (with_reducible repeat (first | refine blk_drewN ?_ _ | refine blk_drew ?_ | refine blk_alloc ?_ _)); refine blk_far ?_ NB358_356.out _; (with_reducible repeat (first | refine blk_drewN ?_ _ | refine blk_drew ?_ | refine blk_alloc ?_ _)); refine blk_far ?_ NB358_355.out _; (with_reducible repeat (first | refine blk_drewN ?_ _ | refine blk_drew ?_ | refine blk_alloc ?_ _)); refine blk_far ?_ NB358_355.out _; (with_reducible repeat (first | refine blk_drewN ?_ _ | refine blk_drew ?_ | refine blk_alloc ?_ _)); exact BK358.out) hb); have n4_ := Aside0.mk (below_step (lb HB.out) hb); clear BK355; clear BK356; clear BK357; clear BK358; clear HB; have BK355 := n0_; have BK356 := n1_; have BK357 := n2_; have BK358 := n3_; have HB := n4_; clear n0_ n1_ n2_ n3_ n4_; (try clear hb); (try clear hb2); (try clear hk); (try clear hi); have hcz23_0 : w22.cell? ⟨gb355, 0, none⟩ = some (.int .i64 t347) := (blk_cell BK355.out 0).trans rfl; have hcz23_1 : w22.cell? ⟨gb355, 1, none⟩ = some (.int .i64 t348) := (blk_cell BK355.out 1).trans rfl; have hfz23_0 := blk_frozen BK355.out 0; have hfz23_1 := blk_frozen BK355.out 1; have hcz24_0 : w22.cell? ⟨gb356, 0, none⟩ = some (.int .i64 t349) := (blk_cell BK356.out 0).trans rfl; have hcz24_1 : w22.cell? ⟨gb356, 1, none⟩ = some (.int .i64 t350) := (blk_cell BK356.out 1).trans rfl; have hfz24_0 := blk_frozen BK356.out 0; have hfz24_1 := blk_frozen BK356.out 1; have hcz25_0 : w22.cell? ⟨gb357, 0, none⟩ = some (.int .i64 t351) := (blk_cell BK357.out 0).trans rfl; have hcz25_1 : w22.cell? ⟨gb357, 1, none⟩ = some (.int .i64 t352) := (blk_cell BK357.out 1).trans rfl; have hfz25_0 := blk_frozen BK357.out 0; have hfz25_1 := blk_frozen BK357.out 1; have hcz26_0 : w22.cell? ⟨gb358, 0, none⟩ = some (.int .i64 t353) := (blk_cell BK358.out 0).trans rfl; have hcz26_1 : w22.cell? ⟨gb358, 1, none⟩ = some (.int .i64 t354) := (blk_cell BK358.out 1).trans rfl; have hfz26_0 := blk_frozen BK358.out 0; have hfz26_1 := blk_frozen BK358.out 1) | ((with_reducible refine gate_callee (f := 29) rfl ?_); refine goesL_ (some 37) rfl rfl Try.func29 (by kernel_rfl) rfl #[.agg #[.int .i64 t347, .int .i64 t348], .agg #[.int .i64 t349, .int .i64 t350], .agg #[.int .i64 t351, .int .i64 t352], .agg #[.int .i64 t353, .int .i64 t354]] rfl al ?_; (with_reducible refine (spec_CrossInner.calls k t347 t348 t349 t350 t351 t352 t353 t354 t360 _ A5.out).mono ?_); rintro e w27 ⟨rfl, hb⟩; refine ⟨_, rfl, ?_⟩; have n0_ := Aside0.mk (blk_below (bf BK355.out) hb); have n1_ := Aside0.mk (blk_below (bf BK356.out) hb); have n2_ := Aside0.mk (blk_below (bf BK357.out) hb); have n3_ := Aside0.mk (blk_below (bf BK358.out) hb); have n4_ := Aside0.mk (below_step (lb HB.out) hb); clear BK355; clear BK356; clear BK357; clear BK358; clear HB; have BK355 := n0_; have BK356 := n1_; have BK357 := n2_; have BK358 := n3_; have HB := n4_; clear n0_ n1_ n2_ n3_ n4_; (try clear hb); (try clear hb2); (try clear hk); (try clear hi)))
  (try simp only [Act.put, List.setIfInBounds_toArray, List.set_cons_zero, List.set_cons_succ])
  go_cut [44] (fun v44 wc => ∃ (kq : Nat) (x44_5 : Bool), v44 = .bool x44_5 ∧ Aside0 (laws_FnCrossQuad.j0 kq t359 t360 x44_5 t347 t348 t349 t350 t351 t352 t353 t354 = some r) ∧ Aside0 (kq ≤ k) ∧ Aside0 (wc.heap[gb355]? = some (.cells #[.int .i64 t347, .int .i64 t348] 33 (0, 0))) ∧ Aside0 (wc.heap[gb356]? = some (.cells #[.int .i64 t349, .int .i64 t350] 33 (0, 0))) ∧ Aside0 (wc.heap[gb357]? = some (.cells #[.int .i64 t351, .int .i64 t352] 33 (0, 0))) ∧ Aside0 (wc.heap[gb358]? = some (.cells #[.int .i64 t353, .int .i64 t354] 33 (0, 0))) ∧ Aside0 (Below w.heap.size w wc))
  case first =>
   have H := HC6.out
   clear HC6
   by_cases c28 : (t359 != t360) = true
   ·rw [if_pos c28] at H
    have c28b0 : (t359 != t360) = true := c28
    (try (have c28b1 : decide (t359 = t360) = false := by simpa using c28))
    (try (have c28b2 : (t359 == t360) = false := by simpa using c28))
    (try (have c28b3 : ¬ (t359 = t360) := by simpa using c28))
    clear c28
    (first | rw [c28b0] | (simp only [i64_w, i32_w]; rw [c28b0]) | skip)
    have H' := Aside0.mk H
    clear H
    go_wp2
    go_meet
    case rel => exact ⟨_, (true), (by first | rfl | (simp; done) | (simp [*]; done)), H', ⟨by first | omega | exact Nat.le_refl _⟩, ⟨by (with_reducible repeat (first | refine blk_drewN ?_ _ | refine blk_drew ?_ | refine blk_alloc ?_ _)); exact BK355.out⟩, ⟨by (with_reducible repeat (first | refine blk_drewN ?_ _ | refine blk_drew ?_ | refine blk_alloc ?_ _)); exact BK356.out⟩, ⟨by (with_reducible repeat (first | refine blk_drewN ?_ _ | refine blk_drew ?_ | refine blk_alloc ?_ _)); exact BK357.out⟩, ⟨by (with_reducible repeat (first | refine blk_drewN ?_ _ | refine blk_drew ?_ | refine blk_alloc ?_ _)); exact BK358.out⟩, ⟨lb HB.out⟩⟩
   ·rw [if_neg c28] at H
    have c28b0 : (t359 != t360) = false := by simpa using c28
    (try (have c28b1 : decide (t359 = t360) = true := by simpa using c28))
    (try (have c28b2 : (t359 == t360) = true := by simpa using c28))
    clear c28
    (first | rw [c28b0] | (simp only [i64_w, i32_w]; rw [c28b0]) | skip)
    have H' := Aside0.mk H
    clear H
    go_wp2
    go_meet
    case rel => exact ⟨_, (!t359), (by first | rfl | (simp; done) | (simp [*]; done)), H', ⟨by first | omega | exact Nat.le_refl _⟩, ⟨by (with_reducible repeat (first | refine blk_drewN ?_ _ | refine blk_drew ?_ | refine blk_alloc ?_ _)); exact BK355.out⟩, ⟨by (with_reducible repeat (first | refine blk_drewN ?_ _ | refine blk_drew ?_ | refine blk_alloc ?_ _)); exact BK356.out⟩, ⟨by (with_reducible repeat (first | refine blk_drewN ?_ _ | refine blk_drew ?_ | refine blk_alloc ?_ _)); exact BK357.out⟩, ⟨by (with_reducible repeat (first | refine blk_drewN ?_ _ | refine blk_drew ?_ | refine blk_alloc ?_ _)); exact BK358.out⟩, ⟨lb HB.out⟩⟩
  case rest =>
   clear HC6
   try clear c1
   try clear c2
   try clear c2b0
   try clear c2b1
   try clear p2
   try clear c6
   try clear c12
   try clear c13
   try clear c14
   try clear c16
   try clear c17
   try clear c19
   try clear c27
   try clear c28
   try clear c28b0
   try clear c28b1
   try clear c28b2
   try clear hcz15_0
   try clear hcz15_1
   try clear hcz18_0
   try clear hcz18_1
   try clear hcz20_0
   try clear hcz20_1
   try clear hcz21_0
   try clear hcz21_1
   try clear hcz23_0
   try clear hcz23_1
   try clear hcz24_0
   try clear hcz24_1
   try clear hcz25_0
   try clear hcz25_1
   try clear hcz26_0
   try clear hcz26_1
   try clear hfz15_0
   try clear hfz15_1
   try clear hfz18_0
   try clear hfz18_1
   try clear hfz20_0
   try clear hfz20_1
   try clear hfz21_0
   try clear hfz21_1
   try clear hfz23_0
   try clear hfz23_1
   try clear hfz24_0
   try clear hfz24_1
   try clear hfz25_0
   try clear hfz25_1
   try clear hfz26_0
   try clear hfz26_1
   obtain ⟨kq, x44_5, rfl, HA, HJ5, BK355, BK356, BK357, BK358, HB⟩ := hcut
   cases kq with
   | zero => exact absurd HA.out (by simp [laws_FnCrossQuad.j0])
   | succ kj5 =>
    have H := HA.out
    clear HA
    simp only [laws_FnCrossQuad.j0] at H
    by_cases c29 : x44_5 = true
    ·subst c29
     have H1 : (some (t359 == t360)) = some r := by rw [if_pos rfl] at H; exact H
     clear H
     have H := H1
     clear H1
     obtain rfl := Option.some.inj H
     go_wp2
     go_ret
     exact ⟨er, lb HB.out⟩
    ·replace c29 := Bool.eq_false_iff.mpr c29
     subst c29
     have H1 : ((impl_PointOn.f kj5 t347 t348 t349 t350 t351 t352).bind fun t361 => (if t361 = true then (laws_FnCrossQuad.j1 kj5 true t347 t348 t349 t350 t351 t352 t353 t354) else ((impl_PointOn.f kj5 t347 t348 t349 t350 t353 t354).bind fun t362 => (if t362 = true then (laws_FnCrossQuad.j1 kj5 true t347 t348 t349 t350 t351 t352 t353 t354) else ((impl_PointOn.f kj5 t351 t352 t353 t354 t347 t348).bind fun t363 => (if t363 = true then (laws_FnCrossQuad.j1 kj5 true t347 t348 t349 t350 t351 t352 t353 t354) else ((impl_PointOn.f kj5 t351 t352 t353 t354 t349 t350).bind fun t364 => (laws_FnCrossQuad.j1 kj5 t364 t347 t348 t349 t350 t351 t352 t353 t354)))))))) = some r := by rw [if_neg (show ¬ (false = true) by decide)] at H; exact H
     clear H
     have H := H1
     clear H1
     have HC30 := Aside0.mk H
     clear H
     go_upto_region 8 with (fail)
     go_cut [9] (fun v9 wc => ∃ (kq : Nat) (x9_29 : Bool), v9 = .bool x9_29 ∧ Aside0 (laws_FnCrossQuad.j1 kq x9_29 t347 t348 t349 t350 t351 t352 t353 t354 = some r) ∧ Aside0 (kq ≤ kj5) ∧ Aside0 (wc.heap[gb355]? = some (.cells #[.int .i64 t347, .int .i64 t348] 33 (0, 0))) ∧ Aside0 (wc.heap[gb356]? = some (.cells #[.int .i64 t349, .int .i64 t350] 33 (0, 0))) ∧ Aside0 (wc.heap[gb357]? = some (.cells #[.int .i64 t351, .int .i64 t352] 33 (0, 0))) ∧ Aside0 (wc.heap[gb358]? = some (.cells #[.int .i64 t353, .int .i64 t354] 33 (0, 0))) ∧ Aside0 (Below w.heap.size w wc))
     case first =>
      have H := HC30.out
      clear HC30
      replace H := Option.bind_eq_some_iff.mp H
      obtain ⟨t361, A310, H⟩ := H
      replace H : (if t361 = true then (laws_FnCrossQuad.j1 kj5 true t347 t348 t349 t350 t351 t352 t353 t354) else ((impl_PointOn.f kj5 t347 t348 t349 t350 t353 t354).bind fun t362 => (if t362 = true then (laws_FnCrossQuad.j1 kj5 true t347 t348 t349 t350 t351 t352 t353 t354) else ((impl_PointOn.f kj5 t351 t352 t353 t354 t347 t348).bind fun t363 => (if t363 = true then (laws_FnCrossQuad.j1 kj5 true t347 t348 t349 t350 t351 t352 t353 t354) else ((impl_PointOn.f kj5 t351 t352 t353 t354 t349 t350).bind fun t364 => (laws_FnCrossQuad.j1 kj5 t364 t347 t348 t349 t350 t351 t352 t353 t354))))))) = some r := H
      have A31 := Aside0.mk A310
      clear A310
      by_cases c32 : t361 = true
      ·subst c32
       have H1 : (laws_FnCrossQuad.j1 kj5 true t347 t348 t349 t350 t351 t352 t353 t354) = some r := by rw [if_pos rfl] at H; exact H
       clear H
       have H := H1
       clear H1
       have H' := Aside0.mk H
       clear H
       have hnb33 := NB355_356.out
       have hnc33 := NB356_355.out
       have hnb34 := NB355_357.out
       have hnc34 := NB357_355.out
       have hnb35 := NB355_358.out
       have hnc35 := NB358_355.out
       have hcz36_0 : wc.cell? ⟨gb355, 0, none⟩ = some (.int .i64 t347) := (blk_cell BK355.out 0).trans rfl
       have hcz36_1 : wc.cell? ⟨gb355, 1, none⟩ = some (.int .i64 t348) := (blk_cell BK355.out 1).trans rfl
       have hfz36_0 := blk_frozen BK355.out 0
       have hfz36_1 := blk_frozen BK355.out 1
       have hnb37 := NB356_357.out
       have hnc37 := NB357_356.out
       have hnb38 := NB356_358.out
       have hnc38 := NB358_356.out
       have hcz39_0 : wc.cell? ⟨gb356, 0, none⟩ = some (.int .i64 t349) := (blk_cell BK356.out 0).trans rfl
       have hcz39_1 : wc.cell? ⟨gb356, 1, none⟩ = some (.int .i64 t350) := (blk_cell BK356.out 1).trans rfl
       have hfz39_0 := blk_frozen BK356.out 0
       have hfz39_1 := blk_frozen BK356.out 1
       have hnb40 := NB357_358.out
       have hnc40 := NB358_357.out
       have hcz41_0 : wc.cell? ⟨gb357, 0, none⟩ = some (.int .i64 t351) := (blk_cell BK357.out 0).trans rfl
       have hcz41_1 : wc.cell? ⟨gb357, 1, none⟩ = some (.int .i64 t352) := (blk_cell BK357.out 1).trans rfl
       have hfz41_0 := blk_frozen BK357.out 0
       have hfz41_1 := blk_frozen BK357.out 1
       go_wp2_with (first | ((with_reducible refine gate_callee (f := 25) rfl ?_); refine goesL_ (some 51) rfl rfl Try.func25 (by kernel_rfl) rfl #[.agg #[.int .i64 t347, .int .i64 t348], .agg #[.int .i64 t349, .int .i64 t350], .agg #[.int .i64 t351, .int .i64 t352]] rfl al ?_; (with_reducible refine (impl_PointOn.calls kj5 t347 t348 t349 t350 t351 t352 true _ A31.out).mono ?_); rintro e w42 ⟨rfl, hb⟩; refine ⟨_, rfl, ?_⟩; have n0_ := Aside0.mk (blk_below (bf BK355.out) hb); have n1_ := Aside0.mk (blk_below (bf BK356.out) hb); have n2_ := Aside0.mk (blk_below (bf BK357.out) hb); have n3_ := Aside0.mk (blk_below (bf BK358.out) hb); have n4_ := Aside0.mk (below_step (lb HB.out) hb); clear BK355; clear BK356; clear BK357; clear BK358; clear HB; have BK355 := n0_; have BK356 := n1_; have BK357 := n2_; have BK358 := n3_; have HB := n4_; clear n0_ n1_ n2_ n3_ n4_; (try clear hb); (try clear hb2); (try clear hk); (try clear hi)))
       go_meet
       case rel => exact ⟨_, (true), (by first | rfl | (simp; done) | (simp [*]; done)), H', ⟨by have := HJ5.out; first | omega | exact Nat.le_refl _⟩, ⟨by (with_reducible repeat (first | refine blk_drewN ?_ _ | refine blk_drew ?_ | refine blk_alloc ?_ _)); exact BK355.out⟩, ⟨by (with_reducible repeat (first | refine blk_drewN ?_ _ | refine blk_drew ?_ | refine blk_alloc ?_ _)); exact BK356.out⟩, ⟨by (with_reducible repeat (first | refine blk_drewN ?_ _ | refine blk_drew ?_ | refine blk_alloc ?_ _)); exact BK357.out⟩, ⟨by (with_reducible repeat (first | refine blk_drewN ?_ _ | refine blk_drew ?_ | refine blk_alloc ?_ _)); exact BK358.out⟩, ⟨lb HB.out⟩⟩
      ·replace c32 := Bool.eq_false_iff.mpr c32
       subst c32
       have H1 : ((impl_PointOn.f kj5 t347 t348 t349 t350 t353 t354).bind fun t362 => (if t362 = true then (laws_FnCrossQuad.j1 kj5 true t347 t348 t349 t350 t351 t352 t353 t354) else ((impl_PointOn.f kj5 t351 t352 t353 t354 t347 t348).bind fun t363 => (if t363 = true then (laws_FnCrossQuad.j1 kj5 true t347 t348 t349 t350 t351 t352 t353 t354) else ((impl_PointOn.f kj5 t351 t352 t353 t354 t349 t350).bind fun t364 => (laws_FnCrossQuad.j1 kj5 t364 t347 t348 t349 t350 t351 t352 t353 t354)))))) = some r := by rw [if_neg (show ¬ (false = true) by decide)] at H; exact H
       clear H
       have H := H1
       clear H1
       replace H := Option.bind_eq_some_iff.mp H
       obtain ⟨t362, A430, H⟩ := H
       replace H : (if t362 = true then (laws_FnCrossQuad.j1 kj5 true t347 t348 t349 t350 t351 t352 t353 t354) else ((impl_PointOn.f kj5 t351 t352 t353 t354 t347 t348).bind fun t363 => (if t363 = true then (laws_FnCrossQuad.j1 kj5 true t347 t348 t349 t350 t351 t352 t353 t354) else ((impl_PointOn.f kj5 t351 t352 t353 t354 t349 t350).bind fun t364 => (laws_FnCrossQuad.j1 kj5 t364 t347 t348 t349 t350 t351 t352 t353 t354))))) = some r := H
       have A43 := Aside0.mk A430
       clear A430
       by_cases c44 : t362 = true
       ·subst c44
        have H1 : (laws_FnCrossQuad.j1 kj5 true t347 t348 t349 t350 t351 t352 t353 t354) = some r := by rw [if_pos rfl] at H; exact H
        clear H
        have H := H1
        clear H1
        have H' := Aside0.mk H
        clear H
        have hnb45 := NB355_356.out
        have hnc45 := NB356_355.out
        have hnb46 := NB355_357.out
        have hnc46 := NB357_355.out
        have hnb47 := NB355_358.out
        have hnc47 := NB358_355.out
        have hcz48_0 : wc.cell? ⟨gb355, 0, none⟩ = some (.int .i64 t347) := (blk_cell BK355.out 0).trans rfl
        have hcz48_1 : wc.cell? ⟨gb355, 1, none⟩ = some (.int .i64 t348) := (blk_cell BK355.out 1).trans rfl
        have hfz48_0 := blk_frozen BK355.out 0
        have hfz48_1 := blk_frozen BK355.out 1
        have hnb49 := NB356_357.out
        have hnc49 := NB357_356.out
        have hnb50 := NB356_358.out
        have hnc50 := NB358_356.out
        have hcz51_0 : wc.cell? ⟨gb356, 0, none⟩ = some (.int .i64 t349) := (blk_cell BK356.out 0).trans rfl
        have hcz51_1 : wc.cell? ⟨gb356, 1, none⟩ = some (.int .i64 t350) := (blk_cell BK356.out 1).trans rfl
        have hfz51_0 := blk_frozen BK356.out 0
        have hfz51_1 := blk_frozen BK356.out 1
        have hnb52 := NB357_358.out
        have hnc52 := NB358_357.out
        have hcz53_0 : wc.cell? ⟨gb357, 0, none⟩ = some (.int .i64 t351) := (blk_cell BK357.out 0).trans rfl
        have hcz53_1 : wc.cell? ⟨gb357, 1, none⟩ = some (.int .i64 t352) := (blk_cell BK357.out 1).trans rfl
        have hfz53_0 := blk_frozen BK357.out 0
        have hfz53_1 := blk_frozen BK357.out 1
        go_wp2_with (first | ((with_reducible refine gate_callee (f := 25) rfl ?_); refine goesL_ (some 51) rfl rfl Try.func25 (by kernel_rfl) rfl #[.agg #[.int .i64 t347, .int .i64 t348], .agg #[.int .i64 t349, .int .i64 t350], .agg #[.int .i64 t351, .int .i64 t352]] rfl al ?_; (with_reducible refine (impl_PointOn.calls kj5 t347 t348 t349 t350 t351 t352 false _ A31.out).mono ?_); rintro e w54 ⟨rfl, hb⟩; refine ⟨_, rfl, ?_⟩; have n0_ := Aside0.mk (blk_below (bf BK355.out) hb); have n1_ := Aside0.mk (blk_below (bf BK356.out) hb); have n2_ := Aside0.mk (blk_below (bf BK357.out) hb); have n3_ := Aside0.mk (blk_below (bf BK358.out) hb); have n4_ := Aside0.mk (below_step (lb HB.out) hb); clear BK355; clear BK356; clear BK357; clear BK358; clear HB; have BK355 := n0_; have BK356 := n1_; have BK357 := n2_; have BK358 := n3_; have HB := n4_; clear n0_ n1_ n2_ n3_ n4_; (try clear hb); (try clear hb2); (try clear hk); (try clear hi); have hcz55_0 : w54.cell? ⟨gb355, 0, none⟩ = some (.int .i64 t347) := (blk_cell BK355.out 0).trans rfl; have hcz55_1 : w54.cell? ⟨gb355, 1, none⟩ = some (.int .i64 t348) := (blk_cell BK355.out 1).trans rfl; have hfz55_0 := blk_frozen BK355.out 0; have hfz55_1 := blk_frozen BK355.out 1; have hcz56_0 : w54.cell? ⟨gb356, 0, none⟩ = some (.int .i64 t349) := (blk_cell BK356.out 0).trans rfl; have hcz56_1 : w54.cell? ⟨gb356, 1, none⟩ = some (.int .i64 t350) := (blk_cell BK356.out 1).trans rfl; have hfz56_0 := blk_frozen BK356.out 0; have hfz56_1 := blk_frozen BK356.out 1; have hcz57_0 : w54.cell? ⟨gb358, 0, none⟩ = some (.int .i64 t353) := (blk_cell BK358.out 0).trans rfl; have hcz57_1 : w54.cell? ⟨gb358, 1, none⟩ = some (.int .i64 t354) := (blk_cell BK358.out 1).trans rfl; have hfz57_0 := blk_frozen BK358.out 0; have hfz57_1 := blk_frozen BK358.out 1) | (go_at_call 25; (with_reducible refine (impl_PointOn.calls kj5 t347 t348 t349 t350 t353 t354 true _ A43.out).mono ?_); rintro e w58 ⟨rfl, hb⟩; have n0_ := Aside0.mk (blk_below (bf BK355.out) hb); have n1_ := Aside0.mk (blk_below (bf BK356.out) hb); have n2_ := Aside0.mk (blk_below (bf BK357.out) hb); have n3_ := Aside0.mk (blk_below (bf BK358.out) hb); have n4_ := Aside0.mk (below_step (lb HB.out) hb); clear BK355; clear BK356; clear BK357; clear BK358; clear HB; have BK355 := n0_; have BK356 := n1_; have BK357 := n2_; have BK358 := n3_; have HB := n4_; clear n0_ n1_ n2_ n3_ n4_; (try clear hb); (try clear hb2); (try clear hk); (try clear hi)))
        go_meet
        case rel => exact ⟨_, (true), (by first | rfl | (simp; done) | (simp [*]; done)), H', ⟨by have := HJ5.out; first | omega | exact Nat.le_refl _⟩, ⟨by (with_reducible repeat (first | refine blk_drewN ?_ _ | refine blk_drew ?_ | refine blk_alloc ?_ _)); exact BK355.out⟩, ⟨by (with_reducible repeat (first | refine blk_drewN ?_ _ | refine blk_drew ?_ | refine blk_alloc ?_ _)); exact BK356.out⟩, ⟨by (with_reducible repeat (first | refine blk_drewN ?_ _ | refine blk_drew ?_ | refine blk_alloc ?_ _)); exact BK357.out⟩, ⟨by (with_reducible repeat (first | refine blk_drewN ?_ _ | refine blk_drew ?_ | refine blk_alloc ?_ _)); exact BK358.out⟩, ⟨lb HB.out⟩⟩
       ·replace c44 := Bool.eq_false_iff.mpr c44
        subst c44
        have H1 : ((impl_PointOn.f kj5 t351 t352 t353 t354 t347 t348).bind fun t363 => (if t363 = true then (laws_FnCrossQuad.j1 kj5 true t347 t348 t349 t350 t351 t352 t353 t354) else ((impl_PointOn.f kj5 t351 t352 t353 t354 t349 t350).bind fun t364 => (laws_FnCrossQuad.j1 kj5 t364 t347 t348 t349 t350 t351 t352 t353 t354)))) = some r := by rw [if_neg (show ¬ (false = true) by decide)] at H; exact H
        clear H
        have H := H1
        clear H1
        replace H := Option.bind_eq_some_iff.mp H
        obtain ⟨t363, A590, H⟩ := H
        replace H : (if t363 = true then (laws_FnCrossQuad.j1 kj5 true t347 t348 t349 t350 t351 t352 t353 t354) else ((impl_PointOn.f kj5 t351 t352 t353 t354 t349 t350).bind fun t364 => (laws_FnCrossQuad.j1 kj5 t364 t347 t348 t349 t350 t351 t352 t353 t354))) = some r := H
        have A59 := Aside0.mk A590
        clear A590
        by_cases c60 : t363 = true
        ·subst c60
         have H1 : (laws_FnCrossQuad.j1 kj5 true t347 t348 t349 t350 t351 t352 t353 t354) = some r := by rw [if_pos rfl] at H; exact H
         clear H
         have H := H1
         clear H1
         have H' := Aside0.mk H
         clear H
         have hnb61 := NB355_356.out
         have hnc61 := NB356_355.out
         have hnb62 := NB355_357.out
         have hnc62 := NB357_355.out
         have hnb63 := NB355_358.out
         have hnc63 := NB358_355.out
         have hcz64_0 : wc.cell? ⟨gb355, 0, none⟩ = some (.int .i64 t347) := (blk_cell BK355.out 0).trans rfl
         have hcz64_1 : wc.cell? ⟨gb355, 1, none⟩ = some (.int .i64 t348) := (blk_cell BK355.out 1).trans rfl
         have hfz64_0 := blk_frozen BK355.out 0
         have hfz64_1 := blk_frozen BK355.out 1
         have hnb65 := NB356_357.out
         have hnc65 := NB357_356.out
         have hnb66 := NB356_358.out
         have hnc66 := NB358_356.out
         have hcz67_0 : wc.cell? ⟨gb356, 0, none⟩ = some (.int .i64 t349) := (blk_cell BK356.out 0).trans rfl
         have hcz67_1 : wc.cell? ⟨gb356, 1, none⟩ = some (.int .i64 t350) := (blk_cell BK356.out 1).trans rfl
         have hfz67_0 := blk_frozen BK356.out 0
         have hfz67_1 := blk_frozen BK356.out 1
         have hnb68 := NB357_358.out
         have hnc68 := NB358_357.out
         have hcz69_0 : wc.cell? ⟨gb357, 0, none⟩ = some (.int .i64 t351) := (blk_cell BK357.out 0).trans rfl
         have hcz69_1 : wc.cell? ⟨gb357, 1, none⟩ = some (.int .i64 t352) := (blk_cell BK357.out 1).trans rfl
         have hfz69_0 := blk_frozen BK357.out 0
         have hfz69_1 := blk_frozen BK357.out 1
         go_wp2_with (first | ((with_reducible refine gate_callee (f := 25) rfl ?_); refine goesL_ (some 51) rfl rfl Try.func25 (by kernel_rfl) rfl #[.agg #[.int .i64 t347, .int .i64 t348], .agg #[.int .i64 t349, .int .i64 t350], .agg #[.int .i64 t351, .int .i64 t352]] rfl al ?_; (with_reducible refine (impl_PointOn.calls kj5 t347 t348 t349 t350 t351 t352 false _ A31.out).mono ?_); rintro e w70 ⟨rfl, hb⟩; refine ⟨_, rfl, ?_⟩; have n0_ := Aside0.mk (blk_below (bf BK355.out) hb); have n1_ := Aside0.mk (blk_below (bf BK356.out) hb); have n2_ := Aside0.mk (blk_below (bf BK357.out) hb); have n3_ := Aside0.mk (blk_below (bf BK358.out) hb); have n4_ := Aside0.mk (below_step (lb HB.out) hb); clear BK355; clear BK356; clear BK357; clear BK358; clear HB; have BK355 := n0_; have BK356 := n1_; have BK357 := n2_; have BK358 := n3_; have HB := n4_; clear n0_ n1_ n2_ n3_ n4_; (try clear hb); (try clear hb2); (try clear hk); (try clear hi); have hcz71_0 : w70.cell? ⟨gb355, 0, none⟩ = some (.int .i64 t347) := (blk_cell BK355.out 0).trans rfl; have hcz71_1 : w70.cell? ⟨gb355, 1, none⟩ = some (.int .i64 t348) := (blk_cell BK355.out 1).trans rfl; have hfz71_0 := blk_frozen BK355.out 0; have hfz71_1 := blk_frozen BK355.out 1; have hcz72_0 : w70.cell? ⟨gb356, 0, none⟩ = some (.int .i64 t349) := (blk_cell BK356.out 0).trans rfl; have hcz72_1 : w70.cell? ⟨gb356, 1, none⟩ = some (.int .i64 t350) := (blk_cell BK356.out 1).trans rfl; have hfz72_0 := blk_frozen BK356.out 0; have hfz72_1 := blk_frozen BK356.out 1; have hcz73_0 : w70.cell? ⟨gb358, 0, none⟩ = some (.int .i64 t353) := (blk_cell BK358.out 0).trans rfl; have hcz73_1 : w70.cell? ⟨gb358, 1, none⟩ = some (.int .i64 t354) := (blk_cell BK358.out 1).trans rfl; have hfz73_0 := blk_frozen BK358.out 0; have hfz73_1 := blk_frozen BK358.out 1) | (go_at_call 25; (with_reducible refine (impl_PointOn.calls kj5 t347 t348 t349 t350 t353 t354 false _ A43.out).mono ?_); rintro e w74 ⟨rfl, hb⟩; have n0_ := Aside0.mk (blk_below (bf BK355.out) hb); have n1_ := Aside0.mk (blk_below (bf BK356.out) hb); have n2_ := Aside0.mk (blk_below (bf BK357.out) hb); have n3_ := Aside0.mk (blk_below (bf BK358.out) hb); have n4_ := Aside0.mk (below_step (lb HB.out) hb); clear BK355; clear BK356; clear BK357; clear BK358; clear HB; have BK355 := n0_; have BK356 := n1_; have BK357 := n2_; have BK358 := n3_; have HB := n4_; clear n0_ n1_ n2_ n3_ n4_; (try clear hb); (try clear hb2); (try clear hk); (try clear hi); have hcz75_0 : w74.cell? ⟨gb357, 0, none⟩ = some (.int .i64 t351) := (blk_cell BK357.out 0).trans rfl; have hcz75_1 : w74.cell? ⟨gb357, 1, none⟩ = some (.int .i64 t352) := (blk_cell BK357.out 1).trans rfl; have hfz75_0 := blk_frozen BK357.out 0; have hfz75_1 := blk_frozen BK357.out 1; have hcz76_0 : w74.cell? ⟨gb358, 0, none⟩ = some (.int .i64 t353) := (blk_cell BK358.out 0).trans rfl; have hcz76_1 : w74.cell? ⟨gb358, 1, none⟩ = some (.int .i64 t354) := (blk_cell BK358.out 1).trans rfl; have hfz76_0 := blk_frozen BK358.out 0; have hfz76_1 := blk_frozen BK358.out 1; have hcz77_0 : w74.cell? ⟨gb355, 0, none⟩ = some (.int .i64 t347) := (blk_cell BK355.out 0).trans rfl; have hcz77_1 : w74.cell? ⟨gb355, 1, none⟩ = some (.int .i64 t348) := (blk_cell BK355.out 1).trans rfl; have hfz77_0 := blk_frozen BK355.out 0; have hfz77_1 := blk_frozen BK355.out 1) | (go_at_call 25; (with_reducible refine (impl_PointOn.calls kj5 t351 t352 t353 t354 t347 t348 true _ A59.out).mono ?_); rintro e w78 ⟨rfl, hb⟩; have n0_ := Aside0.mk (blk_below (bf BK355.out) hb); have n1_ := Aside0.mk (blk_below (bf BK356.out) hb); have n2_ := Aside0.mk (blk_below (bf BK357.out) hb); have n3_ := Aside0.mk (blk_below (bf BK358.out) hb); have n4_ := Aside0.mk (below_step (lb HB.out) hb); clear BK355; clear BK356; clear BK357; clear BK358; clear HB; have BK355 := n0_; have BK356 := n1_; have BK357 := n2_; have BK358 := n3_; have HB := n4_; clear n0_ n1_ n2_ n3_ n4_; (try clear hb); (try clear hb2); (try clear hk); (try clear hi)))
         go_meet
         case rel => exact ⟨_, (true), (by first | rfl | (simp; done) | (simp [*]; done)), H', ⟨by have := HJ5.out; first | omega | exact Nat.le_refl _⟩, ⟨by (with_reducible repeat (first | refine blk_drewN ?_ _ | refine blk_drew ?_ | refine blk_alloc ?_ _)); exact BK355.out⟩, ⟨by (with_reducible repeat (first | refine blk_drewN ?_ _ | refine blk_drew ?_ | refine blk_alloc ?_ _)); exact BK356.out⟩, ⟨by (with_reducible repeat (first | refine blk_drewN ?_ _ | refine blk_drew ?_ | refine blk_alloc ?_ _)); exact BK357.out⟩, ⟨by (with_reducible repeat (first | refine blk_drewN ?_ _ | refine blk_drew ?_ | refine blk_alloc ?_ _)); exact BK358.out⟩, ⟨lb HB.out⟩⟩
        ·replace c60 := Bool.eq_false_iff.mpr c60
         subst c60
         have H1 : ((impl_PointOn.f kj5 t351 t352 t353 t354 t349 t350).bind fun t364 => (laws_FnCrossQuad.j1 kj5 t364 t347 t348 t349 t350 t351 t352 t353 t354)) = some r := by rw [if_neg (show ¬ (false = true) by decide)] at H; exact H
         clear H
         have H := H1
         clear H1
         replace H := Option.bind_eq_some_iff.mp H
         obtain ⟨t364, A790, H⟩ := H
         replace H : (laws_FnCrossQuad.j1 kj5 t364 t347 t348 t349 t350 t351 t352 t353 t354) = some r := H
         have A79 := Aside0.mk A790
         clear A790
         have H' := Aside0.mk H
         clear H
         have hnb80 := NB355_356.out
         have hnc80 := NB356_355.out
         have hnb81 := NB355_357.out
         have hnc81 := NB357_355.out
         have hnb82 := NB355_358.out
         have hnc82 := NB358_355.out
         have hcz83_0 : wc.cell? ⟨gb355, 0, none⟩ = some (.int .i64 t347) := (blk_cell BK355.out 0).trans rfl
         have hcz83_1 : wc.cell? ⟨gb355, 1, none⟩ = some (.int .i64 t348) := (blk_cell BK355.out 1).trans rfl
         have hfz83_0 := blk_frozen BK355.out 0
         have hfz83_1 := blk_frozen BK355.out 1
         have hnb84 := NB356_357.out
         have hnc84 := NB357_356.out
         have hnb85 := NB356_358.out
         have hnc85 := NB358_356.out
         have hcz86_0 : wc.cell? ⟨gb356, 0, none⟩ = some (.int .i64 t349) := (blk_cell BK356.out 0).trans rfl
         have hcz86_1 : wc.cell? ⟨gb356, 1, none⟩ = some (.int .i64 t350) := (blk_cell BK356.out 1).trans rfl
         have hfz86_0 := blk_frozen BK356.out 0
         have hfz86_1 := blk_frozen BK356.out 1
         have hnb87 := NB357_358.out
         have hnc87 := NB358_357.out
         have hcz88_0 : wc.cell? ⟨gb357, 0, none⟩ = some (.int .i64 t351) := (blk_cell BK357.out 0).trans rfl
         have hcz88_1 : wc.cell? ⟨gb357, 1, none⟩ = some (.int .i64 t352) := (blk_cell BK357.out 1).trans rfl
         have hfz88_0 := blk_frozen BK357.out 0
         have hfz88_1 := blk_frozen BK357.out 1
         go_wp2_with (first | ((with_reducible refine gate_callee (f := 25) rfl ?_); refine goesL_ (some 51) rfl rfl Try.func25 (by kernel_rfl) rfl #[.agg #[.int .i64 t347, .int .i64 t348], .agg #[.int .i64 t349, .int .i64 t350], .agg #[.int .i64 t351, .int .i64 t352]] rfl al ?_; (with_reducible refine (impl_PointOn.calls kj5 t347 t348 t349 t350 t351 t352 false _ A31.out).mono ?_); rintro e w89 ⟨rfl, hb⟩; refine ⟨_, rfl, ?_⟩; have n0_ := Aside0.mk (blk_below (bf BK355.out) hb); have n1_ := Aside0.mk (blk_below (bf BK356.out) hb); have n2_ := Aside0.mk (blk_below (bf BK357.out) hb); have n3_ := Aside0.mk (blk_below (bf BK358.out) hb); have n4_ := Aside0.mk (below_step (lb HB.out) hb); clear BK355; clear BK356; clear BK357; clear BK358; clear HB; have BK355 := n0_; have BK356 := n1_; have BK357 := n2_; have BK358 := n3_; have HB := n4_; clear n0_ n1_ n2_ n3_ n4_; (try clear hb); (try clear hb2); (try clear hk); (try clear hi); have hcz90_0 : w89.cell? ⟨gb355, 0, none⟩ = some (.int .i64 t347) := (blk_cell BK355.out 0).trans rfl; have hcz90_1 : w89.cell? ⟨gb355, 1, none⟩ = some (.int .i64 t348) := (blk_cell BK355.out 1).trans rfl; have hfz90_0 := blk_frozen BK355.out 0; have hfz90_1 := blk_frozen BK355.out 1; have hcz91_0 : w89.cell? ⟨gb356, 0, none⟩ = some (.int .i64 t349) := (blk_cell BK356.out 0).trans rfl; have hcz91_1 : w89.cell? ⟨gb356, 1, none⟩ = some (.int .i64 t350) := (blk_cell BK356.out 1).trans rfl; have hfz91_0 := blk_frozen BK356.out 0; have hfz91_1 := blk_frozen BK356.out 1; have hcz92_0 : w89.cell? ⟨gb358, 0, none⟩ = some (.int .i64 t353) := (blk_cell BK358.out 0).trans rfl; have hcz92_1 : w89.cell? ⟨gb358, 1, none⟩ = some (.int .i64 t354) := (blk_cell BK358.out 1).trans rfl; have hfz92_0 := blk_frozen BK358.out 0; have hfz92_1 := blk_frozen BK358.out 1) | (go_at_call 25; (with_reducible refine (impl_PointOn.calls kj5 t347 t348 t349 t350 t353 t354 false _ A43.out).mono ?_); rintro e w93 ⟨rfl, hb⟩; have n0_ := Aside0.mk (blk_below (bf BK355.out) hb); have n1_ := Aside0.mk (blk_below (bf BK356.out) hb); have n2_ := Aside0.mk (blk_below (bf BK357.out) hb); have n3_ := Aside0.mk (blk_below (bf BK358.out) hb); have n4_ := Aside0.mk (below_step (lb HB.out) hb); clear BK355; clear BK356; clear BK357; clear BK358; clear HB; have BK355 := n0_; have BK356 := n1_; have BK357 := n2_; have BK358 := n3_; have HB := n4_; clear n0_ n1_ n2_ n3_ n4_; (try clear hb); (try clear hb2); (try clear hk); (try clear hi); have hcz94_0 : w93.cell? ⟨gb357, 0, none⟩ = some (.int .i64 t351) := (blk_cell BK357.out 0).trans rfl; have hcz94_1 : w93.cell? ⟨gb357, 1, none⟩ = some (.int .i64 t352) := (blk_cell BK357.out 1).trans rfl; have hfz94_0 := blk_frozen BK357.out 0; have hfz94_1 := blk_frozen BK357.out 1; have hcz95_0 : w93.cell? ⟨gb358, 0, none⟩ = some (.int .i64 t353) := (blk_cell BK358.out 0).trans rfl; have hcz95_1 : w93.cell? ⟨gb358, 1, none⟩ = some (.int .i64 t354) := (blk_cell BK358.out 1).trans rfl; have hfz95_0 := blk_frozen BK358.out 0; have hfz95_1 := blk_frozen BK358.out 1; have hcz96_0 : w93.cell? ⟨gb355, 0, none⟩ = some (.int .i64 t347) := (blk_cell BK355.out 0).trans rfl; have hcz96_1 : w93.cell? ⟨gb355, 1, none⟩ = some (.int .i64 t348) := (blk_cell BK355.out 1).trans rfl; have hfz96_0 := blk_frozen BK355.out 0; have hfz96_1 := blk_frozen BK355.out 1) | (go_at_call 25; (with_reducible refine (impl_PointOn.calls kj5 t351 t352 t353 t354 t347 t348 false _ A59.out).mono ?_); rintro e w97 ⟨rfl, hb⟩; have n0_ := Aside0.mk (blk_below (bf BK355.out) hb); have n1_ := Aside0.mk (blk_below (bf BK356.out) hb); have n2_ := Aside0.mk (blk_below (bf BK357.out) hb); have n3_ := Aside0.mk (blk_below (bf BK358.out) hb); have n4_ := Aside0.mk (below_step (lb HB.out) hb); clear BK355; clear BK356; clear BK357; clear BK358; clear HB; have BK355 := n0_; have BK356 := n1_; have BK357 := n2_; have BK358 := n3_; have HB := n4_; clear n0_ n1_ n2_ n3_ n4_; (try clear hb); (try clear hb2); (try clear hk); (try clear hi); have hcz98_0 : w97.cell? ⟨gb357, 0, none⟩ = some (.int .i64 t351) := (blk_cell BK357.out 0).trans rfl; have hcz98_1 : w97.cell? ⟨gb357, 1, none⟩ = some (.int .i64 t352) := (blk_cell BK357.out 1).trans rfl; have hfz98_0 := blk_frozen BK357.out 0; have hfz98_1 := blk_frozen BK357.out 1; have hcz99_0 : w97.cell? ⟨gb358, 0, none⟩ = some (.int .i64 t353) := (blk_cell BK358.out 0).trans rfl; have hcz99_1 : w97.cell? ⟨gb358, 1, none⟩ = some (.int .i64 t354) := (blk_cell BK358.out 1).trans rfl; have hfz99_0 := blk_frozen BK358.out 0; have hfz99_1 := blk_frozen BK358.out 1; have hcz100_0 : w97.cell? ⟨gb356, 0, none⟩ = some (.int .i64 t349) := (blk_cell BK356.out 0).trans rfl; have hcz100_1 : w97.cell? ⟨gb356, 1, none⟩ = some (.int .i64 t350) := (blk_cell BK356.out 1).trans rfl; have hfz100_0 := blk_frozen BK356.out 0; have hfz100_1 := blk_frozen BK356.out 1) | (go_at_call 25; (with_reducible refine (impl_PointOn.calls kj5 t351 t352 t353 t354 t349 t350 t364 _ A79.out).mono ?_); rintro e w101 ⟨rfl, hb⟩; have n0_ := Aside0.mk (blk_below (bf BK355.out) hb); have n1_ := Aside0.mk (blk_below (bf BK356.out) hb); have n2_ := Aside0.mk (blk_below (bf BK357.out) hb); have n3_ := Aside0.mk (blk_below (bf BK358.out) hb); have n4_ := Aside0.mk (below_step (lb HB.out) hb); clear BK355; clear BK356; clear BK357; clear BK358; clear HB; have BK355 := n0_; have BK356 := n1_; have BK357 := n2_; have BK358 := n3_; have HB := n4_; clear n0_ n1_ n2_ n3_ n4_; (try clear hb); (try clear hb2); (try clear hk); (try clear hi)))
         go_meet
         case rel => exact ⟨_, (t364), (by first | rfl | (simp; done) | (simp [*]; done)), H', ⟨by have := HJ5.out; first | omega | exact Nat.le_refl _⟩, ⟨by (with_reducible repeat (first | refine blk_drewN ?_ _ | refine blk_drew ?_ | refine blk_alloc ?_ _)); exact BK355.out⟩, ⟨by (with_reducible repeat (first | refine blk_drewN ?_ _ | refine blk_drew ?_ | refine blk_alloc ?_ _)); exact BK356.out⟩, ⟨by (with_reducible repeat (first | refine blk_drewN ?_ _ | refine blk_drew ?_ | refine blk_alloc ?_ _)); exact BK357.out⟩, ⟨by (with_reducible repeat (first | refine blk_drewN ?_ _ | refine blk_drew ?_ | refine blk_alloc ?_ _)); exact BK358.out⟩, ⟨lb HB.out⟩⟩
     case rest =>
      clear HC30
      try clear c1
      try clear c2
      try clear c2b0
      try clear c2b1
      try clear p2
      try clear c3
      try clear c4
      try clear c5
      try clear c6
      try clear c8
      try clear c12
      try clear c13
      try clear c14
      try clear c16
      try clear c17
      try clear c19
      try clear c25
      try clear c27
      try clear c28
      try clear c28b0
      try clear c28b1
      try clear c28b2
      try clear c29
      try clear c32
      try clear c33
      try clear c34
      try clear c35
      try clear c37
      try clear c38
      try clear c40
      try clear c44
      try clear c45
      try clear c46
      try clear c47
      try clear c49
      try clear c50
      try clear c52
      try clear c60
      try clear c61
      try clear c62
      try clear c63
      try clear c65
      try clear c66
      try clear c68
      try clear c80
      try clear c81
      try clear c82
      try clear c84
      try clear c85
      try clear c87
      try clear hcz100_0
      try clear hcz100_1
      try clear hcz15_0
      try clear hcz15_1
      try clear hcz18_0
      try clear hcz18_1
      try clear hcz20_0
      try clear hcz20_1
      try clear hcz21_0
      try clear hcz21_1
      try clear hcz23_0
      try clear hcz23_1
      try clear hcz24_0
      try clear hcz24_1
      try clear hcz25_0
      try clear hcz25_1
      try clear hcz26_0
      try clear hcz26_1
      try clear hcz36_0
      try clear hcz36_1
      try clear hcz39_0
      try clear hcz39_1
      try clear hcz41_0
      try clear hcz41_1
      try clear hcz48_0
      try clear hcz48_1
      try clear hcz51_0
      try clear hcz51_1
      try clear hcz53_0
      try clear hcz53_1
      try clear hcz55_0
      try clear hcz55_1
      try clear hcz56_0
      try clear hcz56_1
      try clear hcz57_0
      try clear hcz57_1
      try clear hcz64_0
      try clear hcz64_1
      try clear hcz67_0
      try clear hcz67_1
      try clear hcz69_0
      try clear hcz69_1
      try clear hcz71_0
      try clear hcz71_1
      try clear hcz72_0
      try clear hcz72_1
      try clear hcz73_0
      try clear hcz73_1
      try clear hcz75_0
      try clear hcz75_1
      try clear hcz76_0
      try clear hcz76_1
      try clear hcz77_0
      try clear hcz77_1
      try clear hcz83_0
      try clear hcz83_1
      try clear hcz86_0
      try clear hcz86_1
      try clear hcz88_0
      try clear hcz88_1
      try clear hcz90_0
      try clear hcz90_1
      try clear hcz91_0
      try clear hcz91_1
      try clear hcz92_0
      try clear hcz92_1
      try clear hcz94_0
      try clear hcz94_1
      try clear hcz95_0
      try clear hcz95_1
      try clear hcz96_0
      try clear hcz96_1
      try clear hcz98_0
      try clear hcz98_1
      try clear hcz99_0
      try clear hcz99_1
      try clear hfz100_0
      try clear hfz100_1
      try clear hfz15_0
      try clear hfz15_1
      try clear hfz18_0
      try clear hfz18_1
      try clear hfz20_0
      try clear hfz20_1
      try clear hfz21_0
      try clear hfz21_1
      try clear hfz23_0
      try clear hfz23_1
      try clear hfz24_0
      try clear hfz24_1
      try clear hfz25_0
      try clear hfz25_1
      try clear hfz26_0
      try clear hfz26_1
      try clear hfz36_0
      try clear hfz36_1
      try clear hfz39_0
      try clear hfz39_1
      try clear hfz41_0
      try clear hfz41_1
      try clear hfz48_0
      try clear hfz48_1
      try clear hfz51_0
      try clear hfz51_1
      try clear hfz53_0
      try clear hfz53_1
      try clear hfz55_0
      try clear hfz55_1
      try clear hfz56_0
      try clear hfz56_1
      try clear hfz57_0
      try clear hfz57_1
      try clear hfz64_0
      try clear hfz64_1
      try clear hfz67_0
      try clear hfz67_1
      try clear hfz69_0
      try clear hfz69_1
      try clear hfz71_0
      try clear hfz71_1
      try clear hfz72_0
      try clear hfz72_1
      try clear hfz73_0
      try clear hfz73_1
      try clear hfz75_0
      try clear hfz75_1
      try clear hfz76_0
      try clear hfz76_1
      try clear hfz77_0
      try clear hfz77_1
      try clear hfz83_0
      try clear hfz83_1
      try clear hfz86_0
      try clear hfz86_1
      try clear hfz88_0
      try clear hfz88_1
      try clear hfz90_0
      try clear hfz90_1
      try clear hfz91_0
      try clear hfz91_1
      try clear hfz92_0
      try clear hfz92_1
      try clear hfz94_0
      try clear hfz94_1
      try clear hfz95_0
      try clear hfz95_1
      try clear hfz96_0
      try clear hfz96_1
      try clear hfz98_0
      try clear hfz98_1
      try clear hfz99_0
      try clear hfz99_1
      try clear p2
      obtain ⟨kq, x9_29, rfl, HA, HJ29, BK355, BK356, BK357, BK358, HB⟩ := hcut
      cases kq with
      | zero => exact absurd HA.out (by simp [laws_FnCrossQuad.j1])
      | succ kj29 =>
       have H := HA.out
       clear HA
       simp only [laws_FnCrossQuad.j1] at H
       by_cases c102 : x9_29 = true
       ·subst c102
        have H1 : ((impl_CrossInner.f t347 t348 t349 t350 t353 t354 t351 t352).bind fun t365 => (some t365)) = some r := by rw [if_pos rfl] at H; exact H
        clear H
        have H := H1
        clear H1
        replace H := Option.bind_eq_some_iff.mp H
        obtain ⟨t365, A1030, H⟩ := H
        replace H : (some t365) = some r := H
        have A103 := Aside0.mk A1030
        clear A1030
        obtain rfl := Option.some.inj H
        have hnb104 := NB355_356.out
        have hnc104 := NB356_355.out
        have hnb105 := NB355_357.out
        have hnc105 := NB357_355.out
        have hnb106 := NB355_358.out
        have hnc106 := NB358_355.out
        have hcz107_0 : wc.cell? ⟨gb355, 0, none⟩ = some (.int .i64 t347) := (blk_cell BK355.out 0).trans rfl
        have hcz107_1 : wc.cell? ⟨gb355, 1, none⟩ = some (.int .i64 t348) := (blk_cell BK355.out 1).trans rfl
        have hfz107_0 := blk_frozen BK355.out 0
        have hfz107_1 := blk_frozen BK355.out 1
        have hnb108 := NB356_357.out
        have hnc108 := NB357_356.out
        have hnb109 := NB356_358.out
        have hnc109 := NB358_356.out
        have hcz110_0 : wc.cell? ⟨gb356, 0, none⟩ = some (.int .i64 t349) := (blk_cell BK356.out 0).trans rfl
        have hcz110_1 : wc.cell? ⟨gb356, 1, none⟩ = some (.int .i64 t350) := (blk_cell BK356.out 1).trans rfl
        have hfz110_0 := blk_frozen BK356.out 0
        have hfz110_1 := blk_frozen BK356.out 1
        have hnb111 := NB358_357.out
        have hnc111 := NB357_358.out
        have hcz112_0 : wc.cell? ⟨gb358, 0, none⟩ = some (.int .i64 t353) := (blk_cell BK358.out 0).trans rfl
        have hcz112_1 : wc.cell? ⟨gb358, 1, none⟩ = some (.int .i64 t354) := (blk_cell BK358.out 1).trans rfl
        have hfz112_0 := blk_frozen BK358.out 0
        have hfz112_1 := blk_frozen BK358.out 1
        have hcz113_0 : wc.cell? ⟨gb357, 0, none⟩ = some (.int .i64 t351) := (blk_cell BK357.out 0).trans rfl
        have hcz113_1 : wc.cell? ⟨gb357, 1, none⟩ = some (.int .i64 t352) := (blk_cell BK357.out 1).trans rfl
        have hfz113_0 := blk_frozen BK357.out 0
        have hfz113_1 := blk_frozen BK357.out 1
        go_wp2_with (first | ((with_reducible refine gate_callee (f := 28) rfl ?_); refine goesL_ (some 75) rfl rfl Try.func28 (by kernel_rfl) rfl #[.agg #[.int .i64 t347, .int .i64 t348], .agg #[.int .i64 t349, .int .i64 t350], .agg #[.int .i64 t353, .int .i64 t354], .agg #[.int .i64 t351, .int .i64 t352]] rfl al ?_; (with_reducible refine (impl_CrossInner.calls t347 t348 t349 t350 t353 t354 t351 t352 t365 _ A103.out).mono ?_); rintro e w114 ⟨rfl, hb⟩; refine ⟨_, rfl, ?_⟩; have n0_ := Aside0.mk (blk_below (bf BK355.out) hb); have n1_ := Aside0.mk (blk_below (bf BK356.out) hb); have n2_ := Aside0.mk (blk_below (bf BK357.out) hb); have n3_ := Aside0.mk (blk_below (bf BK358.out) hb); have n4_ := Aside0.mk (below_step (lb HB.out) hb); clear BK355; clear BK356; clear BK357; clear BK358; clear HB; have BK355 := n0_; have BK356 := n1_; have BK357 := n2_; have BK358 := n3_; have HB := n4_; clear n0_ n1_ n2_ n3_ n4_; (try clear hb); (try clear hb2); (try clear hk); (try clear hi)))
        go_ret
        exact ⟨er, lb HB.out⟩
       ·replace c102 := Bool.eq_false_iff.mpr c102
        subst c102
        have H1 : ((some (([(⟨t347, t348⟩ : S33), (⟨t351, t352⟩ : S33), (⟨t349, t350⟩ : S33), (⟨t353, t354⟩ : S33)] : List (S33)) : List (S33))).bind fun y366 => ((impl_PolyArea.f y366).bind fun bt369 => (if bt369.1 < 0 then ((impl_PolyBack.f kj29 y366).bind fun bt371 => (if bt369.2 = true then (laws_FnCrossQuad.j2 kj29 y366 bt371.2 bt371.1 t347 t348 t349 t350 t351 t352 t353 t354) else (laws_FnCrossQuad.j2 kj29 y366 false bt371.1 t347 t348 t349 t350 t351 t352 t353 t354))) else (laws_FnCrossQuad.j2 kj29 y366 bt369.2 y366 t347 t348 t349 t350 t351 t352 t353 t354)))) = some r := by rw [if_neg (show ¬ (false = true) by decide)] at H; exact H
        clear H
        have H := H1
        clear H1
        obtain ⟨y366, hy366⟩ : ∃ y_ : List (S33), y_ = (([(⟨t347, t348⟩ : S33), (⟨t351, t352⟩ : S33), (⟨t349, t350⟩ : S33), (⟨t353, t354⟩ : S33)] : List (S33))) := ⟨_, rfl⟩
        replace H : ((impl_PolyArea.f y366).bind fun bt369 => (if bt369.1 < 0 then ((impl_PolyBack.f kj29 y366).bind fun bt371 => (if bt369.2 = true then (laws_FnCrossQuad.j2 kj29 y366 bt371.2 bt371.1 t347 t348 t349 t350 t351 t352 t353 t354) else (laws_FnCrossQuad.j2 kj29 y366 false bt371.1 t347 t348 t349 t350 t351 t352 t353 t354))) else (laws_FnCrossQuad.j2 kj29 y366 bt369.2 y366 t347 t348 t349 t350 t351 t352 t353 t354))) = some r := by first | (rw [hy366]; with_reducible exact H) | (have H2_ := (Option.bind_some _ _).symm.trans H; rw [hy366]; with_reducible exact H2_) | (have H2_ := (Option.bind_some _ _).symm.trans H; with_reducible exact H2_) | with_reducible exact H | (rw [hy366]; exact H) | exact H
        have Ny366 := Aside0.mk hy366
        clear hy366
        replace H := Option.bind_eq_some_iff.mp H
        obtain ⟨⟨t369, t370⟩, A1150, H⟩ := H
        replace H : (if t369 < 0 then ((impl_PolyBack.f kj29 y366).bind fun bt371 => (if t370 = true then (laws_FnCrossQuad.j2 kj29 y366 bt371.2 bt371.1 t347 t348 t349 t350 t351 t352 t353 t354) else (laws_FnCrossQuad.j2 kj29 y366 false bt371.1 t347 t348 t349 t350 t351 t352 t353 t354))) else (laws_FnCrossQuad.j2 kj29 y366 t370 y366 t347 t348 t349 t350 t351 t352 t353 t354)) = some r := H
        have A115 := Aside0.mk A1150
        clear A1150
        have HC116 := Aside0.mk H
        clear H
        have hnb117 := NB355_356.out
        have hnc117 := NB356_355.out
        have hnb118 := NB355_357.out
        have hnc118 := NB357_355.out
        have hnb119 := NB355_358.out
        have hnc119 := NB358_355.out
        have hcz120_0 : wc.cell? ⟨gb355, 0, none⟩ = some (.int .i64 t347) := (blk_cell BK355.out 0).trans rfl
        have hcz120_1 : wc.cell? ⟨gb355, 1, none⟩ = some (.int .i64 t348) := (blk_cell BK355.out 1).trans rfl
        have hfz120_0 := blk_frozen BK355.out 0
        have hfz120_1 := blk_frozen BK355.out 1
        have hnb121 := NB357_356.out
        have hnc121 := NB356_357.out
        have hnb122 := NB357_358.out
        have hnc122 := NB358_357.out
        have hcz123_0 : wc.cell? ⟨gb357, 0, none⟩ = some (.int .i64 t351) := (blk_cell BK357.out 0).trans rfl
        have hcz123_1 : wc.cell? ⟨gb357, 1, none⟩ = some (.int .i64 t352) := (blk_cell BK357.out 1).trans rfl
        have hfz123_0 := blk_frozen BK357.out 0
        have hfz123_1 := blk_frozen BK357.out 1
        have hnb124 := NB356_358.out
        have hnc124 := NB358_356.out
        have hcz125_0 : wc.cell? ⟨gb356, 0, none⟩ = some (.int .i64 t349) := (blk_cell BK356.out 0).trans rfl
        have hcz125_1 : wc.cell? ⟨gb356, 1, none⟩ = some (.int .i64 t350) := (blk_cell BK356.out 1).trans rfl
        have hfz125_0 := blk_frozen BK356.out 0
        have hfz125_1 := blk_frozen BK356.out 1
        have hcz126_0 : wc.cell? ⟨gb358, 0, none⟩ = some (.int .i64 t353) := (blk_cell BK358.out 0).trans rfl
        have hcz126_1 : wc.cell? ⟨gb358, 1, none⟩ = some (.int .i64 t354) := (blk_cell BK358.out 1).trans rfl
        have hfz126_0 := blk_frozen BK358.out 0
        have hfz126_1 := blk_frozen BK358.out 1
        go_upto_if 88 with (first | ((with_reducible refine gate_dst (N := 80) rfl ?_); (try (refine gate_guard (by rfl) ?_; dsimp only)); refine Kd.R_lit k33 _ 33 ?hg (N := 80) ?hd (xs := ([(⟨t347, t348⟩ : S33), (⟨t351, t352⟩ : S33), (⟨t349, t350⟩ : S33), (⟨t353, t354⟩ : S33)] : List (S33))) (inner := [.int .i64 t347, .int .i64 t348, .int .i64 t351, .int .i64 t352, .int .i64 t349, .int .i64 t350, .int .i64 t353, .int .i64 t354]) (ok := fun _ => True) (okp := fun _ => True) ?hr ?hp (fun _ hk => hk) trivial (Below.refl _ _) (Nat.le_refl _) (by simp) ?_; (case hd => rfl); (case hg => rfl); (case hr => first | (go_simp; done) | (go_simp; rfl)); (case hp => exact (Reps.c2 (show Kd.M k33 _ _ _ (⟨t347, t348⟩ : S33) [.int .i64 t347, .int .i64 t348] from (k33_mkM _ _ _ (⟨t347, t348⟩ : S33) )) (Reps.c2 (show Kd.M k33 _ _ _ (⟨t351, t352⟩ : S33) [.int .i64 t351, .int .i64 t352] from (k33_mkM _ _ _ (⟨t351, t352⟩ : S33) )) (Reps.c2 (show Kd.M k33 _ _ _ (⟨t349, t350⟩ : S33) [.int .i64 t349, .int .i64 t350] from (k33_mkM _ _ _ (⟨t349, t350⟩ : S33) )) (Reps.c2 (show Kd.M k33 _ _ _ (⟨t353, t354⟩ : S33) [.int .i64 t353, .int .i64 t354] from (k33_mkM _ _ _ (⟨t353, t354⟩ : S33) )) (Reps.none _ _)))))); intro v367 w127 ho128 hb hg_ hnew_; clear hg_ hnew_; (first | rw [← Ny366.out] at ho128 | (simp only [Int.reduceToNat] at ho128; rw [← Ny366.out] at ho128)); have n0_ := Aside0.mk (Kd.R_lower (Kd.R_newB (Kd.R_newB (Kd.R_newB (Kd.R_newB ho128 (g := gb355) (o := .cells #[.int .i64 t347, .int .i64 t348] 33 (0, 0)) (bf BK355.out)) (g := gb356) (o := .cells #[.int .i64 t349, .int .i64 t350] 33 (0, 0)) (bf BK356.out)) (g := gb357) (o := .cells #[.int .i64 t351, .int .i64 t352] 33 (0, 0)) (bf BK357.out)) (g := gb358) (o := .cells #[.int .i64 t353, .int .i64 t354] 33 (0, 0)) (bf BK358.out)) (below_size (lb HB.out))); have n1_ := Aside0.mk (blk_below (bf BK355.out) hb); have n2_ := Aside0.mk (blk_below (bf BK356.out) hb); have n3_ := Aside0.mk (blk_below (bf BK357.out) hb); have n4_ := Aside0.mk (blk_below (bf BK358.out) hb); have n5_ := Aside0.mk (below_step (lb HB.out) hb); clear BK355; clear BK356; clear BK357; clear BK358; clear HB; have HO368 := n0_; have BK355 := n1_; have BK356 := n2_; have BK357 := n3_; have BK358 := n4_; have HB := n5_; clear n0_ n1_ n2_ n3_ n4_ n5_; clear hb ho128; obtain ⟨Ao129, co129, eo129⟩ := Kd.R_slice HO368.out; subst eo129) | ((with_reducible refine gate_callee (f := 11) rfl ?_); refine goesL_ (some 83) rfl rfl Try.func11 (by kernel_rfl) rfl #[.slice Ao129 y366.length co129] rfl al ?_; (with_reducible refine (impl_PolyArea.calls _ _ y366 t369 t370 _ ?side1 ?side2 A115.out).mono ?_); (case side1 => repeat (first | exact (Kd.R_reads' HO368.out).2.2 | (with_reducible refine Kd.C_alloc ?_ _) | (with_reducible refine Kd.C_drewN ?_ _) | (with_reducible refine Kd.C_drew ?_))); (case side2 => exact (Kd.R_reads' HO368.out).2.1); rintro e w130 ⟨rfl, hb⟩; refine ⟨_, rfl, ?_⟩; have n0_ := Aside0.mk (Kd.R_below (by (with_reducible repeat (first | apply Kd.R_alloc | apply Kd.R_drewN | apply Kd.R_drew)); exact HO368.out) hb); have n1_ := Aside0.mk (blk_below (bf BK355.out) hb); have n2_ := Aside0.mk (blk_below (bf BK356.out) hb); have n3_ := Aside0.mk (blk_below (bf BK357.out) hb); have n4_ := Aside0.mk (blk_below (bf BK358.out) hb); have n5_ := Aside0.mk (below_step (lb HB.out) hb); clear HO368; clear BK355; clear BK356; clear BK357; clear BK358; clear HB; have HO368 := n0_; have BK355 := n1_; have BK356 := n2_; have BK357 := n3_; have BK358 := n4_; have HB := n5_; clear n0_ n1_ n2_ n3_ n4_ n5_; (try clear hb); (try clear hb2); (try clear hk); (try clear hi)))
        (try simp only [Act.put, List.setIfInBounds_toArray, List.set_cons_zero, List.set_cons_succ])
        go_cut [12, 13] (fun v12 v13 wc => ∃ (kq : Nat) (x12_115 : Bool) (x13_115 : List (S33)), v12 = .bool x12_115 ∧ Aside0 (laws_FnCrossQuad.j2 kq y366 x12_115 x13_115 t347 t348 t349 t350 t351 t352 t353 t354 = some r) ∧ Aside0 (kq ≤ kj29) ∧ Aside0 (Kd.R k33 33 wc w.heap.size (fun k_ => k_ ≠ gb355 ∧ k_ ≠ gb356 ∧ k_ ≠ gb357 ∧ k_ ≠ gb358) (.slice Ao129 y366.length co129) y366) ∧ Aside0 (Kd.R k33 33 wc w.heap.size (fun k_ => k_ ≠ gb355 ∧ k_ ≠ gb356 ∧ k_ ≠ gb357 ∧ k_ ≠ gb358) v13 x13_115) ∧ Aside0 (wc.heap[gb355]? = some (.cells #[.int .i64 t347, .int .i64 t348] 33 (0, 0))) ∧ Aside0 (wc.heap[gb356]? = some (.cells #[.int .i64 t349, .int .i64 t350] 33 (0, 0))) ∧ Aside0 (wc.heap[gb357]? = some (.cells #[.int .i64 t351, .int .i64 t352] 33 (0, 0))) ∧ Aside0 (wc.heap[gb358]? = some (.cells #[.int .i64 t353, .int .i64 t354] 33 (0, 0))) ∧ Aside0 (Below w.heap.size w wc))
        case first =>
         have H := HC116.out
         clear HC116
         by_cases c131 : t369 < 0
         ·rw [if_pos c131] at H
          have c131b0 : decide (t369 < 0) = true := decide_eq_true c131
          clear c131
          (first | rw [c131b0] | (simp only [i64_w, i32_w]; rw [c131b0]) | skip)
          replace H := Option.bind_eq_some_iff.mp H
          obtain ⟨⟨t371, t372⟩, A1320, H⟩ := H
          replace H : (if t370 = true then (laws_FnCrossQuad.j2 kj29 y366 t372 t371 t347 t348 t349 t350 t351 t352 t353 t354) else (laws_FnCrossQuad.j2 kj29 y366 false t371 t347 t348 t349 t350 t351 t352 t353 t354)) = some r := H
          have A132 := Aside0.mk A1320
          clear A1320
          by_cases c133 : t370 = true
          ·subst c133
           have H1 : (laws_FnCrossQuad.j2 kj29 y366 t372 t371 t347 t348 t349 t350 t351 t352 t353 t354) = some r := by rw [if_pos rfl] at H; exact H
           clear H
           have H := H1
           clear H1
           have H' := Aside0.mk H
           clear H
           go_wp2_with (first | ((with_reducible refine gate_callee (f := 30) rfl ?_); refine goesL_ (some 91) rfl rfl Try.func30 (by kernel_rfl) rfl #[.slice Ao129 y366.length co129] rfl al ?_; (with_reducible refine (impl_PolyBack.calls kj29 _ _ y366 t371 t372 _ ?side1 ?side2 A132.out).mono ?_); (case side1 => repeat (first | exact (Kd.R_reads' HO368.out).2.2 | (with_reducible refine Kd.C_alloc ?_ _) | (with_reducible refine Kd.C_drewN ?_ _) | (with_reducible refine Kd.C_drew ?_))); (case side2 => exact (Kd.R_reads' HO368.out).2.1); rintro e w134 ⟨v373, rfl, ho0, hb⟩; refine ⟨_, rfl, ?_⟩; have n0_ := Aside0.mk (Kd.R_elder' (by (with_reducible repeat (first | apply Kd.R_alloc | apply Kd.R_drewN | apply Kd.R_drew)); exact HO368.out) (Kd.R_base ho0) hb); have n1_ := Aside0.mk (Kd.R_lower (Kd.R_newB (Kd.R_newB (Kd.R_newB (Kd.R_newB (Kd.R_new' ho0 (Kd.R_lt (by (with_reducible repeat (first | apply Kd.R_alloc | apply Kd.R_drewN | apply Kd.R_drew)); exact HO368.out))) (g := gb355) (o := .cells #[.int .i64 t347, .int .i64 t348] 33 (0, 0)) (bf BK355.out)) (g := gb356) (o := .cells #[.int .i64 t349, .int .i64 t350] 33 (0, 0)) (bf BK356.out)) (g := gb357) (o := .cells #[.int .i64 t351, .int .i64 t352] 33 (0, 0)) (bf BK357.out)) (g := gb358) (o := .cells #[.int .i64 t353, .int .i64 t354] 33 (0, 0)) (bf BK358.out)) (below_size (lb HB.out))); have n2_ := Aside0.mk (blk_below (bf BK355.out) hb); have n3_ := Aside0.mk (blk_below (bf BK356.out) hb); have n4_ := Aside0.mk (blk_below (bf BK357.out) hb); have n5_ := Aside0.mk (blk_below (bf BK358.out) hb); have n6_ := Aside0.mk (below_step (lb HB.out) hb); clear HO368; clear BK355; clear BK356; clear BK357; clear BK358; clear HB; have HO368 := n0_; have HO374 := n1_; have BK355 := n2_; have BK356 := n3_; have BK357 := n4_; have BK358 := n5_; have HB := n6_; clear n0_ n1_ n2_ n3_ n4_ n5_ n6_; (try clear hb); (try clear hb2); (try clear hk); (try clear hi); (try clear ho0)))
           go_meet
           case rel => exact ⟨_, (t372), (t371), (by first | rfl | (simp; done) | (simp [*]; done)), H', ⟨by have := HJ5.out; have := HJ29.out; first | omega | exact Nat.le_refl _⟩, ⟨by (with_reducible repeat (first | apply Kd.R_alloc | apply Kd.R_drewN | apply Kd.R_drew)); exact Kd.R_mono HO368.out (fun _ hk => by (repeat' apply And.intro) <;> first | exact hk.2 | exact hk.1.2 | exact hk.1.1.2 | exact hk.1.1.1.2 | exact hk.1.1.1.1.2 | exact hk.1.1.1.1.1.2 | exact hk.1 | exact hk.1.1 | trivial)⟩, ⟨by (with_reducible repeat (first | apply Kd.R_alloc | apply Kd.R_drewN | apply Kd.R_drew)); exact Kd.R_mono HO374.out (fun _ hk => by (repeat' apply And.intro) <;> first | exact hk.2 | exact hk.1.2 | exact hk.1.1.2 | exact hk.1.1.1.2 | exact hk.1.1.1.1.2 | exact hk.1.1.1.1.1.2 | exact hk.1 | exact hk.1.1 | trivial)⟩, ⟨by (with_reducible repeat (first | refine blk_drewN ?_ _ | refine blk_drew ?_ | refine blk_alloc ?_ _)); exact BK355.out⟩, ⟨by (with_reducible repeat (first | refine blk_drewN ?_ _ | refine blk_drew ?_ | refine blk_alloc ?_ _)); exact BK356.out⟩, ⟨by (with_reducible repeat (first | refine blk_drewN ?_ _ | refine blk_drew ?_ | refine blk_alloc ?_ _)); exact BK357.out⟩, ⟨by (with_reducible repeat (first | refine blk_drewN ?_ _ | refine blk_drew ?_ | refine blk_alloc ?_ _)); exact BK358.out⟩, ⟨lb HB.out⟩⟩
          ·replace c133 := Bool.eq_false_iff.mpr c133
           subst c133
           have H1 : (laws_FnCrossQuad.j2 kj29 y366 false t371 t347 t348 t349 t350 t351 t352 t353 t354) = some r := by rw [if_neg (show ¬ (false = true) by decide)] at H; exact H
           clear H
           have H := H1
           clear H1
           have H' := Aside0.mk H
           clear H
           go_wp2_with (first | ((with_reducible refine gate_callee (f := 30) rfl ?_); refine goesL_ (some 91) rfl rfl Try.func30 (by kernel_rfl) rfl #[.slice Ao129 y366.length co129] rfl al ?_; (with_reducible refine (impl_PolyBack.calls kj29 _ _ y366 t371 t372 _ ?side1 ?side2 A132.out).mono ?_); (case side1 => repeat (first | exact (Kd.R_reads' HO368.out).2.2 | (with_reducible refine Kd.C_alloc ?_ _) | (with_reducible refine Kd.C_drewN ?_ _) | (with_reducible refine Kd.C_drew ?_))); (case side2 => exact (Kd.R_reads' HO368.out).2.1); rintro e w135 ⟨v373, rfl, ho0, hb⟩; refine ⟨_, rfl, ?_⟩; have n0_ := Aside0.mk (Kd.R_elder' (by (with_reducible repeat (first | apply Kd.R_alloc | apply Kd.R_drewN | apply Kd.R_drew)); exact HO368.out) (Kd.R_base ho0) hb); have n1_ := Aside0.mk (Kd.R_lower (Kd.R_newB (Kd.R_newB (Kd.R_newB (Kd.R_newB (Kd.R_new' ho0 (Kd.R_lt (by (with_reducible repeat (first | apply Kd.R_alloc | apply Kd.R_drewN | apply Kd.R_drew)); exact HO368.out))) (g := gb355) (o := .cells #[.int .i64 t347, .int .i64 t348] 33 (0, 0)) (bf BK355.out)) (g := gb356) (o := .cells #[.int .i64 t349, .int .i64 t350] 33 (0, 0)) (bf BK356.out)) (g := gb357) (o := .cells #[.int .i64 t351, .int .i64 t352] 33 (0, 0)) (bf BK357.out)) (g := gb358) (o := .cells #[.int .i64 t353, .int .i64 t354] 33 (0, 0)) (bf BK358.out)) (below_size (lb HB.out))); have n2_ := Aside0.mk (blk_below (bf BK355.out) hb); have n3_ := Aside0.mk (blk_below (bf BK356.out) hb); have n4_ := Aside0.mk (blk_below (bf BK357.out) hb); have n5_ := Aside0.mk (blk_below (bf BK358.out) hb); have n6_ := Aside0.mk (below_step (lb HB.out) hb); clear HO368; clear BK355; clear BK356; clear BK357; clear BK358; clear HB; have HO368 := n0_; have HO374 := n1_; have BK355 := n2_; have BK356 := n3_; have BK357 := n4_; have BK358 := n5_; have HB := n6_; clear n0_ n1_ n2_ n3_ n4_ n5_ n6_; (try clear hb); (try clear hb2); (try clear hk); (try clear hi); (try clear ho0)))
           go_meet
           case rel => exact ⟨_, (false), (t371), (by first | rfl | (simp; done) | (simp [*]; done)), H', ⟨by have := HJ5.out; have := HJ29.out; first | omega | exact Nat.le_refl _⟩, ⟨by (with_reducible repeat (first | apply Kd.R_alloc | apply Kd.R_drewN | apply Kd.R_drew)); exact Kd.R_mono HO368.out (fun _ hk => by (repeat' apply And.intro) <;> first | exact hk.2 | exact hk.1.2 | exact hk.1.1.2 | exact hk.1.1.1.2 | exact hk.1.1.1.1.2 | exact hk.1.1.1.1.1.2 | exact hk.1 | exact hk.1.1 | trivial)⟩, ⟨by (with_reducible repeat (first | apply Kd.R_alloc | apply Kd.R_drewN | apply Kd.R_drew)); exact Kd.R_mono HO374.out (fun _ hk => by (repeat' apply And.intro) <;> first | exact hk.2 | exact hk.1.2 | exact hk.1.1.2 | exact hk.1.1.1.2 | exact hk.1.1.1.1.2 | exact hk.1.1.1.1.1.2 | exact hk.1 | exact hk.1.1 | trivial)⟩, ⟨by (with_reducible repeat (first | refine blk_drewN ?_ _ | refine blk_drew ?_ | refine blk_alloc ?_ _)); exact BK355.out⟩, ⟨by (with_reducible repeat (first | refine blk_drewN ?_ _ | refine blk_drew ?_ | refine blk_alloc ?_ _)); exact BK356.out⟩, ⟨by (with_reducible repeat (first | refine blk_drewN ?_ _ | refine blk_drew ?_ | refine blk_alloc ?_ _)); exact BK357.out⟩, ⟨by (with_reducible repeat (first | refine blk_drewN ?_ _ | refine blk_drew ?_ | refine blk_alloc ?_ _)); exact BK358.out⟩, ⟨lb HB.out⟩⟩
         ·rw [if_neg c131] at H
          have c131b0 : decide (t369 < 0) = false := decide_eq_false c131
          clear c131
          (first | rw [c131b0] | (simp only [i64_w, i32_w]; rw [c131b0]) | skip)
          have H' := Aside0.mk H
          clear H
          go_wp2
          go_meet
          case rel => exact ⟨_, (t370), (y366), (by first | rfl | (simp; done) | (simp [*]; done)), H', ⟨by have := HJ5.out; have := HJ29.out; first | omega | exact Nat.le_refl _⟩, ⟨by (with_reducible repeat (first | apply Kd.R_alloc | apply Kd.R_drewN | apply Kd.R_drew)); exact Kd.R_mono HO368.out (fun _ hk => by (repeat' apply And.intro) <;> first | exact hk.2 | exact hk.1.2 | exact hk.1.1.2 | exact hk.1.1.1.2 | exact hk.1.1.1.1.2 | exact hk.1.1.1.1.1.2 | exact hk.1 | exact hk.1.1 | trivial)⟩, ⟨by (with_reducible repeat (first | apply Kd.R_alloc | apply Kd.R_drewN | apply Kd.R_drew)); exact Kd.R_mono HO368.out (fun _ hk => by (repeat' apply And.intro) <;> first | exact hk.2 | exact hk.1.2 | exact hk.1.1.2 | exact hk.1.1.1.2 | exact hk.1.1.1.1.2 | exact hk.1.1.1.1.1.2 | exact hk.1 | exact hk.1.1 | trivial)⟩, ⟨by (with_reducible repeat (first | refine blk_drewN ?_ _ | refine blk_drew ?_ | refine blk_alloc ?_ _)); exact BK355.out⟩, ⟨by (with_reducible repeat (first | refine blk_drewN ?_ _ | refine blk_drew ?_ | refine blk_alloc ?_ _)); exact BK356.out⟩, ⟨by (with_reducible repeat (first | refine blk_drewN ?_ _ | refine blk_drew ?_ | refine blk_alloc ?_ _)); exact BK357.out⟩, ⟨by (with_reducible repeat (first | refine blk_drewN ?_ _ | refine blk_drew ?_ | refine blk_alloc ?_ _)); exact BK358.out⟩, ⟨lb HB.out⟩⟩
        case rest =>
         clear HC116
         try clear c1
         try clear c2
         try clear c2b0
         try clear c2b1
         try clear p2
         try clear c3
         try clear c4
         try clear c5
         try clear c6
         try clear c8
         try clear c10
         try clear c11
         try clear c12
         try clear c13
         try clear c14
         try clear c16
         try clear c17
         try clear c19
         try clear c25
         try clear c27
         try clear c28
         try clear c28b0
         try clear c28b1
         try clear c28b2
         try clear c29
         try clear c30
         try clear c32
         try clear c33
         try clear c34
         try clear c35
         try clear c37
         try clear c38
         try clear c40
         try clear c44
         try clear c45
         try clear c46
         try clear c47
         try clear c49
         try clear c50
         try clear c52
         try clear c60
         try clear c61
         try clear c62
         try clear c63
         try clear c65
         try clear c66
         try clear c68
         try clear c80
         try clear c81
         try clear c82
         try clear c84
         try clear c85
         try clear c87
         try clear c102
         try clear c104
         try clear c105
         try clear c106
         try clear c108
         try clear c109
         try clear c111
         try clear c117
         try clear c118
         try clear c119
         try clear c121
         try clear c122
         try clear c124
         try clear c131
         try clear c131b0
         try clear c133
         try clear hcz100_0
         try clear hcz100_1
         try clear hcz107_0
         try clear hcz107_1
         try clear hcz110_0
         try clear hcz110_1
         try clear hcz112_0
         try clear hcz112_1
         try clear hcz113_0
         try clear hcz113_1
         try clear hcz120_0
         try clear hcz120_1
         try clear hcz123_0
         try clear hcz123_1
         try clear hcz125_0
         try clear hcz125_1
         try clear hcz126_0
         try clear hcz126_1
         try clear hcz15_0
         try clear hcz15_1
         try clear hcz18_0
         try clear hcz18_1
         try clear hcz20_0
         try clear hcz20_1
         try clear hcz21_0
         try clear hcz21_1
         try clear hcz23_0
         try clear hcz23_1
         try clear hcz24_0
         try clear hcz24_1
         try clear hcz25_0
         try clear hcz25_1
         try clear hcz26_0
         try clear hcz26_1
         try clear hcz36_0
         try clear hcz36_1
         try clear hcz39_0
         try clear hcz39_1
         try clear hcz41_0
         try clear hcz41_1
         try clear hcz48_0
         try clear hcz48_1
         try clear hcz51_0
         try clear hcz51_1
         try clear hcz53_0
         try clear hcz53_1
         try clear hcz55_0
         try clear hcz55_1
         try clear hcz56_0
         try clear hcz56_1
         try clear hcz57_0
         try clear hcz57_1
         try clear hcz64_0
         try clear hcz64_1
         try clear hcz67_0
         try clear hcz67_1
         try clear hcz69_0
         try clear hcz69_1
         try clear hcz71_0
         try clear hcz71_1
         try clear hcz72_0
         try clear hcz72_1
         try clear hcz73_0
         try clear hcz73_1
         try clear hcz75_0
         try clear hcz75_1
         try clear hcz76_0
         try clear hcz76_1
         try clear hcz77_0
         try clear hcz77_1
         try clear hcz83_0
         try clear hcz83_1
         try clear hcz86_0
         try clear hcz86_1
         try clear hcz88_0
         try clear hcz88_1
         try clear hcz90_0
         try clear hcz90_1
         try clear hcz91_0
         try clear hcz91_1
         try clear hcz92_0
         try clear hcz92_1
         try clear hcz94_0
         try clear hcz94_1
         try clear hcz95_0
         try clear hcz95_1
         try clear hcz96_0
         try clear hcz96_1
         try clear hcz98_0
         try clear hcz98_1
         try clear hcz99_0
         try clear hcz99_1
         try clear hfz100_0
         try clear hfz100_1
         try clear hfz107_0
         try clear hfz107_1
         try clear hfz110_0
         try clear hfz110_1
         try clear hfz112_0
         try clear hfz112_1
         try clear hfz113_0
         try clear hfz113_1
         try clear hfz120_0
         try clear hfz120_1
         try clear hfz123_0
         try clear hfz123_1
         try clear hfz125_0
         try clear hfz125_1
         try clear hfz126_0
         try clear hfz126_1
         try clear hfz15_0
         try clear hfz15_1
         try clear hfz18_0
         try clear hfz18_1
         try clear hfz20_0
         try clear hfz20_1
         try clear hfz21_0
         try clear hfz21_1
         try clear hfz23_0
         try clear hfz23_1
         try clear hfz24_0
         try clear hfz24_1
         try clear hfz25_0
         try clear hfz25_1
         try clear hfz26_0
         try clear hfz26_1
         try clear hfz36_0
         try clear hfz36_1
         try clear hfz39_0
         try clear hfz39_1
         try clear hfz41_0
         try clear hfz41_1
         try clear hfz48_0
         try clear hfz48_1
         try clear hfz51_0
         try clear hfz51_1
         try clear hfz53_0
         try clear hfz53_1
         try clear hfz55_0
         try clear hfz55_1
         try clear hfz56_0
         try clear hfz56_1
         try clear hfz57_0
         try clear hfz57_1
         try clear hfz64_0
         try clear hfz64_1
         try clear hfz67_0
         try clear hfz67_1
         try clear hfz69_0
         try clear hfz69_1
         try clear hfz71_0
         try clear hfz71_1
         try clear hfz72_0
         try clear hfz72_1
         try clear hfz73_0
         try clear hfz73_1
         try clear hfz75_0
         try clear hfz75_1
         try clear hfz76_0
         try clear hfz76_1
         try clear hfz77_0
         try clear hfz77_1
         try clear hfz83_0
         try clear hfz83_1
         try clear hfz86_0
         try clear hfz86_1
         try clear hfz88_0
         try clear hfz88_1
         try clear hfz90_0
         try clear hfz90_1
         try clear hfz91_0
         try clear hfz91_1
         try clear hfz92_0
         try clear hfz92_1
         try clear hfz94_0
         try clear hfz94_1
         try clear hfz95_0
         try clear hfz95_1
         try clear hfz96_0
         try clear hfz96_1
         try clear hfz98_0
         try clear hfz98_1
         try clear hfz99_0
         try clear hfz99_1
         try clear p2
         obtain ⟨kq, x12_115, x13_115, rfl, HA, HJ115, HO_10, HO_13, BK355, BK356, BK357, BK358, HB⟩ := hcut
         cases kq with
         | zero => exact absurd HA.out (by simp [laws_FnCrossQuad.j2])
         | succ kj115 =>
          have H := HA.out
          clear HA
          simp only [laws_FnCrossQuad.j2] at H
          replace H := Option.bind_eq_some_iff.mp H
          obtain ⟨⟨t375, t376, t377⟩, A1360, H⟩ := H
          replace H : (if x12_115 = true then ((impl_PolyValid.f y366).bind fun t379 => (if t379 = true then ((impl_PolyConvex.f y366).bind fun t380 => (if t380 = true then ((impl_PolyValid.f (([(⟨t347, t348⟩ : S33), (⟨t349, t350⟩ : S33), (⟨t351, t352⟩ : S33), (⟨t353, t354⟩ : S33)] : List (S33)))).bind fun t384 => (if t384 = true then (some false) else (if t377 = true then (if t375 > 0 then (some (decide (t375 < t376))) else (some false)) else (some true)))) else (some false))) else (some false))) else (some false)) = some r := H
          have A136 := Aside0.mk A1360
          clear A1360
          by_cases c137 : x12_115 = true
          ·subst c137
           have H1 : ((impl_PolyValid.f y366).bind fun t379 => (if t379 = true then ((impl_PolyConvex.f y366).bind fun t380 => (if t380 = true then ((impl_PolyValid.f (([(⟨t347, t348⟩ : S33), (⟨t349, t350⟩ : S33), (⟨t351, t352⟩ : S33), (⟨t353, t354⟩ : S33)] : List (S33)))).bind fun t384 => (if t384 = true then (some false) else (if t377 = true then (if t375 > 0 then (some (decide (t375 < t376))) else (some false)) else (some true)))) else (some false))) else (some false))) = some r := by rw [if_pos rfl] at H; exact H
           clear H
           have H := H1
           clear H1
           replace H := Option.bind_eq_some_iff.mp H
           obtain ⟨t379, A1380, H⟩ := H
           replace H : (if t379 = true then ((impl_PolyConvex.f y366).bind fun t380 => (if t380 = true then ((impl_PolyValid.f (([(⟨t347, t348⟩ : S33), (⟨t349, t350⟩ : S33), (⟨t351, t352⟩ : S33), (⟨t353, t354⟩ : S33)] : List (S33)))).bind fun t384 => (if t384 = true then (some false) else (if t377 = true then (if t375 > 0 then (some (decide (t375 < t376))) else (some false)) else (some true)))) else (some false))) else (some false)) = some r := H
           have A138 := Aside0.mk A1380
           clear A1380
           by_cases c139 : t379 = true
           ·subst c139
            have H1 : ((impl_PolyConvex.f y366).bind fun t380 => (if t380 = true then ((impl_PolyValid.f (([(⟨t347, t348⟩ : S33), (⟨t349, t350⟩ : S33), (⟨t351, t352⟩ : S33), (⟨t353, t354⟩ : S33)] : List (S33)))).bind fun t384 => (if t384 = true then (some false) else (if t377 = true then (if t375 > 0 then (some (decide (t375 < t376))) else (some false)) else (some true)))) else (some false))) = some r := by rw [if_pos rfl] at H; exact H
            clear H
            have H := H1
            clear H1
            replace H := Option.bind_eq_some_iff.mp H
            obtain ⟨t380, A1400, H⟩ := H
            replace H : (if t380 = true then ((impl_PolyValid.f (([(⟨t347, t348⟩ : S33), (⟨t349, t350⟩ : S33), (⟨t351, t352⟩ : S33), (⟨t353, t354⟩ : S33)] : List (S33)))).bind fun t384 => (if t384 = true then (some false) else (if t377 = true then (if t375 > 0 then (some (decide (t375 < t376))) else (some false)) else (some true)))) else (some false)) = some r := H
            have A140 := Aside0.mk A1400
            clear A1400
            by_cases c141 : t380 = true
            ·subst c141
             have H1 : ((impl_PolyValid.f (([(⟨t347, t348⟩ : S33), (⟨t349, t350⟩ : S33), (⟨t351, t352⟩ : S33), (⟨t353, t354⟩ : S33)] : List (S33)))).bind fun t384 => (if t384 = true then (some false) else (if t377 = true then (if t375 > 0 then (some (decide (t375 < t376))) else (some false)) else (some true)))) = some r := by rw [if_pos rfl] at H; exact H
             clear H
             have H := H1
             clear H1
             obtain ⟨y381, hy381⟩ : ∃ y_ : List (S33), y_ = (([(⟨t347, t348⟩ : S33), (⟨t349, t350⟩ : S33), (⟨t351, t352⟩ : S33), (⟨t353, t354⟩ : S33)] : List (S33))) := ⟨_, rfl⟩
             replace H : ((impl_PolyValid.f y381).bind fun t384 => (if t384 = true then (some false) else (if t377 = true then (if t375 > 0 then (some (decide (t375 < t376))) else (some false)) else (some true)))) = some r := by first | (rw [hy381]; with_reducible exact H) | (have H2_ := (Option.bind_some _ _).symm.trans H; rw [hy381]; with_reducible exact H2_) | (have H2_ := (Option.bind_some _ _).symm.trans H; with_reducible exact H2_) | with_reducible exact H | (rw [hy381]; exact H) | exact H
             have Ny381 := Aside0.mk hy381
             clear hy381
             replace H := Option.bind_eq_some_iff.mp H
             obtain ⟨t384, A1420, H⟩ := H
             replace H : (if t384 = true then (some false) else (if t377 = true then (if t375 > 0 then (some (decide (t375 < t376))) else (some false)) else (some true))) = some r := H
             have A142 := Aside0.mk A1420
             clear A1420
             by_cases c143 : t384 = true
             ·subst c143
              have H1 : (some false) = some r := by rw [if_pos rfl] at H; exact H
              clear H
              have H := H1
              clear H1
              obtain rfl := Option.some.inj H
              obtain ⟨Ao144, co144, eo144⟩ := Kd.R_slice HO_13.out
              subst eo144
              go_wp2_with (first | ((with_reducible refine gate_callee (f := 17) rfl ?_); refine goesL_ (some 101) rfl rfl Try.func17 (by kernel_rfl) rfl #[.slice Ao144 x13_115.length co144, .int .i64 0, .int .i64 2] rfl al ?_; (with_reducible refine (impl_ParcelShare.calls kj115 _ _ x13_115 0 2 t375 t376 t377 _ ?side1 ?side2 A136.out).mono ?_); (case side1 => repeat (first | exact (Kd.R_reads' HO_13.out).2.2 | (with_reducible refine Kd.C_alloc ?_ _) | (with_reducible refine Kd.C_drewN ?_ _) | (with_reducible refine Kd.C_drew ?_))); (case side2 => exact (Kd.R_reads' HO_13.out).2.1); rintro e w145 ⟨rfl, hb⟩; refine ⟨_, rfl, ?_⟩; have n0_ := Aside0.mk (Kd.R_below (by (with_reducible repeat (first | apply Kd.R_alloc | apply Kd.R_drewN | apply Kd.R_drew)); exact HO_10.out) hb); have n1_ := Aside0.mk (Kd.R_below (by (with_reducible repeat (first | apply Kd.R_alloc | apply Kd.R_drewN | apply Kd.R_drew)); exact HO_13.out) hb); have n2_ := Aside0.mk (blk_below (bf BK355.out) hb); have n3_ := Aside0.mk (blk_below (bf BK356.out) hb); have n4_ := Aside0.mk (blk_below (bf BK357.out) hb); have n5_ := Aside0.mk (blk_below (bf BK358.out) hb); have n6_ := Aside0.mk (below_step (lb HB.out) hb); clear HO_10; clear HO_13; clear BK355; clear BK356; clear BK357; clear BK358; clear HB; have HO_10 := n0_; have HO_13 := n1_; have BK355 := n2_; have BK356 := n3_; have BK357 := n4_; have BK358 := n5_; have HB := n6_; clear n0_ n1_ n2_ n3_ n4_ n5_ n6_; (try clear hb); (try clear hb2); (try clear hk); (try clear hi)) | ((with_reducible refine gate_dst (N := 16) rfl ?_); (try (refine gate_guard (by rfl) ?_; dsimp only)); refine box_event ?hg (N := 16) ?hd (cs := #[.int .i64 0, .int .i64 0]) (t := 39) ?hr ?_; (case hd => rfl); (case hg => rfl); (case hr => first | (go_simp; done) | (go_simp; rfl)); intro gb378 hg w146 hbox hb; have n0_ := Aside0.mk (Kd.R_below (by (with_reducible repeat (first | apply Kd.R_alloc | apply Kd.R_drewN | apply Kd.R_drew)); exact HO_10.out) hb); have n1_ := Aside0.mk (Kd.R_below (by (with_reducible repeat (first | apply Kd.R_alloc | apply Kd.R_drewN | apply Kd.R_drew)); exact HO_13.out) hb); have n2_ := Aside0.mk (blk_below (bf BK355.out) hb); have n3_ := Aside0.mk (blk_below (bf BK356.out) hb); have n4_ := Aside0.mk (blk_below (bf BK357.out) hb); have n5_ := Aside0.mk (blk_below (bf BK358.out) hb); have n6_ := Aside0.mk (below_step (lb HB.out) hb); have n7_ := Aside0.mk (hbox); have n8_ := Aside0.mk ((by rw [hg]; exact (below_size (lb HB.out)) : w.heap.size ≤ gb378)); have n9_ := Aside0.mk ((by rw [hg]; exact (below_size (lb HB.out)) : w.heap.size ≤ gb378)); have n10_ := Aside0.mk ((by rw [hg]; exact Nat.ne_of_lt (blk_lt (bf BK355.out)) : gb355 ≠ gb378)); have n11_ := Aside0.mk ((by rw [hg]; exact Nat.ne_of_gt (blk_lt (bf BK355.out)) : gb378 ≠ gb355)); have n12_ := Aside0.mk ((by rw [hg]; exact Nat.ne_of_lt (blk_lt (bf BK356.out)) : gb356 ≠ gb378)); have n13_ := Aside0.mk ((by rw [hg]; exact Nat.ne_of_gt (blk_lt (bf BK356.out)) : gb378 ≠ gb356)); have n14_ := Aside0.mk ((by rw [hg]; exact Nat.ne_of_lt (blk_lt (bf BK357.out)) : gb357 ≠ gb378)); have n15_ := Aside0.mk ((by rw [hg]; exact Nat.ne_of_gt (blk_lt (bf BK357.out)) : gb378 ≠ gb357)); have n16_ := Aside0.mk ((by rw [hg]; exact Nat.ne_of_lt (blk_lt (bf BK358.out)) : gb358 ≠ gb378)); have n17_ := Aside0.mk ((by rw [hg]; exact Nat.ne_of_gt (blk_lt (bf BK358.out)) : gb378 ≠ gb358)); clear HO_10; clear HO_13; clear BK355; clear BK356; clear BK357; clear BK358; clear HB; have HO_10 := n0_; have HO_13 := n1_; have BK355 := n2_; have BK356 := n3_; have BK357 := n4_; have BK358 := n5_; have HB := n6_; have BK378 := n7_; have GW378 := n8_; have GE378 := n9_; have NB355_378 := n10_; have NB378_355 := n11_; have NB356_378 := n12_; have NB378_356 := n13_; have NB357_378 := n14_; have NB378_357 := n15_; have NB358_378 := n16_; have NB378_358 := n17_; clear n0_ n1_ n2_ n3_ n4_ n5_ n6_ n7_ n8_ n9_ n10_ n11_ n12_ n13_ n14_ n15_ n16_ n17_; clear hb hbox hg; have hnb147 := NB378_355.out; have hnc147 := NB355_378.out; have hnb148 := NB378_356.out; have hnc148 := NB356_378.out; have hnb149 := NB378_357.out; have hnc149 := NB357_378.out; have hnb150 := NB378_358.out; have hnc150 := NB358_378.out; have hcz151_0 : w146.cell? ⟨gb378, 0, none⟩ = some (.int .i64 0) := (blk_cell BK378.out 0).trans rfl; have hcz151_1 : w146.cell? ⟨gb378, 1, none⟩ = some (.int .i64 0) := (blk_cell BK378.out 1).trans rfl; have hfz151_0 := blk_frozen BK378.out 0; have hfz151_1 := blk_frozen BK378.out 1) | (go_at_call 31; (with_reducible refine (impl_PolyValid.calls _ _ y366 true _ ?side1 ?side2 A138.out).mono ?_); (case side1 => refine (Kd.R_reads' (e := 33) (base := w.heap.size) (ok := fun k_ => (k_ ≠ gb355 ∧ (k_ ≠ gb356 ∧ (k_ ≠ gb357 ∧ k_ ≠ gb358)))) (n := y366.length) (c := co129) ?_).2.2; exact (by (with_reducible repeat (first | apply Kd.R_alloc | apply Kd.R_drewN | apply Kd.R_drew)); exact (Kd.R_mono (Kd.R_far (p := ⟨gb378, 1, none⟩) (Kd.R_far (p := ⟨gb378, 0, none⟩) (Kd.R_types HO_10.out BK378.out (by decide)) (fun _ hk => hk.2) (.int .i64 t375)) (fun _ hk => hk.2) (.int .i64 t376)) (fun _ h_ => h_.1)))); (case side2 => exact (Kd.R_reads' HO_10.out).2.1); rintro e w152 ⟨rfl, hb⟩; have n0_ := Aside0.mk (Kd.R_below (by (with_reducible repeat (first | apply Kd.R_alloc | apply Kd.R_drewN | apply Kd.R_drew)); exact (Kd.R_mono (Kd.R_far (p := ⟨gb378, 1, none⟩) (Kd.R_far (p := ⟨gb378, 0, none⟩) (Kd.R_types HO_10.out BK378.out (by decide)) (fun _ hk => hk.2) (.int .i64 t375)) (fun _ hk => hk.2) (.int .i64 t376)) (fun _ h_ => h_.1))) hb); have n1_ := Aside0.mk (Kd.R_below (by (with_reducible repeat (first | apply Kd.R_alloc | apply Kd.R_drewN | apply Kd.R_drew)); exact (Kd.R_mono (Kd.R_far (p := ⟨gb378, 1, none⟩) (Kd.R_far (p := ⟨gb378, 0, none⟩) (Kd.R_types HO_13.out BK378.out (by decide)) (fun _ hk => hk.2) (.int .i64 t375)) (fun _ hk => hk.2) (.int .i64 t376)) (fun _ h_ => h_.1))) hb); have n2_ := Aside0.mk (blk_below (bf BK355.out) hb); have n3_ := Aside0.mk (blk_below (bf BK356.out) hb); have n4_ := Aside0.mk (blk_below (bf BK357.out) hb); have n5_ := Aside0.mk (blk_below (bf BK358.out) hb); have n6_ := Aside0.mk (blk_below (g := gb378) (o := .cells #[.int .i64 t375, .int .i64 t376] 39 (0, 0)) (by (with_reducible repeat (first | refine blk_drewN ?_ _ | refine blk_drew ?_ | refine blk_alloc ?_ _)); refine blk_put (cs := #[.int .i64 t375, .int .i64 0]) ?_ 1 _ rfl; (with_reducible repeat (first | refine blk_drewN ?_ _ | refine blk_drew ?_ | refine blk_alloc ?_ _)); refine blk_put (cs := #[.int .i64 0, .int .i64 0]) ?_ 0 _ rfl; (with_reducible repeat (first | refine blk_drewN ?_ _ | refine blk_drew ?_ | refine blk_alloc ?_ _)); exact BK378.out) hb); have n7_ := Aside0.mk (below_step (lb HB.out) hb); clear HO_10; clear HO_13; clear BK355; clear BK356; clear BK357; clear BK358; clear BK378; clear HB; have HO_10 := n0_; have HO_13 := n1_; have BK355 := n2_; have BK356 := n3_; have BK357 := n4_; have BK358 := n5_; have BK378 := n6_; have HB := n7_; clear n0_ n1_ n2_ n3_ n4_ n5_ n6_ n7_; (try clear hb); (try clear hb2); (try clear hk); (try clear hi)) | (go_at_call 32; (with_reducible refine (impl_PolyConvex.calls _ _ y366 true _ ?side1 ?side2 A140.out).mono ?_); (case side1 => repeat (first | exact (Kd.R_reads' HO_10.out).2.2 | (with_reducible refine Kd.C_alloc ?_ _) | (with_reducible refine Kd.C_drewN ?_ _) | (with_reducible refine Kd.C_drew ?_))); (case side2 => exact (Kd.R_reads' HO_10.out).2.1); rintro e w153 ⟨rfl, hb⟩; have n0_ := Aside0.mk (Kd.R_below (by (with_reducible repeat (first | apply Kd.R_alloc | apply Kd.R_drewN | apply Kd.R_drew)); exact HO_10.out) hb); have n1_ := Aside0.mk (Kd.R_below (by (with_reducible repeat (first | apply Kd.R_alloc | apply Kd.R_drewN | apply Kd.R_drew)); exact HO_13.out) hb); have n2_ := Aside0.mk (blk_below (bf BK355.out) hb); have n3_ := Aside0.mk (blk_below (bf BK356.out) hb); have n4_ := Aside0.mk (blk_below (bf BK357.out) hb); have n5_ := Aside0.mk (blk_below (bf BK358.out) hb); have n6_ := Aside0.mk (blk_below (bf BK378.out) hb); have n7_ := Aside0.mk (below_step (lb HB.out) hb); clear HO_10; clear HO_13; clear BK355; clear BK356; clear BK357; clear BK358; clear BK378; clear HB; have HO_10 := n0_; have HO_13 := n1_; have BK355 := n2_; have BK356 := n3_; have BK357 := n4_; have BK358 := n5_; have BK378 := n6_; have HB := n7_; clear n0_ n1_ n2_ n3_ n4_ n5_ n6_ n7_; (try clear hb); (try clear hb2); (try clear hk); (try clear hi); have hnb154 := NB355_356.out; have hnc154 := NB356_355.out; have hnb155 := NB355_357.out; have hnc155 := NB357_355.out; have hnb156 := NB355_358.out; have hnc156 := NB358_355.out; have hcz157_0 : w153.cell? ⟨gb355, 0, none⟩ = some (.int .i64 t347) := (blk_cell BK355.out 0).trans rfl; have hcz157_1 : w153.cell? ⟨gb355, 1, none⟩ = some (.int .i64 t348) := (blk_cell BK355.out 1).trans rfl; have hfz157_0 := blk_frozen BK355.out 0; have hfz157_1 := blk_frozen BK355.out 1; have hnb158 := NB356_357.out; have hnc158 := NB357_356.out; have hnb159 := NB356_358.out; have hnc159 := NB358_356.out; have hcz160_0 : w153.cell? ⟨gb356, 0, none⟩ = some (.int .i64 t349) := (blk_cell BK356.out 0).trans rfl; have hcz160_1 : w153.cell? ⟨gb356, 1, none⟩ = some (.int .i64 t350) := (blk_cell BK356.out 1).trans rfl; have hfz160_0 := blk_frozen BK356.out 0; have hfz160_1 := blk_frozen BK356.out 1; have hnb161 := NB357_358.out; have hnc161 := NB358_357.out; have hcz162_0 : w153.cell? ⟨gb357, 0, none⟩ = some (.int .i64 t351) := (blk_cell BK357.out 0).trans rfl; have hcz162_1 : w153.cell? ⟨gb357, 1, none⟩ = some (.int .i64 t352) := (blk_cell BK357.out 1).trans rfl; have hfz162_0 := blk_frozen BK357.out 0; have hfz162_1 := blk_frozen BK357.out 1; have hcz163_0 : w153.cell? ⟨gb358, 0, none⟩ = some (.int .i64 t353) := (blk_cell BK358.out 0).trans rfl; have hcz163_1 : w153.cell? ⟨gb358, 1, none⟩ = some (.int .i64 t354) := (blk_cell BK358.out 1).trans rfl; have hfz163_0 := blk_frozen BK358.out 0; have hfz163_1 := blk_frozen BK358.out 1) | ((with_reducible refine gate_dst (N := 118) rfl ?_); (try (refine gate_guard (by rfl) ?_; dsimp only)); refine Kd.R_lit k33 _ 33 ?hg (N := 118) ?hd (xs := ([(⟨t347, t348⟩ : S33), (⟨t349, t350⟩ : S33), (⟨t351, t352⟩ : S33), (⟨t353, t354⟩ : S33)] : List (S33))) (inner := [.int .i64 t347, .int .i64 t348, .int .i64 t349, .int .i64 t350, .int .i64 t351, .int .i64 t352, .int .i64 t353, .int .i64 t354]) (ok := fun _ => True) (okp := fun _ => True) ?hr ?hp (fun _ hk => hk) trivial (Below.refl _ _) (Nat.le_refl _) (by simp) ?_; (case hd => rfl); (case hg => rfl); (case hr => first | (go_simp; done) | (go_simp; rfl)); (case hp => exact (Reps.c2 (show Kd.M k33 _ _ _ (⟨t347, t348⟩ : S33) [.int .i64 t347, .int .i64 t348] from (k33_mkM _ _ _ (⟨t347, t348⟩ : S33) )) (Reps.c2 (show Kd.M k33 _ _ _ (⟨t349, t350⟩ : S33) [.int .i64 t349, .int .i64 t350] from (k33_mkM _ _ _ (⟨t349, t350⟩ : S33) )) (Reps.c2 (show Kd.M k33 _ _ _ (⟨t351, t352⟩ : S33) [.int .i64 t351, .int .i64 t352] from (k33_mkM _ _ _ (⟨t351, t352⟩ : S33) )) (Reps.c2 (show Kd.M k33 _ _ _ (⟨t353, t354⟩ : S33) [.int .i64 t353, .int .i64 t354] from (k33_mkM _ _ _ (⟨t353, t354⟩ : S33) )) (Reps.none _ _)))))); intro v382 w164 ho165 hb hg_ hnew_; clear hg_ hnew_; (first | rw [← Ny381.out] at ho165 | (simp only [Int.reduceToNat] at ho165; rw [← Ny381.out] at ho165)); have n0_ := Aside0.mk (Kd.R_elder' (by (with_reducible repeat (first | apply Kd.R_alloc | apply Kd.R_drewN | apply Kd.R_drew)); exact HO_10.out) (Kd.R_base ho165) hb); have n1_ := Aside0.mk (Kd.R_elder' (by (with_reducible repeat (first | apply Kd.R_alloc | apply Kd.R_drewN | apply Kd.R_drew)); exact HO_13.out) (Kd.R_base ho165) hb); have n2_ := Aside0.mk (Kd.R_lower (Kd.R_newB (Kd.R_newB (Kd.R_newB (Kd.R_newB (Kd.R_new' (Kd.R_new' ho165 (Kd.R_lt (by (with_reducible repeat (first | apply Kd.R_alloc | apply Kd.R_drewN | apply Kd.R_drew)); exact HO_10.out))) (Kd.R_lt (by (with_reducible repeat (first | apply Kd.R_alloc | apply Kd.R_drewN | apply Kd.R_drew)); exact HO_13.out))) (g := gb355) (o := .cells #[.int .i64 t347, .int .i64 t348] 33 (0, 0)) (bf BK355.out)) (g := gb356) (o := .cells #[.int .i64 t349, .int .i64 t350] 33 (0, 0)) (bf BK356.out)) (g := gb357) (o := .cells #[.int .i64 t351, .int .i64 t352] 33 (0, 0)) (bf BK357.out)) (g := gb358) (o := .cells #[.int .i64 t353, .int .i64 t354] 33 (0, 0)) (bf BK358.out)) (below_size (lb HB.out))); have n3_ := Aside0.mk (blk_below (bf BK355.out) hb); have n4_ := Aside0.mk (blk_below (bf BK356.out) hb); have n5_ := Aside0.mk (blk_below (bf BK357.out) hb); have n6_ := Aside0.mk (blk_below (bf BK358.out) hb); have n7_ := Aside0.mk (blk_below (bf BK378.out) hb); have n8_ := Aside0.mk (below_step (lb HB.out) hb); clear HO_10; clear HO_13; clear BK355; clear BK356; clear BK357; clear BK358; clear BK378; clear HB; have HO_10 := n0_; have HO_13 := n1_; have HO383 := n2_; have BK355 := n3_; have BK356 := n4_; have BK357 := n5_; have BK358 := n6_; have BK378 := n7_; have HB := n8_; clear n0_ n1_ n2_ n3_ n4_ n5_ n6_ n7_ n8_; clear hb ho165; obtain ⟨Ao166, co166, eo166⟩ := Kd.R_slice HO383.out; subst eo166) | (go_at_call 31; (with_reducible refine (impl_PolyValid.calls _ _ y381 true _ ?side1 ?side2 A142.out).mono ?_); (case side1 => repeat (first | exact (Kd.R_reads' HO383.out).2.2 | (with_reducible refine Kd.C_alloc ?_ _) | (with_reducible refine Kd.C_drewN ?_ _) | (with_reducible refine Kd.C_drew ?_))); (case side2 => exact (Kd.R_reads' HO383.out).2.1); rintro e w167 ⟨rfl, hb⟩; have n0_ := Aside0.mk (Kd.R_below (by (with_reducible repeat (first | apply Kd.R_alloc | apply Kd.R_drewN | apply Kd.R_drew)); exact HO_10.out) hb); have n1_ := Aside0.mk (Kd.R_below (by (with_reducible repeat (first | apply Kd.R_alloc | apply Kd.R_drewN | apply Kd.R_drew)); exact HO_13.out) hb); have n2_ := Aside0.mk (Kd.R_below (by (with_reducible repeat (first | apply Kd.R_alloc | apply Kd.R_drewN | apply Kd.R_drew)); exact HO383.out) hb); have n3_ := Aside0.mk (blk_below (bf BK355.out) hb); have n4_ := Aside0.mk (blk_below (bf BK356.out) hb); have n5_ := Aside0.mk (blk_below (bf BK357.out) hb); have n6_ := Aside0.mk (blk_below (bf BK358.out) hb); have n7_ := Aside0.mk (blk_below (bf BK378.out) hb); have n8_ := Aside0.mk (below_step (lb HB.out) hb); clear HO_10; clear HO_13; clear HO383; clear BK355; clear BK356; clear BK357; clear BK358; clear BK378; clear HB; have HO_10 := n0_; have HO_13 := n1_; have HO383 := n2_; have BK355 := n3_; have BK356 := n4_; have BK357 := n5_; have BK358 := n6_; have BK378 := n7_; have HB := n8_; clear n0_ n1_ n2_ n3_ n4_ n5_ n6_ n7_ n8_; (try clear hb); (try clear hb2); (try clear hk); (try clear hi)))
              go_ret
              exact ⟨er, lb HB.out⟩
             ·replace c143 := Bool.eq_false_iff.mpr c143
              subst c143
              have H1 : (if t377 = true then (if t375 > 0 then (some (decide (t375 < t376))) else (some false)) else (some true)) = some r := by rw [if_neg (show ¬ (false = true) by decide)] at H; exact H
              clear H
              have H := H1
              clear H1
              by_cases c168 : t377 = true
              ·subst c168
               have H1 : (if t375 > 0 then (some (decide (t375 < t376))) else (some false)) = some r := by rw [if_pos rfl] at H; exact H
               clear H
               have H := H1
               clear H1
               by_cases c169 : t375 > 0
               ·rw [if_pos c169] at H
                have c169b0 : decide (0 < t375) = true := decide_eq_true c169
                clear c169
                obtain rfl := Option.some.inj H
                obtain ⟨Ao170, co170, eo170⟩ := Kd.R_slice HO_13.out
                subst eo170
                go_wp2_with (first | ((with_reducible refine gate_callee (f := 17) rfl ?_); refine goesL_ (some 101) rfl rfl Try.func17 (by kernel_rfl) rfl #[.slice Ao170 x13_115.length co170, .int .i64 0, .int .i64 2] rfl al ?_; (with_reducible refine (impl_ParcelShare.calls kj115 _ _ x13_115 0 2 t375 t376 true _ ?side1 ?side2 A136.out).mono ?_); (case side1 => repeat (first | exact (Kd.R_reads' HO_13.out).2.2 | (with_reducible refine Kd.C_alloc ?_ _) | (with_reducible refine Kd.C_drewN ?_ _) | (with_reducible refine Kd.C_drew ?_))); (case side2 => exact (Kd.R_reads' HO_13.out).2.1); rintro e w171 ⟨rfl, hb⟩; refine ⟨_, rfl, ?_⟩; have n0_ := Aside0.mk (Kd.R_below (by (with_reducible repeat (first | apply Kd.R_alloc | apply Kd.R_drewN | apply Kd.R_drew)); exact HO_10.out) hb); have n1_ := Aside0.mk (Kd.R_below (by (with_reducible repeat (first | apply Kd.R_alloc | apply Kd.R_drewN | apply Kd.R_drew)); exact HO_13.out) hb); have n2_ := Aside0.mk (blk_below (bf BK355.out) hb); have n3_ := Aside0.mk (blk_below (bf BK356.out) hb); have n4_ := Aside0.mk (blk_below (bf BK357.out) hb); have n5_ := Aside0.mk (blk_below (bf BK358.out) hb); have n6_ := Aside0.mk (below_step (lb HB.out) hb); clear HO_10; clear HO_13; clear BK355; clear BK356; clear BK357; clear BK358; clear HB; have HO_10 := n0_; have HO_13 := n1_; have BK355 := n2_; have BK356 := n3_; have BK357 := n4_; have BK358 := n5_; have HB := n6_; clear n0_ n1_ n2_ n3_ n4_ n5_ n6_; (try clear hb); (try clear hb2); (try clear hk); (try clear hi)) | ((with_reducible refine gate_dst (N := 16) rfl ?_); (try (refine gate_guard (by rfl) ?_; dsimp only)); refine box_event ?hg (N := 16) ?hd (cs := #[.int .i64 0, .int .i64 0]) (t := 39) ?hr ?_; (case hd => rfl); (case hg => rfl); (case hr => first | (go_simp; done) | (go_simp; rfl)); intro gb378 hg w172 hbox hb; have n0_ := Aside0.mk (Kd.R_below (by (with_reducible repeat (first | apply Kd.R_alloc | apply Kd.R_drewN | apply Kd.R_drew)); exact HO_10.out) hb); have n1_ := Aside0.mk (Kd.R_below (by (with_reducible repeat (first | apply Kd.R_alloc | apply Kd.R_drewN | apply Kd.R_drew)); exact HO_13.out) hb); have n2_ := Aside0.mk (blk_below (bf BK355.out) hb); have n3_ := Aside0.mk (blk_below (bf BK356.out) hb); have n4_ := Aside0.mk (blk_below (bf BK357.out) hb); have n5_ := Aside0.mk (blk_below (bf BK358.out) hb); have n6_ := Aside0.mk (below_step (lb HB.out) hb); have n7_ := Aside0.mk (hbox); have n8_ := Aside0.mk ((by rw [hg]; exact (below_size (lb HB.out)) : w.heap.size ≤ gb378)); have n9_ := Aside0.mk ((by rw [hg]; exact (below_size (lb HB.out)) : w.heap.size ≤ gb378)); have n10_ := Aside0.mk ((by rw [hg]; exact Nat.ne_of_lt (blk_lt (bf BK355.out)) : gb355 ≠ gb378)); have n11_ := Aside0.mk ((by rw [hg]; exact Nat.ne_of_gt (blk_lt (bf BK355.out)) : gb378 ≠ gb355)); have n12_ := Aside0.mk ((by rw [hg]; exact Nat.ne_of_lt (blk_lt (bf BK356.out)) : gb356 ≠ gb378)); have n13_ := Aside0.mk ((by rw [hg]; exact Nat.ne_of_gt (blk_lt (bf BK356.out)) : gb378 ≠ gb356)); have n14_ := Aside0.mk ((by rw [hg]; exact Nat.ne_of_lt (blk_lt (bf BK357.out)) : gb357 ≠ gb378)); have n15_ := Aside0.mk ((by rw [hg]; exact Nat.ne_of_gt (blk_lt (bf BK357.out)) : gb378 ≠ gb357)); have n16_ := Aside0.mk ((by rw [hg]; exact Nat.ne_of_lt (blk_lt (bf BK358.out)) : gb358 ≠ gb378)); have n17_ := Aside0.mk ((by rw [hg]; exact Nat.ne_of_gt (blk_lt (bf BK358.out)) : gb378 ≠ gb358)); clear HO_10; clear HO_13; clear BK355; clear BK356; clear BK357; clear BK358; clear HB; have HO_10 := n0_; have HO_13 := n1_; have BK355 := n2_; have BK356 := n3_; have BK357 := n4_; have BK358 := n5_; have HB := n6_; have BK378 := n7_; have GW378 := n8_; have GE378 := n9_; have NB355_378 := n10_; have NB378_355 := n11_; have NB356_378 := n12_; have NB378_356 := n13_; have NB357_378 := n14_; have NB378_357 := n15_; have NB358_378 := n16_; have NB378_358 := n17_; clear n0_ n1_ n2_ n3_ n4_ n5_ n6_ n7_ n8_ n9_ n10_ n11_ n12_ n13_ n14_ n15_ n16_ n17_; clear hb hbox hg; have hnb173 := NB378_355.out; have hnc173 := NB355_378.out; have hnb174 := NB378_356.out; have hnc174 := NB356_378.out; have hnb175 := NB378_357.out; have hnc175 := NB357_378.out; have hnb176 := NB378_358.out; have hnc176 := NB358_378.out; have hcz177_0 : w172.cell? ⟨gb378, 0, none⟩ = some (.int .i64 0) := (blk_cell BK378.out 0).trans rfl; have hcz177_1 : w172.cell? ⟨gb378, 1, none⟩ = some (.int .i64 0) := (blk_cell BK378.out 1).trans rfl; have hfz177_0 := blk_frozen BK378.out 0; have hfz177_1 := blk_frozen BK378.out 1) | (go_at_call 31; (with_reducible refine (impl_PolyValid.calls _ _ y366 true _ ?side1 ?side2 A138.out).mono ?_); (case side1 => refine (Kd.R_reads' (e := 33) (base := w.heap.size) (ok := fun k_ => (k_ ≠ gb355 ∧ (k_ ≠ gb356 ∧ (k_ ≠ gb357 ∧ k_ ≠ gb358)))) (n := y366.length) (c := co129) ?_).2.2; exact (by (with_reducible repeat (first | apply Kd.R_alloc | apply Kd.R_drewN | apply Kd.R_drew)); exact (Kd.R_mono (Kd.R_far (p := ⟨gb378, 1, none⟩) (Kd.R_far (p := ⟨gb378, 0, none⟩) (Kd.R_types HO_10.out BK378.out (by decide)) (fun _ hk => hk.2) (.int .i64 t375)) (fun _ hk => hk.2) (.int .i64 t376)) (fun _ h_ => h_.1)))); (case side2 => exact (Kd.R_reads' HO_10.out).2.1); rintro e w178 ⟨rfl, hb⟩; have n0_ := Aside0.mk (Kd.R_below (by (with_reducible repeat (first | apply Kd.R_alloc | apply Kd.R_drewN | apply Kd.R_drew)); exact (Kd.R_mono (Kd.R_far (p := ⟨gb378, 1, none⟩) (Kd.R_far (p := ⟨gb378, 0, none⟩) (Kd.R_types HO_10.out BK378.out (by decide)) (fun _ hk => hk.2) (.int .i64 t375)) (fun _ hk => hk.2) (.int .i64 t376)) (fun _ h_ => h_.1))) hb); have n1_ := Aside0.mk (Kd.R_below (by (with_reducible repeat (first | apply Kd.R_alloc | apply Kd.R_drewN | apply Kd.R_drew)); exact (Kd.R_mono (Kd.R_far (p := ⟨gb378, 1, none⟩) (Kd.R_far (p := ⟨gb378, 0, none⟩) (Kd.R_types HO_13.out BK378.out (by decide)) (fun _ hk => hk.2) (.int .i64 t375)) (fun _ hk => hk.2) (.int .i64 t376)) (fun _ h_ => h_.1))) hb); have n2_ := Aside0.mk (blk_below (bf BK355.out) hb); have n3_ := Aside0.mk (blk_below (bf BK356.out) hb); have n4_ := Aside0.mk (blk_below (bf BK357.out) hb); have n5_ := Aside0.mk (blk_below (bf BK358.out) hb); have n6_ := Aside0.mk (blk_below (g := gb378) (o := .cells #[.int .i64 t375, .int .i64 t376] 39 (0, 0)) (by (with_reducible repeat (first | refine blk_drewN ?_ _ | refine blk_drew ?_ | refine blk_alloc ?_ _)); refine blk_put (cs := #[.int .i64 t375, .int .i64 0]) ?_ 1 _ rfl; (with_reducible repeat (first | refine blk_drewN ?_ _ | refine blk_drew ?_ | refine blk_alloc ?_ _)); refine blk_put (cs := #[.int .i64 0, .int .i64 0]) ?_ 0 _ rfl; (with_reducible repeat (first | refine blk_drewN ?_ _ | refine blk_drew ?_ | refine blk_alloc ?_ _)); exact BK378.out) hb); have n7_ := Aside0.mk (below_step (lb HB.out) hb); clear HO_10; clear HO_13; clear BK355; clear BK356; clear BK357; clear BK358; clear BK378; clear HB; have HO_10 := n0_; have HO_13 := n1_; have BK355 := n2_; have BK356 := n3_; have BK357 := n4_; have BK358 := n5_; have BK378 := n6_; have HB := n7_; clear n0_ n1_ n2_ n3_ n4_ n5_ n6_ n7_; (try clear hb); (try clear hb2); (try clear hk); (try clear hi)) | (go_at_call 32; (with_reducible refine (impl_PolyConvex.calls _ _ y366 true _ ?side1 ?side2 A140.out).mono ?_); (case side1 => repeat (first | exact (Kd.R_reads' HO_10.out).2.2 | (with_reducible refine Kd.C_alloc ?_ _) | (with_reducible refine Kd.C_drewN ?_ _) | (with_reducible refine Kd.C_drew ?_))); (case side2 => exact (Kd.R_reads' HO_10.out).2.1); rintro e w179 ⟨rfl, hb⟩; have n0_ := Aside0.mk (Kd.R_below (by (with_reducible repeat (first | apply Kd.R_alloc | apply Kd.R_drewN | apply Kd.R_drew)); exact HO_10.out) hb); have n1_ := Aside0.mk (Kd.R_below (by (with_reducible repeat (first | apply Kd.R_alloc | apply Kd.R_drewN | apply Kd.R_drew)); exact HO_13.out) hb); have n2_ := Aside0.mk (blk_below (bf BK355.out) hb); have n3_ := Aside0.mk (blk_below (bf BK356.out) hb); have n4_ := Aside0.mk (blk_below (bf BK357.out) hb); have n5_ := Aside0.mk (blk_below (bf BK358.out) hb); have n6_ := Aside0.mk (blk_below (bf BK378.out) hb); have n7_ := Aside0.mk (below_step (lb HB.out) hb); clear HO_10; clear HO_13; clear BK355; clear BK356; clear BK357; clear BK358; clear BK378; clear HB; have HO_10 := n0_; have HO_13 := n1_; have BK355 := n2_; have BK356 := n3_; have BK357 := n4_; have BK358 := n5_; have BK378 := n6_; have HB := n7_; clear n0_ n1_ n2_ n3_ n4_ n5_ n6_ n7_; (try clear hb); (try clear hb2); (try clear hk); (try clear hi); have hnb180 := NB355_356.out; have hnc180 := NB356_355.out; have hnb181 := NB355_357.out; have hnc181 := NB357_355.out; have hnb182 := NB355_358.out; have hnc182 := NB358_355.out; have hcz183_0 : w179.cell? ⟨gb355, 0, none⟩ = some (.int .i64 t347) := (blk_cell BK355.out 0).trans rfl; have hcz183_1 : w179.cell? ⟨gb355, 1, none⟩ = some (.int .i64 t348) := (blk_cell BK355.out 1).trans rfl; have hfz183_0 := blk_frozen BK355.out 0; have hfz183_1 := blk_frozen BK355.out 1; have hnb184 := NB356_357.out; have hnc184 := NB357_356.out; have hnb185 := NB356_358.out; have hnc185 := NB358_356.out; have hcz186_0 : w179.cell? ⟨gb356, 0, none⟩ = some (.int .i64 t349) := (blk_cell BK356.out 0).trans rfl; have hcz186_1 : w179.cell? ⟨gb356, 1, none⟩ = some (.int .i64 t350) := (blk_cell BK356.out 1).trans rfl; have hfz186_0 := blk_frozen BK356.out 0; have hfz186_1 := blk_frozen BK356.out 1; have hnb187 := NB357_358.out; have hnc187 := NB358_357.out; have hcz188_0 : w179.cell? ⟨gb357, 0, none⟩ = some (.int .i64 t351) := (blk_cell BK357.out 0).trans rfl; have hcz188_1 : w179.cell? ⟨gb357, 1, none⟩ = some (.int .i64 t352) := (blk_cell BK357.out 1).trans rfl; have hfz188_0 := blk_frozen BK357.out 0; have hfz188_1 := blk_frozen BK357.out 1; have hcz189_0 : w179.cell? ⟨gb358, 0, none⟩ = some (.int .i64 t353) := (blk_cell BK358.out 0).trans rfl; have hcz189_1 : w179.cell? ⟨gb358, 1, none⟩ = some (.int .i64 t354) := (blk_cell BK358.out 1).trans rfl; have hfz189_0 := blk_frozen BK358.out 0; have hfz189_1 := blk_frozen BK358.out 1) | ((with_reducible refine gate_dst (N := 118) rfl ?_); (try (refine gate_guard (by rfl) ?_; dsimp only)); refine Kd.R_lit k33 _ 33 ?hg (N := 118) ?hd (xs := ([(⟨t347, t348⟩ : S33), (⟨t349, t350⟩ : S33), (⟨t351, t352⟩ : S33), (⟨t353, t354⟩ : S33)] : List (S33))) (inner := [.int .i64 t347, .int .i64 t348, .int .i64 t349, .int .i64 t350, .int .i64 t351, .int .i64 t352, .int .i64 t353, .int .i64 t354]) (ok := fun _ => True) (okp := fun _ => True) ?hr ?hp (fun _ hk => hk) trivial (Below.refl _ _) (Nat.le_refl _) (by simp) ?_; (case hd => rfl); (case hg => rfl); (case hr => first | (go_simp; done) | (go_simp; rfl)); (case hp => exact (Reps.c2 (show Kd.M k33 _ _ _ (⟨t347, t348⟩ : S33) [.int .i64 t347, .int .i64 t348] from (k33_mkM _ _ _ (⟨t347, t348⟩ : S33) )) (Reps.c2 (show Kd.M k33 _ _ _ (⟨t349, t350⟩ : S33) [.int .i64 t349, .int .i64 t350] from (k33_mkM _ _ _ (⟨t349, t350⟩ : S33) )) (Reps.c2 (show Kd.M k33 _ _ _ (⟨t351, t352⟩ : S33) [.int .i64 t351, .int .i64 t352] from (k33_mkM _ _ _ (⟨t351, t352⟩ : S33) )) (Reps.c2 (show Kd.M k33 _ _ _ (⟨t353, t354⟩ : S33) [.int .i64 t353, .int .i64 t354] from (k33_mkM _ _ _ (⟨t353, t354⟩ : S33) )) (Reps.none _ _)))))); intro v382 w190 ho191 hb hg_ hnew_; clear hg_ hnew_; (first | rw [← Ny381.out] at ho191 | (simp only [Int.reduceToNat] at ho191; rw [← Ny381.out] at ho191)); have n0_ := Aside0.mk (Kd.R_elder' (by (with_reducible repeat (first | apply Kd.R_alloc | apply Kd.R_drewN | apply Kd.R_drew)); exact HO_10.out) (Kd.R_base ho191) hb); have n1_ := Aside0.mk (Kd.R_elder' (by (with_reducible repeat (first | apply Kd.R_alloc | apply Kd.R_drewN | apply Kd.R_drew)); exact HO_13.out) (Kd.R_base ho191) hb); have n2_ := Aside0.mk (Kd.R_lower (Kd.R_newB (Kd.R_newB (Kd.R_newB (Kd.R_newB (Kd.R_new' (Kd.R_new' ho191 (Kd.R_lt (by (with_reducible repeat (first | apply Kd.R_alloc | apply Kd.R_drewN | apply Kd.R_drew)); exact HO_10.out))) (Kd.R_lt (by (with_reducible repeat (first | apply Kd.R_alloc | apply Kd.R_drewN | apply Kd.R_drew)); exact HO_13.out))) (g := gb355) (o := .cells #[.int .i64 t347, .int .i64 t348] 33 (0, 0)) (bf BK355.out)) (g := gb356) (o := .cells #[.int .i64 t349, .int .i64 t350] 33 (0, 0)) (bf BK356.out)) (g := gb357) (o := .cells #[.int .i64 t351, .int .i64 t352] 33 (0, 0)) (bf BK357.out)) (g := gb358) (o := .cells #[.int .i64 t353, .int .i64 t354] 33 (0, 0)) (bf BK358.out)) (below_size (lb HB.out))); have n3_ := Aside0.mk (blk_below (bf BK355.out) hb); have n4_ := Aside0.mk (blk_below (bf BK356.out) hb); have n5_ := Aside0.mk (blk_below (bf BK357.out) hb); have n6_ := Aside0.mk (blk_below (bf BK358.out) hb); have n7_ := Aside0.mk (blk_below (bf BK378.out) hb); have n8_ := Aside0.mk (below_step (lb HB.out) hb); clear HO_10; clear HO_13; clear BK355; clear BK356; clear BK357; clear BK358; clear BK378; clear HB; have HO_10 := n0_; have HO_13 := n1_; have HO383 := n2_; have BK355 := n3_; have BK356 := n4_; have BK357 := n5_; have BK358 := n6_; have BK378 := n7_; have HB := n8_; clear n0_ n1_ n2_ n3_ n4_ n5_ n6_ n7_ n8_; clear hb ho191; obtain ⟨Ao192, co192, eo192⟩ := Kd.R_slice HO383.out; subst eo192) | (go_at_call 31; (with_reducible refine (impl_PolyValid.calls _ _ y381 false _ ?side1 ?side2 A142.out).mono ?_); (case side1 => repeat (first | exact (Kd.R_reads' HO383.out).2.2 | (with_reducible refine Kd.C_alloc ?_ _) | (with_reducible refine Kd.C_drewN ?_ _) | (with_reducible refine Kd.C_drew ?_))); (case side2 => exact (Kd.R_reads' HO383.out).2.1); rintro e w193 ⟨rfl, hb⟩; have n0_ := Aside0.mk (Kd.R_below (by (with_reducible repeat (first | apply Kd.R_alloc | apply Kd.R_drewN | apply Kd.R_drew)); exact HO_10.out) hb); have n1_ := Aside0.mk (Kd.R_below (by (with_reducible repeat (first | apply Kd.R_alloc | apply Kd.R_drewN | apply Kd.R_drew)); exact HO_13.out) hb); have n2_ := Aside0.mk (Kd.R_below (by (with_reducible repeat (first | apply Kd.R_alloc | apply Kd.R_drewN | apply Kd.R_drew)); exact HO383.out) hb); have n3_ := Aside0.mk (blk_below (bf BK355.out) hb); have n4_ := Aside0.mk (blk_below (bf BK356.out) hb); have n5_ := Aside0.mk (blk_below (bf BK357.out) hb); have n6_ := Aside0.mk (blk_below (bf BK358.out) hb); have n7_ := Aside0.mk (blk_below (bf BK378.out) hb); have n8_ := Aside0.mk (below_step (lb HB.out) hb); clear HO_10; clear HO_13; clear HO383; clear BK355; clear BK356; clear BK357; clear BK358; clear BK378; clear HB; have HO_10 := n0_; have HO_13 := n1_; have HO383 := n2_; have BK355 := n3_; have BK356 := n4_; have BK357 := n5_; have BK358 := n6_; have BK378 := n7_; have HB := n8_; clear n0_ n1_ n2_ n3_ n4_ n5_ n6_ n7_ n8_; (try clear hb); (try clear hb2); (try clear hk); (try clear hi); have hcz194_0 : w193.cell? ⟨gb378, 0, none⟩ = some (.int .i64 t375) := (blk_cell BK378.out 0).trans rfl; have hcz194_1 : w193.cell? ⟨gb378, 1, none⟩ = some (.int .i64 t376) := (blk_cell BK378.out 1).trans rfl; have hfz194_0 := blk_frozen BK378.out 0; have hfz194_1 := blk_frozen BK378.out 1))
                go_ret
                exact ⟨er, lb HB.out⟩
               ·rw [if_neg c169] at H
                have c169b0 : decide (0 < t375) = false := decide_eq_false c169
                clear c169
                obtain rfl := Option.some.inj H
                obtain ⟨Ao195, co195, eo195⟩ := Kd.R_slice HO_13.out
                subst eo195
                go_wp2_with (first | ((with_reducible refine gate_callee (f := 17) rfl ?_); refine goesL_ (some 101) rfl rfl Try.func17 (by kernel_rfl) rfl #[.slice Ao195 x13_115.length co195, .int .i64 0, .int .i64 2] rfl al ?_; (with_reducible refine (impl_ParcelShare.calls kj115 _ _ x13_115 0 2 t375 t376 true _ ?side1 ?side2 A136.out).mono ?_); (case side1 => repeat (first | exact (Kd.R_reads' HO_13.out).2.2 | (with_reducible refine Kd.C_alloc ?_ _) | (with_reducible refine Kd.C_drewN ?_ _) | (with_reducible refine Kd.C_drew ?_))); (case side2 => exact (Kd.R_reads' HO_13.out).2.1); rintro e w196 ⟨rfl, hb⟩; refine ⟨_, rfl, ?_⟩; have n0_ := Aside0.mk (Kd.R_below (by (with_reducible repeat (first | apply Kd.R_alloc | apply Kd.R_drewN | apply Kd.R_drew)); exact HO_10.out) hb); have n1_ := Aside0.mk (Kd.R_below (by (with_reducible repeat (first | apply Kd.R_alloc | apply Kd.R_drewN | apply Kd.R_drew)); exact HO_13.out) hb); have n2_ := Aside0.mk (blk_below (bf BK355.out) hb); have n3_ := Aside0.mk (blk_below (bf BK356.out) hb); have n4_ := Aside0.mk (blk_below (bf BK357.out) hb); have n5_ := Aside0.mk (blk_below (bf BK358.out) hb); have n6_ := Aside0.mk (below_step (lb HB.out) hb); clear HO_10; clear HO_13; clear BK355; clear BK356; clear BK357; clear BK358; clear HB; have HO_10 := n0_; have HO_13 := n1_; have BK355 := n2_; have BK356 := n3_; have BK357 := n4_; have BK358 := n5_; have HB := n6_; clear n0_ n1_ n2_ n3_ n4_ n5_ n6_; (try clear hb); (try clear hb2); (try clear hk); (try clear hi)) | ((with_reducible refine gate_dst (N := 16) rfl ?_); (try (refine gate_guard (by rfl) ?_; dsimp only)); refine box_event ?hg (N := 16) ?hd (cs := #[.int .i64 0, .int .i64 0]) (t := 39) ?hr ?_; (case hd => rfl); (case hg => rfl); (case hr => first | (go_simp; done) | (go_simp; rfl)); intro gb378 hg w197 hbox hb; have n0_ := Aside0.mk (Kd.R_below (by (with_reducible repeat (first | apply Kd.R_alloc | apply Kd.R_drewN | apply Kd.R_drew)); exact HO_10.out) hb); have n1_ := Aside0.mk (Kd.R_below (by (with_reducible repeat (first | apply Kd.R_alloc | apply Kd.R_drewN | apply Kd.R_drew)); exact HO_13.out) hb); have n2_ := Aside0.mk (blk_below (bf BK355.out) hb); have n3_ := Aside0.mk (blk_below (bf BK356.out) hb); have n4_ := Aside0.mk (blk_below (bf BK357.out) hb); have n5_ := Aside0.mk (blk_below (bf BK358.out) hb); have n6_ := Aside0.mk (below_step (lb HB.out) hb); have n7_ := Aside0.mk (hbox); have n8_ := Aside0.mk ((by rw [hg]; exact (below_size (lb HB.out)) : w.heap.size ≤ gb378)); have n9_ := Aside0.mk ((by rw [hg]; exact (below_size (lb HB.out)) : w.heap.size ≤ gb378)); have n10_ := Aside0.mk ((by rw [hg]; exact Nat.ne_of_lt (blk_lt (bf BK355.out)) : gb355 ≠ gb378)); have n11_ := Aside0.mk ((by rw [hg]; exact Nat.ne_of_gt (blk_lt (bf BK355.out)) : gb378 ≠ gb355)); have n12_ := Aside0.mk ((by rw [hg]; exact Nat.ne_of_lt (blk_lt (bf BK356.out)) : gb356 ≠ gb378)); have n13_ := Aside0.mk ((by rw [hg]; exact Nat.ne_of_gt (blk_lt (bf BK356.out)) : gb378 ≠ gb356)); have n14_ := Aside0.mk ((by rw [hg]; exact Nat.ne_of_lt (blk_lt (bf BK357.out)) : gb357 ≠ gb378)); have n15_ := Aside0.mk ((by rw [hg]; exact Nat.ne_of_gt (blk_lt (bf BK357.out)) : gb378 ≠ gb357)); have n16_ := Aside0.mk ((by rw [hg]; exact Nat.ne_of_lt (blk_lt (bf BK358.out)) : gb358 ≠ gb378)); have n17_ := Aside0.mk ((by rw [hg]; exact Nat.ne_of_gt (blk_lt (bf BK358.out)) : gb378 ≠ gb358)); clear HO_10; clear HO_13; clear BK355; clear BK356; clear BK357; clear BK358; clear HB; have HO_10 := n0_; have HO_13 := n1_; have BK355 := n2_; have BK356 := n3_; have BK357 := n4_; have BK358 := n5_; have HB := n6_; have BK378 := n7_; have GW378 := n8_; have GE378 := n9_; have NB355_378 := n10_; have NB378_355 := n11_; have NB356_378 := n12_; have NB378_356 := n13_; have NB357_378 := n14_; have NB378_357 := n15_; have NB358_378 := n16_; have NB378_358 := n17_; clear n0_ n1_ n2_ n3_ n4_ n5_ n6_ n7_ n8_ n9_ n10_ n11_ n12_ n13_ n14_ n15_ n16_ n17_; clear hb hbox hg; have hnb198 := NB378_355.out; have hnc198 := NB355_378.out; have hnb199 := NB378_356.out; have hnc199 := NB356_378.out; have hnb200 := NB378_357.out; have hnc200 := NB357_378.out; have hnb201 := NB378_358.out; have hnc201 := NB358_378.out; have hcz202_0 : w197.cell? ⟨gb378, 0, none⟩ = some (.int .i64 0) := (blk_cell BK378.out 0).trans rfl; have hcz202_1 : w197.cell? ⟨gb378, 1, none⟩ = some (.int .i64 0) := (blk_cell BK378.out 1).trans rfl; have hfz202_0 := blk_frozen BK378.out 0; have hfz202_1 := blk_frozen BK378.out 1) | (go_at_call 31; (with_reducible refine (impl_PolyValid.calls _ _ y366 true _ ?side1 ?side2 A138.out).mono ?_); (case side1 => refine (Kd.R_reads' (e := 33) (base := w.heap.size) (ok := fun k_ => (k_ ≠ gb355 ∧ (k_ ≠ gb356 ∧ (k_ ≠ gb357 ∧ k_ ≠ gb358)))) (n := y366.length) (c := co129) ?_).2.2; exact (by (with_reducible repeat (first | apply Kd.R_alloc | apply Kd.R_drewN | apply Kd.R_drew)); exact (Kd.R_mono (Kd.R_far (p := ⟨gb378, 1, none⟩) (Kd.R_far (p := ⟨gb378, 0, none⟩) (Kd.R_types HO_10.out BK378.out (by decide)) (fun _ hk => hk.2) (.int .i64 t375)) (fun _ hk => hk.2) (.int .i64 t376)) (fun _ h_ => h_.1)))); (case side2 => exact (Kd.R_reads' HO_10.out).2.1); rintro e w203 ⟨rfl, hb⟩; have n0_ := Aside0.mk (Kd.R_below (by (with_reducible repeat (first | apply Kd.R_alloc | apply Kd.R_drewN | apply Kd.R_drew)); exact (Kd.R_mono (Kd.R_far (p := ⟨gb378, 1, none⟩) (Kd.R_far (p := ⟨gb378, 0, none⟩) (Kd.R_types HO_10.out BK378.out (by decide)) (fun _ hk => hk.2) (.int .i64 t375)) (fun _ hk => hk.2) (.int .i64 t376)) (fun _ h_ => h_.1))) hb); have n1_ := Aside0.mk (Kd.R_below (by (with_reducible repeat (first | apply Kd.R_alloc | apply Kd.R_drewN | apply Kd.R_drew)); exact (Kd.R_mono (Kd.R_far (p := ⟨gb378, 1, none⟩) (Kd.R_far (p := ⟨gb378, 0, none⟩) (Kd.R_types HO_13.out BK378.out (by decide)) (fun _ hk => hk.2) (.int .i64 t375)) (fun _ hk => hk.2) (.int .i64 t376)) (fun _ h_ => h_.1))) hb); have n2_ := Aside0.mk (blk_below (bf BK355.out) hb); have n3_ := Aside0.mk (blk_below (bf BK356.out) hb); have n4_ := Aside0.mk (blk_below (bf BK357.out) hb); have n5_ := Aside0.mk (blk_below (bf BK358.out) hb); have n6_ := Aside0.mk (blk_below (g := gb378) (o := .cells #[.int .i64 t375, .int .i64 t376] 39 (0, 0)) (by (with_reducible repeat (first | refine blk_drewN ?_ _ | refine blk_drew ?_ | refine blk_alloc ?_ _)); refine blk_put (cs := #[.int .i64 t375, .int .i64 0]) ?_ 1 _ rfl; (with_reducible repeat (first | refine blk_drewN ?_ _ | refine blk_drew ?_ | refine blk_alloc ?_ _)); refine blk_put (cs := #[.int .i64 0, .int .i64 0]) ?_ 0 _ rfl; (with_reducible repeat (first | refine blk_drewN ?_ _ | refine blk_drew ?_ | refine blk_alloc ?_ _)); exact BK378.out) hb); have n7_ := Aside0.mk (below_step (lb HB.out) hb); clear HO_10; clear HO_13; clear BK355; clear BK356; clear BK357; clear BK358; clear BK378; clear HB; have HO_10 := n0_; have HO_13 := n1_; have BK355 := n2_; have BK356 := n3_; have BK357 := n4_; have BK358 := n5_; have BK378 := n6_; have HB := n7_; clear n0_ n1_ n2_ n3_ n4_ n5_ n6_ n7_; (try clear hb); (try clear hb2); (try clear hk); (try clear hi)) | (go_at_call 32; (with_reducible refine (impl_PolyConvex.calls _ _ y366 true _ ?side1 ?side2 A140.out).mono ?_); (case side1 => repeat (first | exact (Kd.R_reads' HO_10.out).2.2 | (with_reducible refine Kd.C_alloc ?_ _) | (with_reducible refine Kd.C_drewN ?_ _) | (with_reducible refine Kd.C_drew ?_))); (case side2 => exact (Kd.R_reads' HO_10.out).2.1); rintro e w204 ⟨rfl, hb⟩; have n0_ := Aside0.mk (Kd.R_below (by (with_reducible repeat (first | apply Kd.R_alloc | apply Kd.R_drewN | apply Kd.R_drew)); exact HO_10.out) hb); have n1_ := Aside0.mk (Kd.R_below (by (with_reducible repeat (first | apply Kd.R_alloc | apply Kd.R_drewN | apply Kd.R_drew)); exact HO_13.out) hb); have n2_ := Aside0.mk (blk_below (bf BK355.out) hb); have n3_ := Aside0.mk (blk_below (bf BK356.out) hb); have n4_ := Aside0.mk (blk_below (bf BK357.out) hb); have n5_ := Aside0.mk (blk_below (bf BK358.out) hb); have n6_ := Aside0.mk (blk_below (bf BK378.out) hb); have n7_ := Aside0.mk (below_step (lb HB.out) hb); clear HO_10; clear HO_13; clear BK355; clear BK356; clear BK357; clear BK358; clear BK378; clear HB; have HO_10 := n0_; have HO_13 := n1_; have BK355 := n2_; have BK356 := n3_; have BK357 := n4_; have BK358 := n5_; have BK378 := n6_; have HB := n7_; clear n0_ n1_ n2_ n3_ n4_ n5_ n6_ n7_; (try clear hb); (try clear hb2); (try clear hk); (try clear hi); have hnb205 := NB355_356.out; have hnc205 := NB356_355.out; have hnb206 := NB355_357.out; have hnc206 := NB357_355.out; have hnb207 := NB355_358.out; have hnc207 := NB358_355.out; have hcz208_0 : w204.cell? ⟨gb355, 0, none⟩ = some (.int .i64 t347) := (blk_cell BK355.out 0).trans rfl; have hcz208_1 : w204.cell? ⟨gb355, 1, none⟩ = some (.int .i64 t348) := (blk_cell BK355.out 1).trans rfl; have hfz208_0 := blk_frozen BK355.out 0; have hfz208_1 := blk_frozen BK355.out 1; have hnb209 := NB356_357.out; have hnc209 := NB357_356.out; have hnb210 := NB356_358.out; have hnc210 := NB358_356.out; have hcz211_0 : w204.cell? ⟨gb356, 0, none⟩ = some (.int .i64 t349) := (blk_cell BK356.out 0).trans rfl; have hcz211_1 : w204.cell? ⟨gb356, 1, none⟩ = some (.int .i64 t350) := (blk_cell BK356.out 1).trans rfl; have hfz211_0 := blk_frozen BK356.out 0; have hfz211_1 := blk_frozen BK356.out 1; have hnb212 := NB357_358.out; have hnc212 := NB358_357.out; have hcz213_0 : w204.cell? ⟨gb357, 0, none⟩ = some (.int .i64 t351) := (blk_cell BK357.out 0).trans rfl; have hcz213_1 : w204.cell? ⟨gb357, 1, none⟩ = some (.int .i64 t352) := (blk_cell BK357.out 1).trans rfl; have hfz213_0 := blk_frozen BK357.out 0; have hfz213_1 := blk_frozen BK357.out 1; have hcz214_0 : w204.cell? ⟨gb358, 0, none⟩ = some (.int .i64 t353) := (blk_cell BK358.out 0).trans rfl; have hcz214_1 : w204.cell? ⟨gb358, 1, none⟩ = some (.int .i64 t354) := (blk_cell BK358.out 1).trans rfl; have hfz214_0 := blk_frozen BK358.out 0; have hfz214_1 := blk_frozen BK358.out 1) | ((with_reducible refine gate_dst (N := 118) rfl ?_); (try (refine gate_guard (by rfl) ?_; dsimp only)); refine Kd.R_lit k33 _ 33 ?hg (N := 118) ?hd (xs := ([(⟨t347, t348⟩ : S33), (⟨t349, t350⟩ : S33), (⟨t351, t352⟩ : S33), (⟨t353, t354⟩ : S33)] : List (S33))) (inner := [.int .i64 t347, .int .i64 t348, .int .i64 t349, .int .i64 t350, .int .i64 t351, .int .i64 t352, .int .i64 t353, .int .i64 t354]) (ok := fun _ => True) (okp := fun _ => True) ?hr ?hp (fun _ hk => hk) trivial (Below.refl _ _) (Nat.le_refl _) (by simp) ?_; (case hd => rfl); (case hg => rfl); (case hr => first | (go_simp; done) | (go_simp; rfl)); (case hp => exact (Reps.c2 (show Kd.M k33 _ _ _ (⟨t347, t348⟩ : S33) [.int .i64 t347, .int .i64 t348] from (k33_mkM _ _ _ (⟨t347, t348⟩ : S33) )) (Reps.c2 (show Kd.M k33 _ _ _ (⟨t349, t350⟩ : S33) [.int .i64 t349, .int .i64 t350] from (k33_mkM _ _ _ (⟨t349, t350⟩ : S33) )) (Reps.c2 (show Kd.M k33 _ _ _ (⟨t351, t352⟩ : S33) [.int .i64 t351, .int .i64 t352] from (k33_mkM _ _ _ (⟨t351, t352⟩ : S33) )) (Reps.c2 (show Kd.M k33 _ _ _ (⟨t353, t354⟩ : S33) [.int .i64 t353, .int .i64 t354] from (k33_mkM _ _ _ (⟨t353, t354⟩ : S33) )) (Reps.none _ _)))))); intro v382 w215 ho216 hb hg_ hnew_; clear hg_ hnew_; (first | rw [← Ny381.out] at ho216 | (simp only [Int.reduceToNat] at ho216; rw [← Ny381.out] at ho216)); have n0_ := Aside0.mk (Kd.R_elder' (by (with_reducible repeat (first | apply Kd.R_alloc | apply Kd.R_drewN | apply Kd.R_drew)); exact HO_10.out) (Kd.R_base ho216) hb); have n1_ := Aside0.mk (Kd.R_elder' (by (with_reducible repeat (first | apply Kd.R_alloc | apply Kd.R_drewN | apply Kd.R_drew)); exact HO_13.out) (Kd.R_base ho216) hb); have n2_ := Aside0.mk (Kd.R_lower (Kd.R_newB (Kd.R_newB (Kd.R_newB (Kd.R_newB (Kd.R_new' (Kd.R_new' ho216 (Kd.R_lt (by (with_reducible repeat (first | apply Kd.R_alloc | apply Kd.R_drewN | apply Kd.R_drew)); exact HO_10.out))) (Kd.R_lt (by (with_reducible repeat (first | apply Kd.R_alloc | apply Kd.R_drewN | apply Kd.R_drew)); exact HO_13.out))) (g := gb355) (o := .cells #[.int .i64 t347, .int .i64 t348] 33 (0, 0)) (bf BK355.out)) (g := gb356) (o := .cells #[.int .i64 t349, .int .i64 t350] 33 (0, 0)) (bf BK356.out)) (g := gb357) (o := .cells #[.int .i64 t351, .int .i64 t352] 33 (0, 0)) (bf BK357.out)) (g := gb358) (o := .cells #[.int .i64 t353, .int .i64 t354] 33 (0, 0)) (bf BK358.out)) (below_size (lb HB.out))); have n3_ := Aside0.mk (blk_below (bf BK355.out) hb); have n4_ := Aside0.mk (blk_below (bf BK356.out) hb); have n5_ := Aside0.mk (blk_below (bf BK357.out) hb); have n6_ := Aside0.mk (blk_below (bf BK358.out) hb); have n7_ := Aside0.mk (blk_below (bf BK378.out) hb); have n8_ := Aside0.mk (below_step (lb HB.out) hb); clear HO_10; clear HO_13; clear BK355; clear BK356; clear BK357; clear BK358; clear BK378; clear HB; have HO_10 := n0_; have HO_13 := n1_; have HO383 := n2_; have BK355 := n3_; have BK356 := n4_; have BK357 := n5_; have BK358 := n6_; have BK378 := n7_; have HB := n8_; clear n0_ n1_ n2_ n3_ n4_ n5_ n6_ n7_ n8_; clear hb ho216; obtain ⟨Ao217, co217, eo217⟩ := Kd.R_slice HO383.out; subst eo217) | (go_at_call 31; (with_reducible refine (impl_PolyValid.calls _ _ y381 false _ ?side1 ?side2 A142.out).mono ?_); (case side1 => repeat (first | exact (Kd.R_reads' HO383.out).2.2 | (with_reducible refine Kd.C_alloc ?_ _) | (with_reducible refine Kd.C_drewN ?_ _) | (with_reducible refine Kd.C_drew ?_))); (case side2 => exact (Kd.R_reads' HO383.out).2.1); rintro e w218 ⟨rfl, hb⟩; have n0_ := Aside0.mk (Kd.R_below (by (with_reducible repeat (first | apply Kd.R_alloc | apply Kd.R_drewN | apply Kd.R_drew)); exact HO_10.out) hb); have n1_ := Aside0.mk (Kd.R_below (by (with_reducible repeat (first | apply Kd.R_alloc | apply Kd.R_drewN | apply Kd.R_drew)); exact HO_13.out) hb); have n2_ := Aside0.mk (Kd.R_below (by (with_reducible repeat (first | apply Kd.R_alloc | apply Kd.R_drewN | apply Kd.R_drew)); exact HO383.out) hb); have n3_ := Aside0.mk (blk_below (bf BK355.out) hb); have n4_ := Aside0.mk (blk_below (bf BK356.out) hb); have n5_ := Aside0.mk (blk_below (bf BK357.out) hb); have n6_ := Aside0.mk (blk_below (bf BK358.out) hb); have n7_ := Aside0.mk (blk_below (bf BK378.out) hb); have n8_ := Aside0.mk (below_step (lb HB.out) hb); clear HO_10; clear HO_13; clear HO383; clear BK355; clear BK356; clear BK357; clear BK358; clear BK378; clear HB; have HO_10 := n0_; have HO_13 := n1_; have HO383 := n2_; have BK355 := n3_; have BK356 := n4_; have BK357 := n5_; have BK358 := n6_; have BK378 := n7_; have HB := n8_; clear n0_ n1_ n2_ n3_ n4_ n5_ n6_ n7_ n8_; (try clear hb); (try clear hb2); (try clear hk); (try clear hi); have hcz219_0 : w218.cell? ⟨gb378, 0, none⟩ = some (.int .i64 t375) := (blk_cell BK378.out 0).trans rfl; have hcz219_1 : w218.cell? ⟨gb378, 1, none⟩ = some (.int .i64 t376) := (blk_cell BK378.out 1).trans rfl; have hfz219_0 := blk_frozen BK378.out 0; have hfz219_1 := blk_frozen BK378.out 1))
                go_ret
                exact ⟨er, lb HB.out⟩
              ·replace c168 := Bool.eq_false_iff.mpr c168
               subst c168
               have H1 : (some true) = some r := by rw [if_neg (show ¬ (false = true) by decide)] at H; exact H
               clear H
               have H := H1
               clear H1
               obtain rfl := Option.some.inj H
               obtain ⟨Ao220, co220, eo220⟩ := Kd.R_slice HO_13.out
               subst eo220
               go_wp2_with (first | ((with_reducible refine gate_callee (f := 17) rfl ?_); refine goesL_ (some 101) rfl rfl Try.func17 (by kernel_rfl) rfl #[.slice Ao220 x13_115.length co220, .int .i64 0, .int .i64 2] rfl al ?_; (with_reducible refine (impl_ParcelShare.calls kj115 _ _ x13_115 0 2 t375 t376 false _ ?side1 ?side2 A136.out).mono ?_); (case side1 => repeat (first | exact (Kd.R_reads' HO_13.out).2.2 | (with_reducible refine Kd.C_alloc ?_ _) | (with_reducible refine Kd.C_drewN ?_ _) | (with_reducible refine Kd.C_drew ?_))); (case side2 => exact (Kd.R_reads' HO_13.out).2.1); rintro e w221 ⟨rfl, hb⟩; refine ⟨_, rfl, ?_⟩; have n0_ := Aside0.mk (Kd.R_below (by (with_reducible repeat (first | apply Kd.R_alloc | apply Kd.R_drewN | apply Kd.R_drew)); exact HO_10.out) hb); have n1_ := Aside0.mk (Kd.R_below (by (with_reducible repeat (first | apply Kd.R_alloc | apply Kd.R_drewN | apply Kd.R_drew)); exact HO_13.out) hb); have n2_ := Aside0.mk (blk_below (bf BK355.out) hb); have n3_ := Aside0.mk (blk_below (bf BK356.out) hb); have n4_ := Aside0.mk (blk_below (bf BK357.out) hb); have n5_ := Aside0.mk (blk_below (bf BK358.out) hb); have n6_ := Aside0.mk (below_step (lb HB.out) hb); clear HO_10; clear HO_13; clear BK355; clear BK356; clear BK357; clear BK358; clear HB; have HO_10 := n0_; have HO_13 := n1_; have BK355 := n2_; have BK356 := n3_; have BK357 := n4_; have BK358 := n5_; have HB := n6_; clear n0_ n1_ n2_ n3_ n4_ n5_ n6_; (try clear hb); (try clear hb2); (try clear hk); (try clear hi)) | ((with_reducible refine gate_dst (N := 16) rfl ?_); (try (refine gate_guard (by rfl) ?_; dsimp only)); refine box_event ?hg (N := 16) ?hd (cs := #[.int .i64 0, .int .i64 0]) (t := 39) ?hr ?_; (case hd => rfl); (case hg => rfl); (case hr => first | (go_simp; done) | (go_simp; rfl)); intro gb378 hg w222 hbox hb; have n0_ := Aside0.mk (Kd.R_below (by (with_reducible repeat (first | apply Kd.R_alloc | apply Kd.R_drewN | apply Kd.R_drew)); exact HO_10.out) hb); have n1_ := Aside0.mk (Kd.R_below (by (with_reducible repeat (first | apply Kd.R_alloc | apply Kd.R_drewN | apply Kd.R_drew)); exact HO_13.out) hb); have n2_ := Aside0.mk (blk_below (bf BK355.out) hb); have n3_ := Aside0.mk (blk_below (bf BK356.out) hb); have n4_ := Aside0.mk (blk_below (bf BK357.out) hb); have n5_ := Aside0.mk (blk_below (bf BK358.out) hb); have n6_ := Aside0.mk (below_step (lb HB.out) hb); have n7_ := Aside0.mk (hbox); have n8_ := Aside0.mk ((by rw [hg]; exact (below_size (lb HB.out)) : w.heap.size ≤ gb378)); have n9_ := Aside0.mk ((by rw [hg]; exact (below_size (lb HB.out)) : w.heap.size ≤ gb378)); have n10_ := Aside0.mk ((by rw [hg]; exact Nat.ne_of_lt (blk_lt (bf BK355.out)) : gb355 ≠ gb378)); have n11_ := Aside0.mk ((by rw [hg]; exact Nat.ne_of_gt (blk_lt (bf BK355.out)) : gb378 ≠ gb355)); have n12_ := Aside0.mk ((by rw [hg]; exact Nat.ne_of_lt (blk_lt (bf BK356.out)) : gb356 ≠ gb378)); have n13_ := Aside0.mk ((by rw [hg]; exact Nat.ne_of_gt (blk_lt (bf BK356.out)) : gb378 ≠ gb356)); have n14_ := Aside0.mk ((by rw [hg]; exact Nat.ne_of_lt (blk_lt (bf BK357.out)) : gb357 ≠ gb378)); have n15_ := Aside0.mk ((by rw [hg]; exact Nat.ne_of_gt (blk_lt (bf BK357.out)) : gb378 ≠ gb357)); have n16_ := Aside0.mk ((by rw [hg]; exact Nat.ne_of_lt (blk_lt (bf BK358.out)) : gb358 ≠ gb378)); have n17_ := Aside0.mk ((by rw [hg]; exact Nat.ne_of_gt (blk_lt (bf BK358.out)) : gb378 ≠ gb358)); clear HO_10; clear HO_13; clear BK355; clear BK356; clear BK357; clear BK358; clear HB; have HO_10 := n0_; have HO_13 := n1_; have BK355 := n2_; have BK356 := n3_; have BK357 := n4_; have BK358 := n5_; have HB := n6_; have BK378 := n7_; have GW378 := n8_; have GE378 := n9_; have NB355_378 := n10_; have NB378_355 := n11_; have NB356_378 := n12_; have NB378_356 := n13_; have NB357_378 := n14_; have NB378_357 := n15_; have NB358_378 := n16_; have NB378_358 := n17_; clear n0_ n1_ n2_ n3_ n4_ n5_ n6_ n7_ n8_ n9_ n10_ n11_ n12_ n13_ n14_ n15_ n16_ n17_; clear hb hbox hg; have hnb223 := NB378_355.out; have hnc223 := NB355_378.out; have hnb224 := NB378_356.out; have hnc224 := NB356_378.out; have hnb225 := NB378_357.out; have hnc225 := NB357_378.out; have hnb226 := NB378_358.out; have hnc226 := NB358_378.out; have hcz227_0 : w222.cell? ⟨gb378, 0, none⟩ = some (.int .i64 0) := (blk_cell BK378.out 0).trans rfl; have hcz227_1 : w222.cell? ⟨gb378, 1, none⟩ = some (.int .i64 0) := (blk_cell BK378.out 1).trans rfl; have hfz227_0 := blk_frozen BK378.out 0; have hfz227_1 := blk_frozen BK378.out 1) | (go_at_call 31; (with_reducible refine (impl_PolyValid.calls _ _ y366 true _ ?side1 ?side2 A138.out).mono ?_); (case side1 => refine (Kd.R_reads' (e := 33) (base := w.heap.size) (ok := fun k_ => (k_ ≠ gb355 ∧ (k_ ≠ gb356 ∧ (k_ ≠ gb357 ∧ k_ ≠ gb358)))) (n := y366.length) (c := co129) ?_).2.2; exact (by (with_reducible repeat (first | apply Kd.R_alloc | apply Kd.R_drewN | apply Kd.R_drew)); exact (Kd.R_mono (Kd.R_far (p := ⟨gb378, 1, none⟩) (Kd.R_far (p := ⟨gb378, 0, none⟩) (Kd.R_types HO_10.out BK378.out (by decide)) (fun _ hk => hk.2) (.int .i64 t375)) (fun _ hk => hk.2) (.int .i64 t376)) (fun _ h_ => h_.1)))); (case side2 => exact (Kd.R_reads' HO_10.out).2.1); rintro e w228 ⟨rfl, hb⟩; have n0_ := Aside0.mk (Kd.R_below (by (with_reducible repeat (first | apply Kd.R_alloc | apply Kd.R_drewN | apply Kd.R_drew)); exact (Kd.R_mono (Kd.R_far (p := ⟨gb378, 1, none⟩) (Kd.R_far (p := ⟨gb378, 0, none⟩) (Kd.R_types HO_10.out BK378.out (by decide)) (fun _ hk => hk.2) (.int .i64 t375)) (fun _ hk => hk.2) (.int .i64 t376)) (fun _ h_ => h_.1))) hb); have n1_ := Aside0.mk (Kd.R_below (by (with_reducible repeat (first | apply Kd.R_alloc | apply Kd.R_drewN | apply Kd.R_drew)); exact (Kd.R_mono (Kd.R_far (p := ⟨gb378, 1, none⟩) (Kd.R_far (p := ⟨gb378, 0, none⟩) (Kd.R_types HO_13.out BK378.out (by decide)) (fun _ hk => hk.2) (.int .i64 t375)) (fun _ hk => hk.2) (.int .i64 t376)) (fun _ h_ => h_.1))) hb); have n2_ := Aside0.mk (blk_below (bf BK355.out) hb); have n3_ := Aside0.mk (blk_below (bf BK356.out) hb); have n4_ := Aside0.mk (blk_below (bf BK357.out) hb); have n5_ := Aside0.mk (blk_below (bf BK358.out) hb); have n6_ := Aside0.mk (blk_below (g := gb378) (o := .cells #[.int .i64 t375, .int .i64 t376] 39 (0, 0)) (by (with_reducible repeat (first | refine blk_drewN ?_ _ | refine blk_drew ?_ | refine blk_alloc ?_ _)); refine blk_put (cs := #[.int .i64 t375, .int .i64 0]) ?_ 1 _ rfl; (with_reducible repeat (first | refine blk_drewN ?_ _ | refine blk_drew ?_ | refine blk_alloc ?_ _)); refine blk_put (cs := #[.int .i64 0, .int .i64 0]) ?_ 0 _ rfl; (with_reducible repeat (first | refine blk_drewN ?_ _ | refine blk_drew ?_ | refine blk_alloc ?_ _)); exact BK378.out) hb); have n7_ := Aside0.mk (below_step (lb HB.out) hb); clear HO_10; clear HO_13; clear BK355; clear BK356; clear BK357; clear BK358; clear BK378; clear HB; have HO_10 := n0_; have HO_13 := n1_; have BK355 := n2_; have BK356 := n3_; have BK357 := n4_; have BK358 := n5_; have BK378 := n6_; have HB := n7_; clear n0_ n1_ n2_ n3_ n4_ n5_ n6_ n7_; (try clear hb); (try clear hb2); (try clear hk); (try clear hi)) | (go_at_call 32; (with_reducible refine (impl_PolyConvex.calls _ _ y366 true _ ?side1 ?side2 A140.out).mono ?_); (case side1 => repeat (first | exact (Kd.R_reads' HO_10.out).2.2 | (with_reducible refine Kd.C_alloc ?_ _) | (with_reducible refine Kd.C_drewN ?_ _) | (with_reducible refine Kd.C_drew ?_))); (case side2 => exact (Kd.R_reads' HO_10.out).2.1); rintro e w229 ⟨rfl, hb⟩; have n0_ := Aside0.mk (Kd.R_below (by (with_reducible repeat (first | apply Kd.R_alloc | apply Kd.R_drewN | apply Kd.R_drew)); exact HO_10.out) hb); have n1_ := Aside0.mk (Kd.R_below (by (with_reducible repeat (first | apply Kd.R_alloc | apply Kd.R_drewN | apply Kd.R_drew)); exact HO_13.out) hb); have n2_ := Aside0.mk (blk_below (bf BK355.out) hb); have n3_ := Aside0.mk (blk_below (bf BK356.out) hb); have n4_ := Aside0.mk (blk_below (bf BK357.out) hb); have n5_ := Aside0.mk (blk_below (bf BK358.out) hb); have n6_ := Aside0.mk (blk_below (bf BK378.out) hb); have n7_ := Aside0.mk (below_step (lb HB.out) hb); clear HO_10; clear HO_13; clear BK355; clear BK356; clear BK357; clear BK358; clear BK378; clear HB; have HO_10 := n0_; have HO_13 := n1_; have BK355 := n2_; have BK356 := n3_; have BK357 := n4_; have BK358 := n5_; have BK378 := n6_; have HB := n7_; clear n0_ n1_ n2_ n3_ n4_ n5_ n6_ n7_; (try clear hb); (try clear hb2); (try clear hk); (try clear hi); have hnb230 := NB355_356.out; have hnc230 := NB356_355.out; have hnb231 := NB355_357.out; have hnc231 := NB357_355.out; have hnb232 := NB355_358.out; have hnc232 := NB358_355.out; have hcz233_0 : w229.cell? ⟨gb355, 0, none⟩ = some (.int .i64 t347) := (blk_cell BK355.out 0).trans rfl; have hcz233_1 : w229.cell? ⟨gb355, 1, none⟩ = some (.int .i64 t348) := (blk_cell BK355.out 1).trans rfl; have hfz233_0 := blk_frozen BK355.out 0; have hfz233_1 := blk_frozen BK355.out 1; have hnb234 := NB356_357.out; have hnc234 := NB357_356.out; have hnb235 := NB356_358.out; have hnc235 := NB358_356.out; have hcz236_0 : w229.cell? ⟨gb356, 0, none⟩ = some (.int .i64 t349) := (blk_cell BK356.out 0).trans rfl; have hcz236_1 : w229.cell? ⟨gb356, 1, none⟩ = some (.int .i64 t350) := (blk_cell BK356.out 1).trans rfl; have hfz236_0 := blk_frozen BK356.out 0; have hfz236_1 := blk_frozen BK356.out 1; have hnb237 := NB357_358.out; have hnc237 := NB358_357.out; have hcz238_0 : w229.cell? ⟨gb357, 0, none⟩ = some (.int .i64 t351) := (blk_cell BK357.out 0).trans rfl; have hcz238_1 : w229.cell? ⟨gb357, 1, none⟩ = some (.int .i64 t352) := (blk_cell BK357.out 1).trans rfl; have hfz238_0 := blk_frozen BK357.out 0; have hfz238_1 := blk_frozen BK357.out 1; have hcz239_0 : w229.cell? ⟨gb358, 0, none⟩ = some (.int .i64 t353) := (blk_cell BK358.out 0).trans rfl; have hcz239_1 : w229.cell? ⟨gb358, 1, none⟩ = some (.int .i64 t354) := (blk_cell BK358.out 1).trans rfl; have hfz239_0 := blk_frozen BK358.out 0; have hfz239_1 := blk_frozen BK358.out 1) | ((with_reducible refine gate_dst (N := 118) rfl ?_); (try (refine gate_guard (by rfl) ?_; dsimp only)); refine Kd.R_lit k33 _ 33 ?hg (N := 118) ?hd (xs := ([(⟨t347, t348⟩ : S33), (⟨t349, t350⟩ : S33), (⟨t351, t352⟩ : S33), (⟨t353, t354⟩ : S33)] : List (S33))) (inner := [.int .i64 t347, .int .i64 t348, .int .i64 t349, .int .i64 t350, .int .i64 t351, .int .i64 t352, .int .i64 t353, .int .i64 t354]) (ok := fun _ => True) (okp := fun _ => True) ?hr ?hp (fun _ hk => hk) trivial (Below.refl _ _) (Nat.le_refl _) (by simp) ?_; (case hd => rfl); (case hg => rfl); (case hr => first | (go_simp; done) | (go_simp; rfl)); (case hp => exact (Reps.c2 (show Kd.M k33 _ _ _ (⟨t347, t348⟩ : S33) [.int .i64 t347, .int .i64 t348] from (k33_mkM _ _ _ (⟨t347, t348⟩ : S33) )) (Reps.c2 (show Kd.M k33 _ _ _ (⟨t349, t350⟩ : S33) [.int .i64 t349, .int .i64 t350] from (k33_mkM _ _ _ (⟨t349, t350⟩ : S33) )) (Reps.c2 (show Kd.M k33 _ _ _ (⟨t351, t352⟩ : S33) [.int .i64 t351, .int .i64 t352] from (k33_mkM _ _ _ (⟨t351, t352⟩ : S33) )) (Reps.c2 (show Kd.M k33 _ _ _ (⟨t353, t354⟩ : S33) [.int .i64 t353, .int .i64 t354] from (k33_mkM _ _ _ (⟨t353, t354⟩ : S33) )) (Reps.none _ _)))))); intro v382 w240 ho241 hb hg_ hnew_; clear hg_ hnew_; (first | rw [← Ny381.out] at ho241 | (simp only [Int.reduceToNat] at ho241; rw [← Ny381.out] at ho241)); have n0_ := Aside0.mk (Kd.R_elder' (by (with_reducible repeat (first | apply Kd.R_alloc | apply Kd.R_drewN | apply Kd.R_drew)); exact HO_10.out) (Kd.R_base ho241) hb); have n1_ := Aside0.mk (Kd.R_elder' (by (with_reducible repeat (first | apply Kd.R_alloc | apply Kd.R_drewN | apply Kd.R_drew)); exact HO_13.out) (Kd.R_base ho241) hb); have n2_ := Aside0.mk (Kd.R_lower (Kd.R_newB (Kd.R_newB (Kd.R_newB (Kd.R_newB (Kd.R_new' (Kd.R_new' ho241 (Kd.R_lt (by (with_reducible repeat (first | apply Kd.R_alloc | apply Kd.R_drewN | apply Kd.R_drew)); exact HO_10.out))) (Kd.R_lt (by (with_reducible repeat (first | apply Kd.R_alloc | apply Kd.R_drewN | apply Kd.R_drew)); exact HO_13.out))) (g := gb355) (o := .cells #[.int .i64 t347, .int .i64 t348] 33 (0, 0)) (bf BK355.out)) (g := gb356) (o := .cells #[.int .i64 t349, .int .i64 t350] 33 (0, 0)) (bf BK356.out)) (g := gb357) (o := .cells #[.int .i64 t351, .int .i64 t352] 33 (0, 0)) (bf BK357.out)) (g := gb358) (o := .cells #[.int .i64 t353, .int .i64 t354] 33 (0, 0)) (bf BK358.out)) (below_size (lb HB.out))); have n3_ := Aside0.mk (blk_below (bf BK355.out) hb); have n4_ := Aside0.mk (blk_below (bf BK356.out) hb); have n5_ := Aside0.mk (blk_below (bf BK357.out) hb); have n6_ := Aside0.mk (blk_below (bf BK358.out) hb); have n7_ := Aside0.mk (blk_below (bf BK378.out) hb); have n8_ := Aside0.mk (below_step (lb HB.out) hb); clear HO_10; clear HO_13; clear BK355; clear BK356; clear BK357; clear BK358; clear BK378; clear HB; have HO_10 := n0_; have HO_13 := n1_; have HO383 := n2_; have BK355 := n3_; have BK356 := n4_; have BK357 := n5_; have BK358 := n6_; have BK378 := n7_; have HB := n8_; clear n0_ n1_ n2_ n3_ n4_ n5_ n6_ n7_ n8_; clear hb ho241; obtain ⟨Ao242, co242, eo242⟩ := Kd.R_slice HO383.out; subst eo242) | (go_at_call 31; (with_reducible refine (impl_PolyValid.calls _ _ y381 false _ ?side1 ?side2 A142.out).mono ?_); (case side1 => repeat (first | exact (Kd.R_reads' HO383.out).2.2 | (with_reducible refine Kd.C_alloc ?_ _) | (with_reducible refine Kd.C_drewN ?_ _) | (with_reducible refine Kd.C_drew ?_))); (case side2 => exact (Kd.R_reads' HO383.out).2.1); rintro e w243 ⟨rfl, hb⟩; have n0_ := Aside0.mk (Kd.R_below (by (with_reducible repeat (first | apply Kd.R_alloc | apply Kd.R_drewN | apply Kd.R_drew)); exact HO_10.out) hb); have n1_ := Aside0.mk (Kd.R_below (by (with_reducible repeat (first | apply Kd.R_alloc | apply Kd.R_drewN | apply Kd.R_drew)); exact HO_13.out) hb); have n2_ := Aside0.mk (Kd.R_below (by (with_reducible repeat (first | apply Kd.R_alloc | apply Kd.R_drewN | apply Kd.R_drew)); exact HO383.out) hb); have n3_ := Aside0.mk (blk_below (bf BK355.out) hb); have n4_ := Aside0.mk (blk_below (bf BK356.out) hb); have n5_ := Aside0.mk (blk_below (bf BK357.out) hb); have n6_ := Aside0.mk (blk_below (bf BK358.out) hb); have n7_ := Aside0.mk (blk_below (bf BK378.out) hb); have n8_ := Aside0.mk (below_step (lb HB.out) hb); clear HO_10; clear HO_13; clear HO383; clear BK355; clear BK356; clear BK357; clear BK358; clear BK378; clear HB; have HO_10 := n0_; have HO_13 := n1_; have HO383 := n2_; have BK355 := n3_; have BK356 := n4_; have BK357 := n5_; have BK358 := n6_; have BK378 := n7_; have HB := n8_; clear n0_ n1_ n2_ n3_ n4_ n5_ n6_ n7_ n8_; (try clear hb); (try clear hb2); (try clear hk); (try clear hi)))
               go_ret
               exact ⟨er, lb HB.out⟩
            ·replace c141 := Bool.eq_false_iff.mpr c141
             subst c141
             have H1 : (some false) = some r := by rw [if_neg (show ¬ (false = true) by decide)] at H; exact H
             clear H
             have H := H1
             clear H1
             obtain rfl := Option.some.inj H
             obtain ⟨Ao244, co244, eo244⟩ := Kd.R_slice HO_13.out
             subst eo244
             go_wp2_with (first | ((with_reducible refine gate_callee (f := 17) rfl ?_); refine goesL_ (some 101) rfl rfl Try.func17 (by kernel_rfl) rfl #[.slice Ao244 x13_115.length co244, .int .i64 0, .int .i64 2] rfl al ?_; (with_reducible refine (impl_ParcelShare.calls kj115 _ _ x13_115 0 2 t375 t376 t377 _ ?side1 ?side2 A136.out).mono ?_); (case side1 => repeat (first | exact (Kd.R_reads' HO_13.out).2.2 | (with_reducible refine Kd.C_alloc ?_ _) | (with_reducible refine Kd.C_drewN ?_ _) | (with_reducible refine Kd.C_drew ?_))); (case side2 => exact (Kd.R_reads' HO_13.out).2.1); rintro e w245 ⟨rfl, hb⟩; refine ⟨_, rfl, ?_⟩; have n0_ := Aside0.mk (Kd.R_below (by (with_reducible repeat (first | apply Kd.R_alloc | apply Kd.R_drewN | apply Kd.R_drew)); exact HO_10.out) hb); have n1_ := Aside0.mk (Kd.R_below (by (with_reducible repeat (first | apply Kd.R_alloc | apply Kd.R_drewN | apply Kd.R_drew)); exact HO_13.out) hb); have n2_ := Aside0.mk (blk_below (bf BK355.out) hb); have n3_ := Aside0.mk (blk_below (bf BK356.out) hb); have n4_ := Aside0.mk (blk_below (bf BK357.out) hb); have n5_ := Aside0.mk (blk_below (bf BK358.out) hb); have n6_ := Aside0.mk (below_step (lb HB.out) hb); clear HO_10; clear HO_13; clear BK355; clear BK356; clear BK357; clear BK358; clear HB; have HO_10 := n0_; have HO_13 := n1_; have BK355 := n2_; have BK356 := n3_; have BK357 := n4_; have BK358 := n5_; have HB := n6_; clear n0_ n1_ n2_ n3_ n4_ n5_ n6_; (try clear hb); (try clear hb2); (try clear hk); (try clear hi)) | ((with_reducible refine gate_dst (N := 16) rfl ?_); (try (refine gate_guard (by rfl) ?_; dsimp only)); refine box_event ?hg (N := 16) ?hd (cs := #[.int .i64 0, .int .i64 0]) (t := 39) ?hr ?_; (case hd => rfl); (case hg => rfl); (case hr => first | (go_simp; done) | (go_simp; rfl)); intro gb378 hg w246 hbox hb; have n0_ := Aside0.mk (Kd.R_below (by (with_reducible repeat (first | apply Kd.R_alloc | apply Kd.R_drewN | apply Kd.R_drew)); exact HO_10.out) hb); have n1_ := Aside0.mk (Kd.R_below (by (with_reducible repeat (first | apply Kd.R_alloc | apply Kd.R_drewN | apply Kd.R_drew)); exact HO_13.out) hb); have n2_ := Aside0.mk (blk_below (bf BK355.out) hb); have n3_ := Aside0.mk (blk_below (bf BK356.out) hb); have n4_ := Aside0.mk (blk_below (bf BK357.out) hb); have n5_ := Aside0.mk (blk_below (bf BK358.out) hb); have n6_ := Aside0.mk (below_step (lb HB.out) hb); have n7_ := Aside0.mk (hbox); have n8_ := Aside0.mk ((by rw [hg]; exact (below_size (lb HB.out)) : w.heap.size ≤ gb378)); have n9_ := Aside0.mk ((by rw [hg]; exact (below_size (lb HB.out)) : w.heap.size ≤ gb378)); have n10_ := Aside0.mk ((by rw [hg]; exact Nat.ne_of_lt (blk_lt (bf BK355.out)) : gb355 ≠ gb378)); have n11_ := Aside0.mk ((by rw [hg]; exact Nat.ne_of_gt (blk_lt (bf BK355.out)) : gb378 ≠ gb355)); have n12_ := Aside0.mk ((by rw [hg]; exact Nat.ne_of_lt (blk_lt (bf BK356.out)) : gb356 ≠ gb378)); have n13_ := Aside0.mk ((by rw [hg]; exact Nat.ne_of_gt (blk_lt (bf BK356.out)) : gb378 ≠ gb356)); have n14_ := Aside0.mk ((by rw [hg]; exact Nat.ne_of_lt (blk_lt (bf BK357.out)) : gb357 ≠ gb378)); have n15_ := Aside0.mk ((by rw [hg]; exact Nat.ne_of_gt (blk_lt (bf BK357.out)) : gb378 ≠ gb357)); have n16_ := Aside0.mk ((by rw [hg]; exact Nat.ne_of_lt (blk_lt (bf BK358.out)) : gb358 ≠ gb378)); have n17_ := Aside0.mk ((by rw [hg]; exact Nat.ne_of_gt (blk_lt (bf BK358.out)) : gb378 ≠ gb358)); clear HO_10; clear HO_13; clear BK355; clear BK356; clear BK357; clear BK358; clear HB; have HO_10 := n0_; have HO_13 := n1_; have BK355 := n2_; have BK356 := n3_; have BK357 := n4_; have BK358 := n5_; have HB := n6_; have BK378 := n7_; have GW378 := n8_; have GE378 := n9_; have NB355_378 := n10_; have NB378_355 := n11_; have NB356_378 := n12_; have NB378_356 := n13_; have NB357_378 := n14_; have NB378_357 := n15_; have NB358_378 := n16_; have NB378_358 := n17_; clear n0_ n1_ n2_ n3_ n4_ n5_ n6_ n7_ n8_ n9_ n10_ n11_ n12_ n13_ n14_ n15_ n16_ n17_; clear hb hbox hg; have hnb247 := NB378_355.out; have hnc247 := NB355_378.out; have hnb248 := NB378_356.out; have hnc248 := NB356_378.out; have hnb249 := NB378_357.out; have hnc249 := NB357_378.out; have hnb250 := NB378_358.out; have hnc250 := NB358_378.out; have hcz251_0 : w246.cell? ⟨gb378, 0, none⟩ = some (.int .i64 0) := (blk_cell BK378.out 0).trans rfl; have hcz251_1 : w246.cell? ⟨gb378, 1, none⟩ = some (.int .i64 0) := (blk_cell BK378.out 1).trans rfl; have hfz251_0 := blk_frozen BK378.out 0; have hfz251_1 := blk_frozen BK378.out 1) | (go_at_call 31; (with_reducible refine (impl_PolyValid.calls _ _ y366 true _ ?side1 ?side2 A138.out).mono ?_); (case side1 => refine (Kd.R_reads' (e := 33) (base := w.heap.size) (ok := fun k_ => (k_ ≠ gb355 ∧ (k_ ≠ gb356 ∧ (k_ ≠ gb357 ∧ k_ ≠ gb358)))) (n := y366.length) (c := co129) ?_).2.2; exact (by (with_reducible repeat (first | apply Kd.R_alloc | apply Kd.R_drewN | apply Kd.R_drew)); exact (Kd.R_mono (Kd.R_far (p := ⟨gb378, 1, none⟩) (Kd.R_far (p := ⟨gb378, 0, none⟩) (Kd.R_types HO_10.out BK378.out (by decide)) (fun _ hk => hk.2) (.int .i64 t375)) (fun _ hk => hk.2) (.int .i64 t376)) (fun _ h_ => h_.1)))); (case side2 => exact (Kd.R_reads' HO_10.out).2.1); rintro e w252 ⟨rfl, hb⟩; have n0_ := Aside0.mk (Kd.R_below (by (with_reducible repeat (first | apply Kd.R_alloc | apply Kd.R_drewN | apply Kd.R_drew)); exact (Kd.R_mono (Kd.R_far (p := ⟨gb378, 1, none⟩) (Kd.R_far (p := ⟨gb378, 0, none⟩) (Kd.R_types HO_10.out BK378.out (by decide)) (fun _ hk => hk.2) (.int .i64 t375)) (fun _ hk => hk.2) (.int .i64 t376)) (fun _ h_ => h_.1))) hb); have n1_ := Aside0.mk (Kd.R_below (by (with_reducible repeat (first | apply Kd.R_alloc | apply Kd.R_drewN | apply Kd.R_drew)); exact (Kd.R_mono (Kd.R_far (p := ⟨gb378, 1, none⟩) (Kd.R_far (p := ⟨gb378, 0, none⟩) (Kd.R_types HO_13.out BK378.out (by decide)) (fun _ hk => hk.2) (.int .i64 t375)) (fun _ hk => hk.2) (.int .i64 t376)) (fun _ h_ => h_.1))) hb); have n2_ := Aside0.mk (blk_below (bf BK355.out) hb); have n3_ := Aside0.mk (blk_below (bf BK356.out) hb); have n4_ := Aside0.mk (blk_below (bf BK357.out) hb); have n5_ := Aside0.mk (blk_below (bf BK358.out) hb); have n6_ := Aside0.mk (blk_below (g := gb378) (o := .cells #[.int .i64 t375, .int .i64 t376] 39 (0, 0)) (by (with_reducible repeat (first | refine blk_drewN ?_ _ | refine blk_drew ?_ | refine blk_alloc ?_ _)); refine blk_put (cs := #[.int .i64 t375, .int .i64 0]) ?_ 1 _ rfl; (with_reducible repeat (first | refine blk_drewN ?_ _ | refine blk_drew ?_ | refine blk_alloc ?_ _)); refine blk_put (cs := #[.int .i64 0, .int .i64 0]) ?_ 0 _ rfl; (with_reducible repeat (first | refine blk_drewN ?_ _ | refine blk_drew ?_ | refine blk_alloc ?_ _)); exact BK378.out) hb); have n7_ := Aside0.mk (below_step (lb HB.out) hb); clear HO_10; clear HO_13; clear BK355; clear BK356; clear BK357; clear BK358; clear BK378; clear HB; have HO_10 := n0_; have HO_13 := n1_; have BK355 := n2_; have BK356 := n3_; have BK357 := n4_; have BK358 := n5_; have BK378 := n6_; have HB := n7_; clear n0_ n1_ n2_ n3_ n4_ n5_ n6_ n7_; (try clear hb); (try clear hb2); (try clear hk); (try clear hi)) | (go_at_call 32; (with_reducible refine (impl_PolyConvex.calls _ _ y366 false _ ?side1 ?side2 A140.out).mono ?_); (case side1 => repeat (first | exact (Kd.R_reads' HO_10.out).2.2 | (with_reducible refine Kd.C_alloc ?_ _) | (with_reducible refine Kd.C_drewN ?_ _) | (with_reducible refine Kd.C_drew ?_))); (case side2 => exact (Kd.R_reads' HO_10.out).2.1); rintro e w253 ⟨rfl, hb⟩; have n0_ := Aside0.mk (Kd.R_below (by (with_reducible repeat (first | apply Kd.R_alloc | apply Kd.R_drewN | apply Kd.R_drew)); exact HO_10.out) hb); have n1_ := Aside0.mk (Kd.R_below (by (with_reducible repeat (first | apply Kd.R_alloc | apply Kd.R_drewN | apply Kd.R_drew)); exact HO_13.out) hb); have n2_ := Aside0.mk (blk_below (bf BK355.out) hb); have n3_ := Aside0.mk (blk_below (bf BK356.out) hb); have n4_ := Aside0.mk (blk_below (bf BK357.out) hb); have n5_ := Aside0.mk (blk_below (bf BK358.out) hb); have n6_ := Aside0.mk (blk_below (bf BK378.out) hb); have n7_ := Aside0.mk (below_step (lb HB.out) hb); clear HO_10; clear HO_13; clear BK355; clear BK356; clear BK357; clear BK358; clear BK378; clear HB; have HO_10 := n0_; have HO_13 := n1_; have BK355 := n2_; have BK356 := n3_; have BK357 := n4_; have BK358 := n5_; have BK378 := n6_; have HB := n7_; clear n0_ n1_ n2_ n3_ n4_ n5_ n6_ n7_; (try clear hb); (try clear hb2); (try clear hk); (try clear hi)))
             go_ret
             exact ⟨er, lb HB.out⟩
           ·replace c139 := Bool.eq_false_iff.mpr c139
            subst c139
            have H1 : (some false) = some r := by rw [if_neg (show ¬ (false = true) by decide)] at H; exact H
            clear H
            have H := H1
            clear H1
            obtain rfl := Option.some.inj H
            obtain ⟨Ao254, co254, eo254⟩ := Kd.R_slice HO_13.out
            subst eo254
            go_wp2_with (first | ((with_reducible refine gate_callee (f := 17) rfl ?_); refine goesL_ (some 101) rfl rfl Try.func17 (by kernel_rfl) rfl #[.slice Ao254 x13_115.length co254, .int .i64 0, .int .i64 2] rfl al ?_; (with_reducible refine (impl_ParcelShare.calls kj115 _ _ x13_115 0 2 t375 t376 t377 _ ?side1 ?side2 A136.out).mono ?_); (case side1 => repeat (first | exact (Kd.R_reads' HO_13.out).2.2 | (with_reducible refine Kd.C_alloc ?_ _) | (with_reducible refine Kd.C_drewN ?_ _) | (with_reducible refine Kd.C_drew ?_))); (case side2 => exact (Kd.R_reads' HO_13.out).2.1); rintro e w255 ⟨rfl, hb⟩; refine ⟨_, rfl, ?_⟩; have n0_ := Aside0.mk (Kd.R_below (by (with_reducible repeat (first | apply Kd.R_alloc | apply Kd.R_drewN | apply Kd.R_drew)); exact HO_10.out) hb); have n1_ := Aside0.mk (Kd.R_below (by (with_reducible repeat (first | apply Kd.R_alloc | apply Kd.R_drewN | apply Kd.R_drew)); exact HO_13.out) hb); have n2_ := Aside0.mk (blk_below (bf BK355.out) hb); have n3_ := Aside0.mk (blk_below (bf BK356.out) hb); have n4_ := Aside0.mk (blk_below (bf BK357.out) hb); have n5_ := Aside0.mk (blk_below (bf BK358.out) hb); have n6_ := Aside0.mk (below_step (lb HB.out) hb); clear HO_10; clear HO_13; clear BK355; clear BK356; clear BK357; clear BK358; clear HB; have HO_10 := n0_; have HO_13 := n1_; have BK355 := n2_; have BK356 := n3_; have BK357 := n4_; have BK358 := n5_; have HB := n6_; clear n0_ n1_ n2_ n3_ n4_ n5_ n6_; (try clear hb); (try clear hb2); (try clear hk); (try clear hi)) | ((with_reducible refine gate_dst (N := 16) rfl ?_); (try (refine gate_guard (by rfl) ?_; dsimp only)); refine box_event ?hg (N := 16) ?hd (cs := #[.int .i64 0, .int .i64 0]) (t := 39) ?hr ?_; (case hd => rfl); (case hg => rfl); (case hr => first | (go_simp; done) | (go_simp; rfl)); intro gb378 hg w256 hbox hb; have n0_ := Aside0.mk (Kd.R_below (by (with_reducible repeat (first | apply Kd.R_alloc | apply Kd.R_drewN | apply Kd.R_drew)); exact HO_10.out) hb); have n1_ := Aside0.mk (Kd.R_below (by (with_reducible repeat (first | apply Kd.R_alloc | apply Kd.R_drewN | apply Kd.R_drew)); exact HO_13.out) hb); have n2_ := Aside0.mk (blk_below (bf BK355.out) hb); have n3_ := Aside0.mk (blk_below (bf BK356.out) hb); have n4_ := Aside0.mk (blk_below (bf BK357.out) hb); have n5_ := Aside0.mk (blk_below (bf BK358.out) hb); have n6_ := Aside0.mk (below_step (lb HB.out) hb); have n7_ := Aside0.mk (hbox); have n8_ := Aside0.mk ((by rw [hg]; exact (below_size (lb HB.out)) : w.heap.size ≤ gb378)); have n9_ := Aside0.mk ((by rw [hg]; exact (below_size (lb HB.out)) : w.heap.size ≤ gb378)); have n10_ := Aside0.mk ((by rw [hg]; exact Nat.ne_of_lt (blk_lt (bf BK355.out)) : gb355 ≠ gb378)); have n11_ := Aside0.mk ((by rw [hg]; exact Nat.ne_of_gt (blk_lt (bf BK355.out)) : gb378 ≠ gb355)); have n12_ := Aside0.mk ((by rw [hg]; exact Nat.ne_of_lt (blk_lt (bf BK356.out)) : gb356 ≠ gb378)); have n13_ := Aside0.mk ((by rw [hg]; exact Nat.ne_of_gt (blk_lt (bf BK356.out)) : gb378 ≠ gb356)); have n14_ := Aside0.mk ((by rw [hg]; exact Nat.ne_of_lt (blk_lt (bf BK357.out)) : gb357 ≠ gb378)); have n15_ := Aside0.mk ((by rw [hg]; exact Nat.ne_of_gt (blk_lt (bf BK357.out)) : gb378 ≠ gb357)); have n16_ := Aside0.mk ((by rw [hg]; exact Nat.ne_of_lt (blk_lt (bf BK358.out)) : gb358 ≠ gb378)); have n17_ := Aside0.mk ((by rw [hg]; exact Nat.ne_of_gt (blk_lt (bf BK358.out)) : gb378 ≠ gb358)); clear HO_10; clear HO_13; clear BK355; clear BK356; clear BK357; clear BK358; clear HB; have HO_10 := n0_; have HO_13 := n1_; have BK355 := n2_; have BK356 := n3_; have BK357 := n4_; have BK358 := n5_; have HB := n6_; have BK378 := n7_; have GW378 := n8_; have GE378 := n9_; have NB355_378 := n10_; have NB378_355 := n11_; have NB356_378 := n12_; have NB378_356 := n13_; have NB357_378 := n14_; have NB378_357 := n15_; have NB358_378 := n16_; have NB378_358 := n17_; clear n0_ n1_ n2_ n3_ n4_ n5_ n6_ n7_ n8_ n9_ n10_ n11_ n12_ n13_ n14_ n15_ n16_ n17_; clear hb hbox hg; have hnb257 := NB378_355.out; have hnc257 := NB355_378.out; have hnb258 := NB378_356.out; have hnc258 := NB356_378.out; have hnb259 := NB378_357.out; have hnc259 := NB357_378.out; have hnb260 := NB378_358.out; have hnc260 := NB358_378.out; have hcz261_0 : w256.cell? ⟨gb378, 0, none⟩ = some (.int .i64 0) := (blk_cell BK378.out 0).trans rfl; have hcz261_1 : w256.cell? ⟨gb378, 1, none⟩ = some (.int .i64 0) := (blk_cell BK378.out 1).trans rfl; have hfz261_0 := blk_frozen BK378.out 0; have hfz261_1 := blk_frozen BK378.out 1) | (go_at_call 31; (with_reducible refine (impl_PolyValid.calls _ _ y366 false _ ?side1 ?side2 A138.out).mono ?_); (case side1 => refine (Kd.R_reads' (e := 33) (base := w.heap.size) (ok := fun k_ => (k_ ≠ gb355 ∧ (k_ ≠ gb356 ∧ (k_ ≠ gb357 ∧ k_ ≠ gb358)))) (n := y366.length) (c := co129) ?_).2.2; exact (by (with_reducible repeat (first | apply Kd.R_alloc | apply Kd.R_drewN | apply Kd.R_drew)); exact (Kd.R_mono (Kd.R_far (p := ⟨gb378, 1, none⟩) (Kd.R_far (p := ⟨gb378, 0, none⟩) (Kd.R_types HO_10.out BK378.out (by decide)) (fun _ hk => hk.2) (.int .i64 t375)) (fun _ hk => hk.2) (.int .i64 t376)) (fun _ h_ => h_.1)))); (case side2 => exact (Kd.R_reads' HO_10.out).2.1); rintro e w262 ⟨rfl, hb⟩; have n0_ := Aside0.mk (Kd.R_below (by (with_reducible repeat (first | apply Kd.R_alloc | apply Kd.R_drewN | apply Kd.R_drew)); exact (Kd.R_mono (Kd.R_far (p := ⟨gb378, 1, none⟩) (Kd.R_far (p := ⟨gb378, 0, none⟩) (Kd.R_types HO_10.out BK378.out (by decide)) (fun _ hk => hk.2) (.int .i64 t375)) (fun _ hk => hk.2) (.int .i64 t376)) (fun _ h_ => h_.1))) hb); have n1_ := Aside0.mk (Kd.R_below (by (with_reducible repeat (first | apply Kd.R_alloc | apply Kd.R_drewN | apply Kd.R_drew)); exact (Kd.R_mono (Kd.R_far (p := ⟨gb378, 1, none⟩) (Kd.R_far (p := ⟨gb378, 0, none⟩) (Kd.R_types HO_13.out BK378.out (by decide)) (fun _ hk => hk.2) (.int .i64 t375)) (fun _ hk => hk.2) (.int .i64 t376)) (fun _ h_ => h_.1))) hb); have n2_ := Aside0.mk (blk_below (bf BK355.out) hb); have n3_ := Aside0.mk (blk_below (bf BK356.out) hb); have n4_ := Aside0.mk (blk_below (bf BK357.out) hb); have n5_ := Aside0.mk (blk_below (bf BK358.out) hb); have n6_ := Aside0.mk (blk_below (g := gb378) (o := .cells #[.int .i64 t375, .int .i64 t376] 39 (0, 0)) (by (with_reducible repeat (first | refine blk_drewN ?_ _ | refine blk_drew ?_ | refine blk_alloc ?_ _)); refine blk_put (cs := #[.int .i64 t375, .int .i64 0]) ?_ 1 _ rfl; (with_reducible repeat (first | refine blk_drewN ?_ _ | refine blk_drew ?_ | refine blk_alloc ?_ _)); refine blk_put (cs := #[.int .i64 0, .int .i64 0]) ?_ 0 _ rfl; (with_reducible repeat (first | refine blk_drewN ?_ _ | refine blk_drew ?_ | refine blk_alloc ?_ _)); exact BK378.out) hb); have n7_ := Aside0.mk (below_step (lb HB.out) hb); clear HO_10; clear HO_13; clear BK355; clear BK356; clear BK357; clear BK358; clear BK378; clear HB; have HO_10 := n0_; have HO_13 := n1_; have BK355 := n2_; have BK356 := n3_; have BK357 := n4_; have BK358 := n5_; have BK378 := n6_; have HB := n7_; clear n0_ n1_ n2_ n3_ n4_ n5_ n6_ n7_; (try clear hb); (try clear hb2); (try clear hk); (try clear hi)))
            go_ret
            exact ⟨er, lb HB.out⟩
          ·replace c137 := Bool.eq_false_iff.mpr c137
           subst c137
           have H1 : (some false) = some r := by rw [if_neg (show ¬ (false = true) by decide)] at H; exact H
           clear H
           have H := H1
           clear H1
           obtain rfl := Option.some.inj H
           obtain ⟨Ao263, co263, eo263⟩ := Kd.R_slice HO_13.out
           subst eo263
           go_wp2_with (first | ((with_reducible refine gate_callee (f := 17) rfl ?_); refine goesL_ (some 101) rfl rfl Try.func17 (by kernel_rfl) rfl #[.slice Ao263 x13_115.length co263, .int .i64 0, .int .i64 2] rfl al ?_; (with_reducible refine (impl_ParcelShare.calls kj115 _ _ x13_115 0 2 t375 t376 t377 _ ?side1 ?side2 A136.out).mono ?_); (case side1 => repeat (first | exact (Kd.R_reads' HO_13.out).2.2 | (with_reducible refine Kd.C_alloc ?_ _) | (with_reducible refine Kd.C_drewN ?_ _) | (with_reducible refine Kd.C_drew ?_))); (case side2 => exact (Kd.R_reads' HO_13.out).2.1); rintro e w264 ⟨rfl, hb⟩; refine ⟨_, rfl, ?_⟩; have n0_ := Aside0.mk (Kd.R_below (by (with_reducible repeat (first | apply Kd.R_alloc | apply Kd.R_drewN | apply Kd.R_drew)); exact HO_10.out) hb); have n1_ := Aside0.mk (Kd.R_below (by (with_reducible repeat (first | apply Kd.R_alloc | apply Kd.R_drewN | apply Kd.R_drew)); exact HO_13.out) hb); have n2_ := Aside0.mk (blk_below (bf BK355.out) hb); have n3_ := Aside0.mk (blk_below (bf BK356.out) hb); have n4_ := Aside0.mk (blk_below (bf BK357.out) hb); have n5_ := Aside0.mk (blk_below (bf BK358.out) hb); have n6_ := Aside0.mk (below_step (lb HB.out) hb); clear HO_10; clear HO_13; clear BK355; clear BK356; clear BK357; clear BK358; clear HB; have HO_10 := n0_; have HO_13 := n1_; have BK355 := n2_; have BK356 := n3_; have BK357 := n4_; have BK358 := n5_; have HB := n6_; clear n0_ n1_ n2_ n3_ n4_ n5_ n6_; (try clear hb); (try clear hb2); (try clear hk); (try clear hi)) | ((with_reducible refine gate_dst (N := 16) rfl ?_); (try (refine gate_guard (by rfl) ?_; dsimp only)); refine box_event ?hg (N := 16) ?hd (cs := #[.int .i64 0, .int .i64 0]) (t := 39) ?hr ?_; (case hd => rfl); (case hg => rfl); (case hr => first | (go_simp; done) | (go_simp; rfl)); intro gb378 hg w265 hbox hb; have n0_ := Aside0.mk (Kd.R_below (by (with_reducible repeat (first | apply Kd.R_alloc | apply Kd.R_drewN | apply Kd.R_drew)); exact HO_10.out) hb); have n1_ := Aside0.mk (Kd.R_below (by (with_reducible repeat (first | apply Kd.R_alloc | apply Kd.R_drewN | apply Kd.R_drew)); exact HO_13.out) hb); have n2_ := Aside0.mk (blk_below (bf BK355.out) hb); have n3_ := Aside0.mk (blk_below (bf BK356.out) hb); have n4_ := Aside0.mk (blk_below (bf BK357.out) hb); have n5_ := Aside0.mk (blk_below (bf BK358.out) hb); have n6_ := Aside0.mk (below_step (lb HB.out) hb); have n7_ := Aside0.mk (hbox); have n8_ := Aside0.mk ((by rw [hg]; exact (below_size (lb HB.out)) : w.heap.size ≤ gb378)); have n9_ := Aside0.mk ((by rw [hg]; exact (below_size (lb HB.out)) : w.heap.size ≤ gb378)); have n10_ := Aside0.mk ((by rw [hg]; exact Nat.ne_of_lt (blk_lt (bf BK355.out)) : gb355 ≠ gb378)); have n11_ := Aside0.mk ((by rw [hg]; exact Nat.ne_of_gt (blk_lt (bf BK355.out)) : gb378 ≠ gb355)); have n12_ := Aside0.mk ((by rw [hg]; exact Nat.ne_of_lt (blk_lt (bf BK356.out)) : gb356 ≠ gb378)); have n13_ := Aside0.mk ((by rw [hg]; exact Nat.ne_of_gt (blk_lt (bf BK356.out)) : gb378 ≠ gb356)); have n14_ := Aside0.mk ((by rw [hg]; exact Nat.ne_of_lt (blk_lt (bf BK357.out)) : gb357 ≠ gb378)); have n15_ := Aside0.mk ((by rw [hg]; exact Nat.ne_of_gt (blk_lt (bf BK357.out)) : gb378 ≠ gb357)); have n16_ := Aside0.mk ((by rw [hg]; exact Nat.ne_of_lt (blk_lt (bf BK358.out)) : gb358 ≠ gb378)); have n17_ := Aside0.mk ((by rw [hg]; exact Nat.ne_of_gt (blk_lt (bf BK358.out)) : gb378 ≠ gb358)); clear HO_10; clear HO_13; clear BK355; clear BK356; clear BK357; clear BK358; clear HB; have HO_10 := n0_; have HO_13 := n1_; have BK355 := n2_; have BK356 := n3_; have BK357 := n4_; have BK358 := n5_; have HB := n6_; have BK378 := n7_; have GW378 := n8_; have GE378 := n9_; have NB355_378 := n10_; have NB378_355 := n11_; have NB356_378 := n12_; have NB378_356 := n13_; have NB357_378 := n14_; have NB378_357 := n15_; have NB358_378 := n16_; have NB378_358 := n17_; clear n0_ n1_ n2_ n3_ n4_ n5_ n6_ n7_ n8_ n9_ n10_ n11_ n12_ n13_ n14_ n15_ n16_ n17_; clear hb hbox hg; have hnb266 := NB378_355.out; have hnc266 := NB355_378.out; have hnb267 := NB378_356.out; have hnc267 := NB356_378.out; have hnb268 := NB378_357.out; have hnc268 := NB357_378.out; have hnb269 := NB378_358.out; have hnc269 := NB358_378.out; have hcz270_0 : w265.cell? ⟨gb378, 0, none⟩ = some (.int .i64 0) := (blk_cell BK378.out 0).trans rfl; have hcz270_1 : w265.cell? ⟨gb378, 1, none⟩ = some (.int .i64 0) := (blk_cell BK378.out 1).trans rfl; have hfz270_0 := blk_frozen BK378.out 0; have hfz270_1 := blk_frozen BK378.out 1))
           go_ret
           exact ⟨er, lb HB.out⟩
def laws_FnCrossQuad.Pure : Prop := ∀ (l0 : List Int), l0.length ≤ maxLen → l0.length * 1 ≤ 140737488351232 → (∀ x ∈ l0, (Lit.int .u8 x).wf = true) → ∃ k, laws_FnCrossQuad.f k l0 = some true
theorem laws_FnCrossQuad.walk (P : laws_FnCrossQuad.Pure) (a0 : Option Addr) (len0 cap0 : Nat) (z0 : List Int) (w : World) (w0 : (a0 = none ∧ len0 = 0 ∧ cap0 = 0 ∧ z0 = []) ∨ ∃ x, a0 = some x ∧ len0 ≤ cap0 ∧ cap0 ≤ maxLen ∧ z0.length = cap0 ∧ (∀ i, i < z0.length → w.cell? (x.add i) = some (.int .u8 (z0.getD i 0))) ∧ ∀ n ∈ z0, (Lit.int .u8 n).wf = true) (y0 : len0 * 1 ≤ 140737488351232) :
  Calls Try.prog 6 #[.slice a0 len0 cap0] w fun e w' => e = .returned (.bool true) ∧ Below w.heap.size w w' := by
 obtain ⟨l0, rfl, hr0, hm0, hw0, hc0⟩ := ReadsInt.ofRowC w0
 obtain ⟨k, h⟩ := P l0 hm0 y0 hw0
 refine (laws_FnCrossQuad.calls k _ _ l0 true w (Kd.C_of_reads (d := (0 : Int)) (h1 := fun _ => rfl) hr0) hc0 h).mono ?_
 rintro e w' ⟨rfl, hd⟩
 exact ⟨rfl, hd⟩
end Go.Proofs.Ytfonigbkoligmaa.P
-- squeezed

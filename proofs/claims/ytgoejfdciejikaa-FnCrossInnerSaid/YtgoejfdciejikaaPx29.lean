-- Written by a program of this session (wip/xprint.py over the print's own program), not by print.sh. Lean checks it.
import Derived.Test.YtgoejfdciejikaaPx0
import Derived.Test.YtgoejfdciejikaaPx2
import Derived.Test.YtgoejfdciejikaaPx5
import Derived.Test.YtgoejfdciejikaaPx14
import Derived.Test.YtgoejfdciejikaaPx15
import Derived.Test.YtgoejfdciejikaaPx21
import Derived.Test.YtgoejfdciejikaaPx28
namespace Go.Proofs.Ytgoejfdciejikaa.P
open Go.RowKit Go.Proofs.YtgoejfdciejikaaW.PrintWords Go.Proofs.YtgoejfdciejikaaW.PrintLast Go.Proofs.YtgoejfdciejikaaW.PrintMore
attribute [local go_sem] max2_int min2_int max_two min_two max_three min_three max_four min_four   -- for this text's walks alone
set_option linter.unusedVariables false
set_option linter.unusedSimpArgs false

attribute [local go_sem high] eqA29
/-! ### laws_FnCrossInner: function 7 -/
mutual
def laws_FnCrossInner.j0 : Nat → Bool → Bool → Bool → Int → Int → Int → Int → Int → Int → Int → Int → Option (Bool)
  | 0, _, _, _, _, _, _, _, _, _, _, _ => none
  | k + 1, x7, x8, x41, x414000, x414001, x415000, x415001, x416000, x416001, x417000, x417001 => if x41 = true then (some (x7 == x8)) else ((impl_CrossOf.f k x414000 x414001 x415000 x415001 x416000 x416001 x417000 x417001).bind fun bt419 => ((impl_CrossOf.f k x416000 x416001 x417000 x417001 x414000 x414001 x415000 x415001).bind fun bt423 => (if bt419.2.2 = true then (if bt419.1 ≥ 0 then (if bt419.1 ≤ bt419.2.1 then (if bt423.2.2 = true then (if bt423.1 ≥ 0 then (laws_FnCrossInner.j1 k bt419.2.2 (decide (bt423.1 ≤ bt423.2.1)) x414000 x414001 x415000 x415001 x416000 x416001 x417000 x417001 bt419.1 bt419.2.1) else (laws_FnCrossInner.j1 k bt419.2.2 false x414000 x414001 x415000 x415001 x416000 x416001 x417000 x417001 bt419.1 bt419.2.1)) else (laws_FnCrossInner.j1 k bt419.2.2 true x414000 x414001 x415000 x415001 x416000 x416001 x417000 x417001 bt419.1 bt419.2.1)) else (laws_FnCrossInner.j1 k bt419.2.2 false x414000 x414001 x415000 x415001 x416000 x416001 x417000 x417001 bt419.1 bt419.2.1)) else (laws_FnCrossInner.j1 k bt419.2.2 false x414000 x414001 x415000 x415001 x416000 x416001 x417000 x417001 bt419.1 bt419.2.1)) else (if bt423.2.2 = true then (if bt423.1 ≥ 0 then (laws_FnCrossInner.j1 k bt419.2.2 (decide (bt423.1 ≤ bt423.2.1)) x414000 x414001 x415000 x415001 x416000 x416001 x417000 x417001 bt419.1 bt419.2.1) else (laws_FnCrossInner.j1 k bt419.2.2 false x414000 x414001 x415000 x415001 x416000 x416001 x417000 x417001 bt419.1 bt419.2.1)) else (laws_FnCrossInner.j1 k bt419.2.2 true x414000 x414001 x415000 x415001 x416000 x416001 x417000 x417001 bt419.1 bt419.2.1)))))
def laws_FnCrossInner.j1 : Nat → Bool → Bool → Int → Int → Int → Int → Int → Int → Int → Int → Int → Int → Option (Bool)
  | 0, _, _, _, _, _, _, _, _, _, _, _, _ => none
  | k + 1, x10, x13, x414000, x414001, x415000, x415001, x416000, x416001, x417000, x417001, x423000, x423001 => if x10 = true then ((impl_PointValid.f (wrap64 ((wrap64 (2 * x415000)) - x414000)) (wrap64 ((wrap64 (2 * x415001)) - x414001))).bind fun t428 => (laws_FnCrossInner.j2 k x13 (!t428) x414000 x414001 x415000 x415001 x416000 x416001 x417000 x417001 x423000 x423001 (wrap64 ((wrap64 (2 * x415000)) - x414000)) (wrap64 ((wrap64 (2 * x415001)) - x414001)))) else (laws_FnCrossInner.j2 k x13 true x414000 x414001 x415000 x415001 x416000 x416001 x417000 x417001 x423000 x423001 (wrap64 ((wrap64 (2 * x415000)) - x414000)) (wrap64 ((wrap64 (2 * x415001)) - x414001)))
def laws_FnCrossInner.j2 : Nat → Bool → Bool → Int → Int → Int → Int → Int → Int → Int → Int → Int → Int → Int → Int → Option (Bool)
  | 0, _, _, _, _, _, _, _, _, _, _, _, _, _, _ => none
  | k + 1, x13, x110, x414000, x414001, x415000, x415001, x416000, x416001, x417000, x417001, x423000, x423001, x428000, x428001 => if x110 = true then (if x13 = true then ((impl_CrossInner.f x416000 x416001 x417000 x417001 x414000 x414001 x415000 x415001).bind fun t429 => (some t429)) else (some false)) else (if x13 = true then ((impl_CrossInner.f x416000 x416001 x417000 x417001 x414000 x414001 x415000 x415001).bind fun t430 => (if t430 = true then ((impl_CrossInner.f x415000 x415001 x428000 x428001 x416000 x416001 x417000 x417001).bind fun t431 => ((laws_whole.f 1).bind fun bt432 => (some (t431 == (x423000 == bt432.1 && (x423001 == bt432.2)))))) else (some false))) else (some false))
end
def laws_FnCrossInner.f (k : Nat) (l0 : List Int) : Option (Bool) := if (l0.length : Int) > 1048576 then (some true) else ((spec_DrawCrossInner.f k l0).bind fun bt405 => ((impl_CrossInner.f bt405.1 bt405.2.1 bt405.2.2.1 bt405.2.2.2.1 bt405.2.2.2.2.1 bt405.2.2.2.2.2.1 bt405.2.2.2.2.2.2.1 bt405.2.2.2.2.2.2.2).bind fun t417 => ((spec_CrossInner.f k bt405.1 bt405.2.1 bt405.2.2.1 bt405.2.2.2.1 bt405.2.2.2.2.1 bt405.2.2.2.2.2.1 bt405.2.2.2.2.2.2.1 bt405.2.2.2.2.2.2.2).bind fun t418 => (if (t417 != t418) = true then (laws_FnCrossInner.j0 k t417 t418 true bt405.1 bt405.2.1 bt405.2.2.1 bt405.2.2.2.1 bt405.2.2.2.2.1 bt405.2.2.2.2.2.1 bt405.2.2.2.2.2.2.1 bt405.2.2.2.2.2.2.2) else (laws_FnCrossInner.j0 k t417 t418 (!t417) bt405.1 bt405.2.1 bt405.2.2.1 bt405.2.2.2.1 bt405.2.2.2.2.1 bt405.2.2.2.2.2.1 bt405.2.2.2.2.2.2.1 bt405.2.2.2.2.2.2.2)))))
theorem laws_FnCrossInner.mono_l : ∀ k, (∀ y0 y1 y2 y3 y4 y5 y6 y7 y8 y9 y10, LeO (laws_FnCrossInner.j0 k y0 y1 y2 y3 y4 y5 y6 y7 y8 y9 y10) (laws_FnCrossInner.j0 (k + 1) y0 y1 y2 y3 y4 y5 y6 y7 y8 y9 y10)) ∧ (∀ y0 y1 y2 y3 y4 y5 y6 y7 y8 y9 y10 y11, LeO (laws_FnCrossInner.j1 k y0 y1 y2 y3 y4 y5 y6 y7 y8 y9 y10 y11) (laws_FnCrossInner.j1 (k + 1) y0 y1 y2 y3 y4 y5 y6 y7 y8 y9 y10 y11)) ∧ (∀ y0 y1 y2 y3 y4 y5 y6 y7 y8 y9 y10 y11 y12 y13, LeO (laws_FnCrossInner.j2 k y0 y1 y2 y3 y4 y5 y6 y7 y8 y9 y10 y11 y12 y13) (laws_FnCrossInner.j2 (k + 1) y0 y1 y2 y3 y4 y5 y6 y7 y8 y9 y10 y11 y12 y13))
  | 0 => ⟨fun _ _ _ _ _ _ _ _ _ _ _ r h => by simp [laws_FnCrossInner.j0] at h, fun _ _ _ _ _ _ _ _ _ _ _ _ r h => by simp [laws_FnCrossInner.j1] at h, fun _ _ _ _ _ _ _ _ _ _ _ _ _ _ r h => by simp [laws_FnCrossInner.j2] at h⟩
  | k + 1 => by
    obtain ⟨ih0, ih1, ih2⟩ := laws_FnCrossInner.mono_l k
    refine ⟨?_, ?_, ?_⟩
    · intro y0 y1 y2 y3 y4 y5 y6 y7 y8 y9 y10
      unfold laws_FnCrossInner.j0
      repeat' first
      | (with_reducible exact ih0 _ _ _ _ _ _ _ _ _ _ _)
      | (with_reducible exact ih1 _ _ _ _ _ _ _ _ _ _ _ _)
      | (with_reducible exact ih2 _ _ _ _ _ _ _ _ _ _ _ _ _ _)
      | (with_reducible exact impl_CrossOf.mono _ _ _ _ _ _ _ _ _)
      | (with_reducible exact spec_CrossInner.mono _ _ _ _ _ _ _ _ _)
      | (with_reducible exact spec_DrawCrossInner.mono _ _)
      | (with_reducible exact LeO.refl _)
      | (with_reducible exact LeO.none _)
      | (with_reducible refine LeO.ite ?_ ?_)
      | (with_reducible refine LeO.bind ?_ (fun _ => ?_))
      | exact ih0 _ _ _ _ _ _ _ _ _ _ _
      | exact ih1 _ _ _ _ _ _ _ _ _ _ _ _
      | exact ih2 _ _ _ _ _ _ _ _ _ _ _ _ _ _
      | exact impl_CrossOf.mono _ _ _ _ _ _ _ _ _
      | exact spec_CrossInner.mono _ _ _ _ _ _ _ _ _
      | exact spec_DrawCrossInner.mono _ _
      | exact LeO.none _
      | refine LeO.ite ?_ ?_
      | refine LeO.bind ?_ (fun _ => ?_)
    · intro y0 y1 y2 y3 y4 y5 y6 y7 y8 y9 y10 y11
      unfold laws_FnCrossInner.j1
      repeat' first
      | (with_reducible exact ih0 _ _ _ _ _ _ _ _ _ _ _)
      | (with_reducible exact ih1 _ _ _ _ _ _ _ _ _ _ _ _)
      | (with_reducible exact ih2 _ _ _ _ _ _ _ _ _ _ _ _ _ _)
      | (with_reducible exact impl_CrossOf.mono _ _ _ _ _ _ _ _ _)
      | (with_reducible exact spec_CrossInner.mono _ _ _ _ _ _ _ _ _)
      | (with_reducible exact spec_DrawCrossInner.mono _ _)
      | (with_reducible exact LeO.refl _)
      | (with_reducible exact LeO.none _)
      | (with_reducible refine LeO.ite ?_ ?_)
      | (with_reducible refine LeO.bind ?_ (fun _ => ?_))
      | exact ih0 _ _ _ _ _ _ _ _ _ _ _
      | exact ih1 _ _ _ _ _ _ _ _ _ _ _ _
      | exact ih2 _ _ _ _ _ _ _ _ _ _ _ _ _ _
      | exact impl_CrossOf.mono _ _ _ _ _ _ _ _ _
      | exact spec_CrossInner.mono _ _ _ _ _ _ _ _ _
      | exact spec_DrawCrossInner.mono _ _
      | exact LeO.none _
      | refine LeO.ite ?_ ?_
      | refine LeO.bind ?_ (fun _ => ?_)
    · intro y0 y1 y2 y3 y4 y5 y6 y7 y8 y9 y10 y11 y12 y13
      unfold laws_FnCrossInner.j2
      repeat' first
      | (with_reducible exact ih0 _ _ _ _ _ _ _ _ _ _ _)
      | (with_reducible exact ih1 _ _ _ _ _ _ _ _ _ _ _ _)
      | (with_reducible exact ih2 _ _ _ _ _ _ _ _ _ _ _ _ _ _)
      | (with_reducible exact impl_CrossOf.mono _ _ _ _ _ _ _ _ _)
      | (with_reducible exact spec_CrossInner.mono _ _ _ _ _ _ _ _ _)
      | (with_reducible exact spec_DrawCrossInner.mono _ _)
      | (with_reducible exact LeO.refl _)
      | (with_reducible exact LeO.none _)
      | (with_reducible refine LeO.ite ?_ ?_)
      | (with_reducible refine LeO.bind ?_ (fun _ => ?_))
      | exact ih0 _ _ _ _ _ _ _ _ _ _ _
      | exact ih1 _ _ _ _ _ _ _ _ _ _ _ _
      | exact ih2 _ _ _ _ _ _ _ _ _ _ _ _ _ _
      | exact impl_CrossOf.mono _ _ _ _ _ _ _ _ _
      | exact spec_CrossInner.mono _ _ _ _ _ _ _ _ _
      | exact spec_DrawCrossInner.mono _ _
      | exact LeO.none _
      | refine LeO.ite ?_ ?_
      | refine LeO.bind ?_ (fun _ => ?_)
theorem laws_FnCrossInner.mono : ∀ a0 k, LeO (laws_FnCrossInner.f k a0) (laws_FnCrossInner.f (k + 1) a0) := by
  intro a0 k
  obtain ⟨ih0, ih1, ih2⟩ := laws_FnCrossInner.mono_l k
  unfold laws_FnCrossInner.f
  repeat' first
      | (with_reducible exact ih0 _ _ _ _ _ _ _ _ _ _ _)
      | (with_reducible exact ih1 _ _ _ _ _ _ _ _ _ _ _ _)
      | (with_reducible exact ih2 _ _ _ _ _ _ _ _ _ _ _ _ _ _)
      | (with_reducible exact impl_CrossOf.mono _ _ _ _ _ _ _ _ _)
      | (with_reducible exact spec_CrossInner.mono _ _ _ _ _ _ _ _ _)
      | (with_reducible exact spec_DrawCrossInner.mono _ _)
      | (with_reducible exact LeO.refl _)
      | (with_reducible exact LeO.none _)
      | (with_reducible refine LeO.ite ?_ ?_)
      | (with_reducible refine LeO.bind ?_ (fun _ => ?_))
      | exact ih0 _ _ _ _ _ _ _ _ _ _ _
      | exact ih1 _ _ _ _ _ _ _ _ _ _ _ _
      | exact ih2 _ _ _ _ _ _ _ _ _ _ _ _ _ _
      | exact impl_CrossOf.mono _ _ _ _ _ _ _ _ _
      | exact spec_CrossInner.mono _ _ _ _ _ _ _ _ _
      | exact spec_DrawCrossInner.mono _ _
      | exact LeO.none _
      | refine LeO.ite ?_ ?_
      | refine LeO.bind ?_ (fun _ => ?_)
def laws_FnCrossInner.T14 : Bool × List (List Nat × List Nat) := (true, [([], []), ([0], [0]), ([1], [1]), ([1], [1]), ([1], [1]), ([1], [1]), ([2, 3, 4, 5, 1, 1], [1, 2, 3, 4, 5]), ([1, 6], [1, 6]), ([7, 6], [7]), ([8], [8]), ([8], [8]), ([8], [8]), ([8], [8]), ([9, 10, 11, 12, 8, 8], [8, 9, 10, 11, 12]), ([8], [8]), ([13, 8], [8]), ([14, 15, 8], [8, 14, 15]), ([13, 16, 8], [8, 13, 16]), ([8, 17], [8, 17]), ([18, 15, 0, 1, 2, 3, 4, 5, 6, 7, 8, 9, 10, 11, 12, 13, 14, 15, 16, 17, 18], [18])])
def laws_FnCrossInner.B14 : List Nat := [0, 1, 3, 3, 3, 3, 63, 127, 255, 511, 511, 511, 511, 8191, 511, 16383, 65535, 131071, 262143, 524287]
theorem laws_FnCrossInner.tab14 : rtab .any (opsOf Try.f7 14) = laws_FnCrossInner.T14 := by kernel_rfl
theorem laws_FnCrossInner.bits14 : waitsOk laws_FnCrossInner.T14.2 laws_FnCrossInner.B14 = true := by kernel_rfl
set_option maxHeartbeats 8000000 in
set_option maxRecDepth 100000 in
theorem laws_FnCrossInner.calls (k : Nat) (A0 : Option Addr) (c0 : Nat) (l0 : List Int) (r : Bool) (w : World) (hr0 : Kd.C (Kd.int .u8) w A0 l0.length l0) (hc0 : l0.length ≤ c0) (h : laws_FnCrossInner.f k l0 = some r) :
    Calls Try.prog 7 #[.slice A0 l0.length c0] w fun e w' => e = .returned (.bool r) ∧ Below w.heap.size w w' := by
  have hu25 := Try.underlying25
  have hu29 := Try.underlying29
  have HR0 := Aside0.mk hr0
  have HC0 := Aside0.mk hc0
  clear hr0 hc0
  have HB := Aside0.mk (Below.refl w.heap.size w)
  have H : (if (l0.length : Int) > 1048576 then (some true) else ((spec_DrawCrossInner.f k l0).bind fun bt405 => ((impl_CrossInner.f bt405.1 bt405.2.1 bt405.2.2.1 bt405.2.2.2.1 bt405.2.2.2.2.1 bt405.2.2.2.2.2.1 bt405.2.2.2.2.2.2.1 bt405.2.2.2.2.2.2.2).bind fun t417 => ((spec_CrossInner.f k bt405.1 bt405.2.1 bt405.2.2.1 bt405.2.2.2.1 bt405.2.2.2.2.1 bt405.2.2.2.2.2.1 bt405.2.2.2.2.2.2.1 bt405.2.2.2.2.2.2.2).bind fun t418 => (if (t417 != t418) = true then (laws_FnCrossInner.j0 k t417 t418 true bt405.1 bt405.2.1 bt405.2.2.1 bt405.2.2.2.1 bt405.2.2.2.2.1 bt405.2.2.2.2.2.1 bt405.2.2.2.2.2.2.1 bt405.2.2.2.2.2.2.2) else (laws_FnCrossInner.j0 k t417 t418 (!t417) bt405.1 bt405.2.1 bt405.2.2.1 bt405.2.2.2.1 bt405.2.2.2.2.1 bt405.2.2.2.2.2.1 bt405.2.2.2.2.2.2.1 bt405.2.2.2.2.2.2.2)))))) = some r := h
  clear h
  by_cases c2 : (l0.length : Int) > 1048576
  · rw [if_pos c2] at H
    have c2b0 : decide (1048576 < (l0.length : Int)) = true := decide_eq_true c2
    have c2b1 : decide (1048576 < l0.length) = true := decide_eq_true (by omega)
    clear c2
    obtain rfl := Option.some.inj H
    go_enter Try.func7, Try.ntmps7
    go_wp2
    go_ret
    exact ⟨er, lb HB.out⟩
  · rw [if_neg c2] at H
    have c2b0 : decide (1048576 < (l0.length : Int)) = false := decide_eq_false c2
    have c2b1 : decide (1048576 < l0.length) = false := decide_eq_false (by omega)
    clear c2
    replace H := Option.bind_eq_some_iff.mp H
    obtain ⟨⟨t405, t406, t407, t408, t409, t410, t411, t412⟩, A30, H⟩ := H
    replace H : ((impl_CrossInner.f t405 t406 t407 t408 t409 t410 t411 t412).bind fun t417 => ((spec_CrossInner.f k t405 t406 t407 t408 t409 t410 t411 t412).bind fun t418 => (if (t417 != t418) = true then (laws_FnCrossInner.j0 k t417 t418 true t405 t406 t407 t408 t409 t410 t411 t412) else (laws_FnCrossInner.j0 k t417 t418 (!t417) t405 t406 t407 t408 t409 t410 t411 t412)))) = some r := H
    have A3 := Aside0.mk A30
    clear A30
    replace H := Option.bind_eq_some_iff.mp H
    obtain ⟨t417, A40, H⟩ := H
    replace H : ((spec_CrossInner.f k t405 t406 t407 t408 t409 t410 t411 t412).bind fun t418 => (if (t417 != t418) = true then (laws_FnCrossInner.j0 k t417 t418 true t405 t406 t407 t408 t409 t410 t411 t412) else (laws_FnCrossInner.j0 k t417 t418 (!t417) t405 t406 t407 t408 t409 t410 t411 t412))) = some r := H
    have A4 := Aside0.mk A40
    clear A40
    replace H := Option.bind_eq_some_iff.mp H
    obtain ⟨t418, A50, H⟩ := H
    replace H : (if (t417 != t418) = true then (laws_FnCrossInner.j0 k t417 t418 true t405 t406 t407 t408 t409 t410 t411 t412) else (laws_FnCrossInner.j0 k t417 t418 (!t417) t405 t406 t407 t408 t409 t410 t411 t412)) = some r := H
    have A5 := Aside0.mk A50
    clear A50
    have HC6 := Aside0.mk H
    clear H
    go_enter Try.func7, Try.ntmps7
    go_upto_region 6 with (first | ((with_reducible refine gate_callee (f := 22) rfl ?_); refine goesL_ (some 20) rfl rfl Try.func22 (by kernel_rfl) rfl #[.slice A0 l0.length c0] rfl al ?_; (with_reducible refine (spec_DrawCrossInner.calls k _ _ l0 t405 t406 t407 t408 t409 t410 t411 t412 _ ?side1 ?side2 A3.out).mono ?_); (case side1 => repeat (first | exact HR0.out | (with_reducible refine Kd.C_alloc ?_ _) | (with_reducible refine Kd.C_drewN ?_ _) | (with_reducible refine Kd.C_drew ?_))); (case side2 => exact HC0.out); rintro e w7 ⟨rfl, hb⟩; refine ⟨_, rfl, ?_⟩; have n0_ := Aside0.mk (below_step (lb HB.out) hb); clear HB; have HB := n0_; clear n0_; (try clear hb); (try clear hb2); (try clear hk); (try clear hi)) | ((with_reducible refine gate_dst (N := 3) rfl ?_); refine box_event ?hg (N := 3) ?hd (cs := #[.int .i64 0, .int .i64 0]) (t := 25) ?hr ?_; (case hd => rfl); (case hg => rfl); (case hr => first | (go_simp; done) | (go_simp; rfl)); intro gb413 hg w8 hbox hb; have n0_ := Aside0.mk (below_step (lb HB.out) hb); have n1_ := Aside0.mk (hbox); have n2_ := Aside0.mk ((by rw [hg]; exact (below_size (lb HB.out)) : w.heap.size ≤ gb413)); have n3_ := Aside0.mk ((by rw [hg]; exact (below_size (lb HB.out)) : w.heap.size ≤ gb413)); clear HB; have HB := n0_; have BK413 := n1_; have GW413 := n2_; have GE413 := n3_; clear n0_ n1_ n2_ n3_; clear hb hbox hg) | ((with_reducible refine gate_dst (N := 4) rfl ?_); refine box_event ?hg (N := 4) ?hd (cs := #[.int .i64 0, .int .i64 0]) (t := 25) ?hr ?_; (case hd => rfl); (case hg => rfl); (case hr => first | (go_simp; done) | (go_simp; rfl)); intro gb414 hg w9 hbox hb; have n0_ := Aside0.mk (blk_below (bf BK413.out) hb); have n1_ := Aside0.mk (below_step (lb HB.out) hb); have n2_ := Aside0.mk (hbox); have n3_ := Aside0.mk ((by rw [hg]; exact (below_size (lb HB.out)) : w.heap.size ≤ gb414)); have n4_ := Aside0.mk ((by rw [hg]; exact (below_size (lb HB.out)) : w.heap.size ≤ gb414)); have n5_ := Aside0.mk ((by rw [hg]; exact Nat.ne_of_lt (blk_lt (bf BK413.out)) : gb413 ≠ gb414)); have n6_ := Aside0.mk ((by rw [hg]; exact Nat.ne_of_gt (blk_lt (bf BK413.out)) : gb414 ≠ gb413)); clear BK413; clear HB; have BK413 := n0_; have HB := n1_; have BK414 := n2_; have GW414 := n3_; have GE414 := n4_; have NB413_414 := n5_; have NB414_413 := n6_; clear n0_ n1_ n2_ n3_ n4_ n5_ n6_; clear hb hbox hg) | ((with_reducible refine gate_dst (N := 5) rfl ?_); refine box_event ?hg (N := 5) ?hd (cs := #[.int .i64 0, .int .i64 0]) (t := 25) ?hr ?_; (case hd => rfl); (case hg => rfl); (case hr => first | (go_simp; done) | (go_simp; rfl)); intro gb415 hg w10 hbox hb; have n0_ := Aside0.mk (blk_below (bf BK413.out) hb); have n1_ := Aside0.mk (blk_below (bf BK414.out) hb); have n2_ := Aside0.mk (below_step (lb HB.out) hb); have n3_ := Aside0.mk (hbox); have n4_ := Aside0.mk ((by rw [hg]; exact (below_size (lb HB.out)) : w.heap.size ≤ gb415)); have n5_ := Aside0.mk ((by rw [hg]; exact (below_size (lb HB.out)) : w.heap.size ≤ gb415)); have n6_ := Aside0.mk ((by rw [hg]; exact Nat.ne_of_lt (blk_lt (bf BK413.out)) : gb413 ≠ gb415)); have n7_ := Aside0.mk ((by rw [hg]; exact Nat.ne_of_gt (blk_lt (bf BK413.out)) : gb415 ≠ gb413)); have n8_ := Aside0.mk ((by rw [hg]; exact Nat.ne_of_lt (blk_lt (bf BK414.out)) : gb414 ≠ gb415)); have n9_ := Aside0.mk ((by rw [hg]; exact Nat.ne_of_gt (blk_lt (bf BK414.out)) : gb415 ≠ gb414)); clear BK413; clear BK414; clear HB; have BK413 := n0_; have BK414 := n1_; have HB := n2_; have BK415 := n3_; have GW415 := n4_; have GE415 := n5_; have NB413_415 := n6_; have NB415_413 := n7_; have NB414_415 := n8_; have NB415_414 := n9_; clear n0_ n1_ n2_ n3_ n4_ n5_ n6_ n7_ n8_ n9_; clear hb hbox hg) | ((with_reducible refine gate_dst (N := 6) rfl ?_); refine box_event ?hg (N := 6) ?hd (cs := #[.int .i64 0, .int .i64 0]) (t := 25) ?hr ?_; (case hd => rfl); (case hg => rfl); (case hr => first | (go_simp; done) | (go_simp; rfl)); intro gb416 hg w11 hbox hb; have n0_ := Aside0.mk (blk_below (bf BK413.out) hb); have n1_ := Aside0.mk (blk_below (bf BK414.out) hb); have n2_ := Aside0.mk (blk_below (bf BK415.out) hb); have n3_ := Aside0.mk (below_step (lb HB.out) hb); have n4_ := Aside0.mk (hbox); have n5_ := Aside0.mk ((by rw [hg]; exact (below_size (lb HB.out)) : w.heap.size ≤ gb416)); have n6_ := Aside0.mk ((by rw [hg]; exact (below_size (lb HB.out)) : w.heap.size ≤ gb416)); have n7_ := Aside0.mk ((by rw [hg]; exact Nat.ne_of_lt (blk_lt (bf BK413.out)) : gb413 ≠ gb416)); have n8_ := Aside0.mk ((by rw [hg]; exact Nat.ne_of_gt (blk_lt (bf BK413.out)) : gb416 ≠ gb413)); have n9_ := Aside0.mk ((by rw [hg]; exact Nat.ne_of_lt (blk_lt (bf BK414.out)) : gb414 ≠ gb416)); have n10_ := Aside0.mk ((by rw [hg]; exact Nat.ne_of_gt (blk_lt (bf BK414.out)) : gb416 ≠ gb414)); have n11_ := Aside0.mk ((by rw [hg]; exact Nat.ne_of_lt (blk_lt (bf BK415.out)) : gb415 ≠ gb416)); have n12_ := Aside0.mk ((by rw [hg]; exact Nat.ne_of_gt (blk_lt (bf BK415.out)) : gb416 ≠ gb415)); clear BK413; clear BK414; clear BK415; clear HB; have BK413 := n0_; have BK414 := n1_; have BK415 := n2_; have HB := n3_; have BK416 := n4_; have GW416 := n5_; have GE416 := n6_; have NB413_416 := n7_; have NB416_413 := n8_; have NB414_416 := n9_; have NB416_414 := n10_; have NB415_416 := n11_; have NB416_415 := n12_; clear n0_ n1_ n2_ n3_ n4_ n5_ n6_ n7_ n8_ n9_ n10_ n11_ n12_; clear hb hbox hg; have hnb12 := NB413_414.out; have hnc12 := NB414_413.out; have hnb13 := NB413_415.out; have hnc13 := NB415_413.out; have hnb14 := NB413_416.out; have hnc14 := NB416_413.out; have hcz15_0 : w11.cell? ⟨gb413, 0, none⟩ = some (.int .i64 0) := (blk_cell BK413.out 0).trans rfl; have hcz15_1 : w11.cell? ⟨gb413, 1, none⟩ = some (.int .i64 0) := (blk_cell BK413.out 1).trans rfl; have hfz15_0 := blk_frozen BK413.out 0; have hfz15_1 := blk_frozen BK413.out 1; have hnb16 := NB414_415.out; have hnc16 := NB415_414.out; have hnb17 := NB414_416.out; have hnc17 := NB416_414.out; have hcz18_0 : w11.cell? ⟨gb414, 0, none⟩ = some (.int .i64 0) := (blk_cell BK414.out 0).trans rfl; have hcz18_1 : w11.cell? ⟨gb414, 1, none⟩ = some (.int .i64 0) := (blk_cell BK414.out 1).trans rfl; have hfz18_0 := blk_frozen BK414.out 0; have hfz18_1 := blk_frozen BK414.out 1; have hnb19 := NB415_416.out; have hnc19 := NB416_415.out; have hcz20_0 : w11.cell? ⟨gb415, 0, none⟩ = some (.int .i64 0) := (blk_cell BK415.out 0).trans rfl; have hcz20_1 : w11.cell? ⟨gb415, 1, none⟩ = some (.int .i64 0) := (blk_cell BK415.out 1).trans rfl; have hfz20_0 := blk_frozen BK415.out 0; have hfz20_1 := blk_frozen BK415.out 1; have hcz21_0 : w11.cell? ⟨gb416, 0, none⟩ = some (.int .i64 0) := (blk_cell BK416.out 0).trans rfl; have hcz21_1 : w11.cell? ⟨gb416, 1, none⟩ = some (.int .i64 0) := (blk_cell BK416.out 1).trans rfl; have hfz21_0 := blk_frozen BK416.out 0; have hfz21_1 := blk_frozen BK416.out 1) | ((with_reducible refine gate_callee (f := 16) rfl ?_); refine goesL_ (some 29) rfl rfl Try.func16 (by kernel_rfl) rfl #[.agg #[.int .i64 t405, .int .i64 t406], .agg #[.int .i64 t407, .int .i64 t408], .agg #[.int .i64 t409, .int .i64 t410], .agg #[.int .i64 t411, .int .i64 t412]] rfl al ?_; (with_reducible refine (impl_CrossInner.calls t405 t406 t407 t408 t409 t410 t411 t412 t417 _ A4.out).mono ?_); rintro e w22 ⟨rfl, hb⟩; refine ⟨_, rfl, ?_⟩; have n0_ := Aside0.mk (blk_below (g := gb413) (o := .cells #[.int .i64 t405, .int .i64 t406] 25 (0, 0)) (by (with_reducible repeat (first | refine blk_drewN ?_ _ | refine blk_drew ?_ | refine blk_alloc ?_ _)); refine blk_far ?_ NB413_416.out _; (with_reducible repeat (first | refine blk_drewN ?_ _ | refine blk_drew ?_ | refine blk_alloc ?_ _)); refine blk_far ?_ NB413_416.out _; (with_reducible repeat (first | refine blk_drewN ?_ _ | refine blk_drew ?_ | refine blk_alloc ?_ _)); refine blk_far ?_ NB413_415.out _; (with_reducible repeat (first | refine blk_drewN ?_ _ | refine blk_drew ?_ | refine blk_alloc ?_ _)); refine blk_far ?_ NB413_415.out _; (with_reducible repeat (first | refine blk_drewN ?_ _ | refine blk_drew ?_ | refine blk_alloc ?_ _)); refine blk_far ?_ NB413_414.out _; (with_reducible repeat (first | refine blk_drewN ?_ _ | refine blk_drew ?_ | refine blk_alloc ?_ _)); refine blk_far ?_ NB413_414.out _; (with_reducible repeat (first | refine blk_drewN ?_ _ | refine blk_drew ?_ | refine blk_alloc ?_ _)); refine blk_put (cs := #[.int .i64 t405, .int .i64 0]) ?_ 1 _ rfl; (with_reducible repeat (first | refine blk_drewN ?_ _ | refine blk_drew ?_ | refine blk_alloc ?_ _)); refine blk_put (cs := #[.int .i64 0, .int .i64 0]) ?_ 0 _ rfl; (with_reducible repeat (first | refine blk_drewN ?_ _ | refine blk_drew ?_ | refine blk_alloc ?_ _)); exact BK413.out) hb); have n1_ := Aside0.mk (blk_below (g := gb414) (o := .cells #[.int .i64 t407, .int .i64 t408] 25 (0, 0)) (by (with_reducible repeat (first | refine blk_drewN ?_ _ | refine blk_drew ?_ | refine blk_alloc ?_ _)); refine blk_far ?_ NB414_416.out _; (with_reducible repeat (first | refine blk_drewN ?_ _ | refine blk_drew ?_ | refine blk_alloc ?_ _)); refine blk_far ?_ NB414_416.out _; (with_reducible repeat (first | refine blk_drewN ?_ _ | refine blk_drew ?_ | refine blk_alloc ?_ _)); refine blk_far ?_ NB414_415.out _; (with_reducible repeat (first | refine blk_drewN ?_ _ | refine blk_drew ?_ | refine blk_alloc ?_ _)); refine blk_far ?_ NB414_415.out _; (with_reducible repeat (first | refine blk_drewN ?_ _ | refine blk_drew ?_ | refine blk_alloc ?_ _)); refine blk_put (cs := #[.int .i64 t407, .int .i64 0]) ?_ 1 _ rfl; (with_reducible repeat (first | refine blk_drewN ?_ _ | refine blk_drew ?_ | refine blk_alloc ?_ _)); refine blk_put (cs := #[.int .i64 0, .int .i64 0]) ?_ 0 _ rfl; (with_reducible repeat (first | refine blk_drewN ?_ _ | refine blk_drew ?_ | refine blk_alloc ?_ _)); refine blk_far ?_ NB414_413.out _; (with_reducible repeat (first | refine blk_drewN ?_ _ | refine blk_drew ?_ | refine blk_alloc ?_ _)); refine blk_far ?_ NB414_413.out _; (with_reducible repeat (first | refine blk_drewN ?_ _ | refine blk_drew ?_ | refine blk_alloc ?_ _)); exact BK414.out) hb); have n2_ := Aside0.mk (blk_below (g := gb415) (o := .cells #[.int .i64 t409, .int .i64 t410] 25 (0, 0)) (by (with_reducible repeat (first | refine blk_drewN ?_ _ | refine blk_drew ?_ | refine blk_alloc ?_ _)); refine blk_far ?_ NB415_416.out _; (with_reducible repeat (first | refine blk_drewN ?_ _ | refine blk_drew ?_ | refine blk_alloc ?_ _)); refine blk_far ?_ NB415_416.out _; (with_reducible repeat (first | refine blk_drewN ?_ _ | refine blk_drew ?_ | refine blk_alloc ?_ _)); refine blk_put (cs := #[.int .i64 t409, .int .i64 0]) ?_ 1 _ rfl; (with_reducible repeat (first | refine blk_drewN ?_ _ | refine blk_drew ?_ | refine blk_alloc ?_ _)); refine blk_put (cs := #[.int .i64 0, .int .i64 0]) ?_ 0 _ rfl; (with_reducible repeat (first | refine blk_drewN ?_ _ | refine blk_drew ?_ | refine blk_alloc ?_ _)); refine blk_far ?_ NB415_414.out _; (with_reducible repeat (first | refine blk_drewN ?_ _ | refine blk_drew ?_ | refine blk_alloc ?_ _)); refine blk_far ?_ NB415_414.out _; (with_reducible repeat (first | refine blk_drewN ?_ _ | refine blk_drew ?_ | refine blk_alloc ?_ _)); refine blk_far ?_ NB415_413.out _; (with_reducible repeat (first | refine blk_drewN ?_ _ | refine blk_drew ?_ | refine blk_alloc ?_ _)); refine blk_far ?_ NB415_413.out _; (with_reducible repeat (first | refine blk_drewN ?_ _ | refine blk_drew ?_ | refine blk_alloc ?_ _)); exact BK415.out) hb); have n3_ := Aside0.mk (blk_below (g := gb416) (o := .cells #[.int .i64 t411, .int .i64 t412] 25 (0, 0)) (by (with_reducible repeat (first | refine blk_drewN ?_ _ | refine blk_drew ?_ | refine blk_alloc ?_ _)); refine blk_put (cs := #[.int .i64 t411, .int .i64 0]) ?_ 1 _ rfl; (with_reducible repeat (first | refine blk_drewN ?_ _ | refine blk_drew ?_ | refine blk_alloc ?_ _)); refine blk_put (cs := #[.int .i64 0, .int .i64 0]) ?_ 0 _ rfl; (with_reducible repeat (first | refine blk_drewN ?_ _ | refine blk_drew ?_ | refine blk_alloc ?_ _)); refine blk_far ?_ NB416_415.out _; (with_reducible repeat (first | refine blk_drewN ?_ _ | refine blk_drew ?_ | refine blk_alloc ?_ _)); refine blk_far ?_ NB416_415.out _; (with_reducible repeat (first | refine blk_drewN ?_ _ | refine blk_drew ?_ | refine blk_alloc ?_ _)); refine blk_far ?_ NB416_414.out _; (with_reducible repeat (first | refine blk_drewN ?_ _ | refine blk_drew ?_ | refine blk_alloc ?_ _)); refine blk_far ?_ NB416_414.out _; (with_reducible repeat (first | refine blk_drewN ?_ _ | refine blk_drew ?_ | refine blk_alloc ?_ _)); refine blk_far ?_ NB416_413.out _; (with_reducible repeat (first | refine blk_drewN ?_ _ | refine blk_drew ?_ | refine blk_alloc ?_ _)); refine blk_far ?_ NB416_413.out _; (with_reducible repeat (first | refine blk_drewN ?_ _ | refine blk_drew ?_ | refine blk_alloc ?_ _)); exact BK416.out) hb); have n4_ := Aside0.mk (below_step (lb HB.out) hb); clear BK413; clear BK414; clear BK415; clear BK416; clear HB; have BK413 := n0_; have BK414 := n1_; have BK415 := n2_; have BK416 := n3_; have HB := n4_; clear n0_ n1_ n2_ n3_ n4_; (try clear hb); (try clear hb2); (try clear hk); (try clear hi); have hcz23_0 : w22.cell? ⟨gb413, 0, none⟩ = some (.int .i64 t405) := (blk_cell BK413.out 0).trans rfl; have hcz23_1 : w22.cell? ⟨gb413, 1, none⟩ = some (.int .i64 t406) := (blk_cell BK413.out 1).trans rfl; have hfz23_0 := blk_frozen BK413.out 0; have hfz23_1 := blk_frozen BK413.out 1; have hcz24_0 : w22.cell? ⟨gb414, 0, none⟩ = some (.int .i64 t407) := (blk_cell BK414.out 0).trans rfl; have hcz24_1 : w22.cell? ⟨gb414, 1, none⟩ = some (.int .i64 t408) := (blk_cell BK414.out 1).trans rfl; have hfz24_0 := blk_frozen BK414.out 0; have hfz24_1 := blk_frozen BK414.out 1; have hcz25_0 : w22.cell? ⟨gb415, 0, none⟩ = some (.int .i64 t409) := (blk_cell BK415.out 0).trans rfl; have hcz25_1 : w22.cell? ⟨gb415, 1, none⟩ = some (.int .i64 t410) := (blk_cell BK415.out 1).trans rfl; have hfz25_0 := blk_frozen BK415.out 0; have hfz25_1 := blk_frozen BK415.out 1; have hcz26_0 : w22.cell? ⟨gb416, 0, none⟩ = some (.int .i64 t411) := (blk_cell BK416.out 0).trans rfl; have hcz26_1 : w22.cell? ⟨gb416, 1, none⟩ = some (.int .i64 t412) := (blk_cell BK416.out 1).trans rfl; have hfz26_0 := blk_frozen BK416.out 0; have hfz26_1 := blk_frozen BK416.out 1) | ((with_reducible refine gate_callee (f := 15) rfl ?_); refine goesL_ (some 34) rfl rfl Try.func15 (by kernel_rfl) rfl #[.agg #[.int .i64 t405, .int .i64 t406], .agg #[.int .i64 t407, .int .i64 t408], .agg #[.int .i64 t409, .int .i64 t410], .agg #[.int .i64 t411, .int .i64 t412]] rfl al ?_; (with_reducible refine (spec_CrossInner.calls k t405 t406 t407 t408 t409 t410 t411 t412 t418 _ A5.out).mono ?_); rintro e w27 ⟨rfl, hb⟩; refine ⟨_, rfl, ?_⟩; have n0_ := Aside0.mk (blk_below (bf BK413.out) hb); have n1_ := Aside0.mk (blk_below (bf BK414.out) hb); have n2_ := Aside0.mk (blk_below (bf BK415.out) hb); have n3_ := Aside0.mk (blk_below (bf BK416.out) hb); have n4_ := Aside0.mk (below_step (lb HB.out) hb); clear BK413; clear BK414; clear BK415; clear BK416; clear HB; have BK413 := n0_; have BK414 := n1_; have BK415 := n2_; have BK416 := n3_; have HB := n4_; clear n0_ n1_ n2_ n3_ n4_; (try clear hb); (try clear hb2); (try clear hk); (try clear hi)))
    (try simp only [Act.put, List.setIfInBounds_toArray, List.set_cons_zero, List.set_cons_succ])
    go_cut [41] (fun v41 wc => ∃ (kq : Nat) (x41_5 : Bool), v41 = .bool x41_5 ∧ Aside0 (laws_FnCrossInner.j0 kq t417 t418 x41_5 t405 t406 t407 t408 t409 t410 t411 t412 = some r) ∧ Aside0 (kq ≤ k) ∧ Aside0 (wc.heap[gb413]? = some (.cells #[.int .i64 t405, .int .i64 t406] 25 (0, 0))) ∧ Aside0 (wc.heap[gb414]? = some (.cells #[.int .i64 t407, .int .i64 t408] 25 (0, 0))) ∧ Aside0 (wc.heap[gb415]? = some (.cells #[.int .i64 t409, .int .i64 t410] 25 (0, 0))) ∧ Aside0 (wc.heap[gb416]? = some (.cells #[.int .i64 t411, .int .i64 t412] 25 (0, 0))) ∧ Aside0 (Below w.heap.size w wc))
    case first =>
      have H := HC6.out
      clear HC6
      by_cases c28 : (t417 != t418) = true
      · rw [if_pos c28] at H
        have c28b0 : (t417 != t418) = true := c28
        (try (have c28b1 : decide (t417 = t418) = false := by simpa using c28))
        (try (have c28b2 : (t417 == t418) = false := by simpa using c28))
        (try (have c28b3 : ¬ (t417 = t418) := by simpa using c28))
        clear c28
        (first | rw [c28b0] | (simp only [i64_w, i32_w]; rw [c28b0]) | skip)
        have H' := Aside0.mk H
        clear H
        go_wp2
        go_meet
        case rel => exact ⟨_, (true), (by first | rfl | (simp; done) | (simp [*]; done)), H', ⟨by first | omega | exact Nat.le_refl _⟩, ⟨by (with_reducible repeat (first | refine blk_drewN ?_ _ | refine blk_drew ?_ | refine blk_alloc ?_ _)); exact BK413.out⟩, ⟨by (with_reducible repeat (first | refine blk_drewN ?_ _ | refine blk_drew ?_ | refine blk_alloc ?_ _)); exact BK414.out⟩, ⟨by (with_reducible repeat (first | refine blk_drewN ?_ _ | refine blk_drew ?_ | refine blk_alloc ?_ _)); exact BK415.out⟩, ⟨by (with_reducible repeat (first | refine blk_drewN ?_ _ | refine blk_drew ?_ | refine blk_alloc ?_ _)); exact BK416.out⟩, ⟨lb HB.out⟩⟩
      · rw [if_neg c28] at H
        have c28b0 : (t417 != t418) = false := by simpa using c28
        (try (have c28b1 : decide (t417 = t418) = true := by simpa using c28))
        (try (have c28b2 : (t417 == t418) = true := by simpa using c28))
        clear c28
        (first | rw [c28b0] | (simp only [i64_w, i32_w]; rw [c28b0]) | skip)
        have H' := Aside0.mk H
        clear H
        go_wp2
        go_meet
        case rel => exact ⟨_, (!t417), (by first | rfl | (simp; done) | (simp [*]; done)), H', ⟨by first | omega | exact Nat.le_refl _⟩, ⟨by (with_reducible repeat (first | refine blk_drewN ?_ _ | refine blk_drew ?_ | refine blk_alloc ?_ _)); exact BK413.out⟩, ⟨by (with_reducible repeat (first | refine blk_drewN ?_ _ | refine blk_drew ?_ | refine blk_alloc ?_ _)); exact BK414.out⟩, ⟨by (with_reducible repeat (first | refine blk_drewN ?_ _ | refine blk_drew ?_ | refine blk_alloc ?_ _)); exact BK415.out⟩, ⟨by (with_reducible repeat (first | refine blk_drewN ?_ _ | refine blk_drew ?_ | refine blk_alloc ?_ _)); exact BK416.out⟩, ⟨lb HB.out⟩⟩
    case rest =>
      clear HC6
      try clear c1
      try clear c2
      try clear c2b0
      try clear c2b1
      try clear p2
      try clear c7
      try clear c12
      try clear c13
      try clear c14
      try clear c15
      try clear c16
      try clear c17
      try clear c19
      try clear c22
      try clear c28
      try clear c28b0
      try clear c28b1
      try clear c28b2
      try clear hcz15_0
      try clear hcz15_1
      try clear hcz18_0
      try clear hcz18_1
      try clear hcz20_0
      try clear hcz20_1
      try clear hcz21_0
      try clear hcz21_1
      try clear hcz23_0
      try clear hcz23_1
      try clear hcz24_0
      try clear hcz24_1
      try clear hcz25_0
      try clear hcz25_1
      try clear hcz26_0
      try clear hcz26_1
      try clear hfz15_0
      try clear hfz15_1
      try clear hfz18_0
      try clear hfz18_1
      try clear hfz20_0
      try clear hfz20_1
      try clear hfz21_0
      try clear hfz21_1
      try clear hfz23_0
      try clear hfz23_1
      try clear hfz24_0
      try clear hfz24_1
      try clear hfz25_0
      try clear hfz25_1
      try clear hfz26_0
      try clear hfz26_1
      obtain ⟨kq, x41_5, rfl, HA, HJ5, BK413, BK414, BK415, BK416, HB⟩ := hcut
      cases kq with
      | zero => exact absurd HA.out (by simp [laws_FnCrossInner.j0])
      | succ kj5 =>
        have H := HA.out
        clear HA
        simp only [laws_FnCrossInner.j0] at H
        by_cases c29 : x41_5 = true
        · subst c29
          have H1 : (some (t417 == t418)) = some r := by rw [if_pos rfl] at H; exact H
          clear H
          have H := H1
          clear H1
          obtain rfl := Option.some.inj H
          go_wp2
          go_ret
          exact ⟨er, lb HB.out⟩
        · replace c29 := Bool.eq_false_iff.mpr c29
          subst c29
          have H1 : ((impl_CrossOf.f kj5 t405 t406 t407 t408 t409 t410 t411 t412).bind fun bt419 => ((impl_CrossOf.f kj5 t409 t410 t411 t412 t405 t406 t407 t408).bind fun bt423 => (if bt419.2.2 = true then (if bt419.1 ≥ 0 then (if bt419.1 ≤ bt419.2.1 then (if bt423.2.2 = true then (if bt423.1 ≥ 0 then (laws_FnCrossInner.j1 kj5 bt419.2.2 (decide (bt423.1 ≤ bt423.2.1)) t405 t406 t407 t408 t409 t410 t411 t412 bt419.1 bt419.2.1) else (laws_FnCrossInner.j1 kj5 bt419.2.2 false t405 t406 t407 t408 t409 t410 t411 t412 bt419.1 bt419.2.1)) else (laws_FnCrossInner.j1 kj5 bt419.2.2 true t405 t406 t407 t408 t409 t410 t411 t412 bt419.1 bt419.2.1)) else (laws_FnCrossInner.j1 kj5 bt419.2.2 false t405 t406 t407 t408 t409 t410 t411 t412 bt419.1 bt419.2.1)) else (laws_FnCrossInner.j1 kj5 bt419.2.2 false t405 t406 t407 t408 t409 t410 t411 t412 bt419.1 bt419.2.1)) else (if bt423.2.2 = true then (if bt423.1 ≥ 0 then (laws_FnCrossInner.j1 kj5 bt419.2.2 (decide (bt423.1 ≤ bt423.2.1)) t405 t406 t407 t408 t409 t410 t411 t412 bt419.1 bt419.2.1) else (laws_FnCrossInner.j1 kj5 bt419.2.2 false t405 t406 t407 t408 t409 t410 t411 t412 bt419.1 bt419.2.1)) else (laws_FnCrossInner.j1 kj5 bt419.2.2 true t405 t406 t407 t408 t409 t410 t411 t412 bt419.1 bt419.2.1))))) = some r := by rw [if_neg (show ¬ (false = true) by decide)] at H; exact H
          clear H
          have H := H1
          clear H1
          replace H := Option.bind_eq_some_iff.mp H
          obtain ⟨⟨t419, t420, t421⟩, A300, H⟩ := H
          replace H : ((impl_CrossOf.f kj5 t409 t410 t411 t412 t405 t406 t407 t408).bind fun bt423 => (if t421 = true then (if t419 ≥ 0 then (if t419 ≤ t420 then (if bt423.2.2 = true then (if bt423.1 ≥ 0 then (laws_FnCrossInner.j1 kj5 t421 (decide (bt423.1 ≤ bt423.2.1)) t405 t406 t407 t408 t409 t410 t411 t412 t419 t420) else (laws_FnCrossInner.j1 kj5 t421 false t405 t406 t407 t408 t409 t410 t411 t412 t419 t420)) else (laws_FnCrossInner.j1 kj5 t421 true t405 t406 t407 t408 t409 t410 t411 t412 t419 t420)) else (laws_FnCrossInner.j1 kj5 t421 false t405 t406 t407 t408 t409 t410 t411 t412 t419 t420)) else (laws_FnCrossInner.j1 kj5 t421 false t405 t406 t407 t408 t409 t410 t411 t412 t419 t420)) else (if bt423.2.2 = true then (if bt423.1 ≥ 0 then (laws_FnCrossInner.j1 kj5 t421 (decide (bt423.1 ≤ bt423.2.1)) t405 t406 t407 t408 t409 t410 t411 t412 t419 t420) else (laws_FnCrossInner.j1 kj5 t421 false t405 t406 t407 t408 t409 t410 t411 t412 t419 t420)) else (laws_FnCrossInner.j1 kj5 t421 true t405 t406 t407 t408 t409 t410 t411 t412 t419 t420)))) = some r := H
          have A30 := Aside0.mk A300
          clear A300
          replace H := Option.bind_eq_some_iff.mp H
          obtain ⟨⟨t423, t424, t425⟩, A310, H⟩ := H
          replace H : (if t421 = true then (if t419 ≥ 0 then (if t419 ≤ t420 then (if t425 = true then (if t423 ≥ 0 then (laws_FnCrossInner.j1 kj5 t421 (decide (t423 ≤ t424)) t405 t406 t407 t408 t409 t410 t411 t412 t419 t420) else (laws_FnCrossInner.j1 kj5 t421 false t405 t406 t407 t408 t409 t410 t411 t412 t419 t420)) else (laws_FnCrossInner.j1 kj5 t421 true t405 t406 t407 t408 t409 t410 t411 t412 t419 t420)) else (laws_FnCrossInner.j1 kj5 t421 false t405 t406 t407 t408 t409 t410 t411 t412 t419 t420)) else (laws_FnCrossInner.j1 kj5 t421 false t405 t406 t407 t408 t409 t410 t411 t412 t419 t420)) else (if t425 = true then (if t423 ≥ 0 then (laws_FnCrossInner.j1 kj5 t421 (decide (t423 ≤ t424)) t405 t406 t407 t408 t409 t410 t411 t412 t419 t420) else (laws_FnCrossInner.j1 kj5 t421 false t405 t406 t407 t408 t409 t410 t411 t412 t419 t420)) else (laws_FnCrossInner.j1 kj5 t421 true t405 t406 t407 t408 t409 t410 t411 t412 t419 t420))) = some r := H
          have A31 := Aside0.mk A310
          clear A310
          have HC32 := Aside0.mk H
          clear H
          have hnb33 := NB413_414.out
          have hnc33 := NB414_413.out
          have hnb34 := NB413_415.out
          have hnc34 := NB415_413.out
          have hnb35 := NB413_416.out
          have hnc35 := NB416_413.out
          have hcz36_0 : wc.cell? ⟨gb413, 0, none⟩ = some (.int .i64 t405) := (blk_cell BK413.out 0).trans rfl
          have hcz36_1 : wc.cell? ⟨gb413, 1, none⟩ = some (.int .i64 t406) := (blk_cell BK413.out 1).trans rfl
          have hfz36_0 := blk_frozen BK413.out 0
          have hfz36_1 := blk_frozen BK413.out 1
          have hnb37 := NB414_415.out
          have hnc37 := NB415_414.out
          have hnb38 := NB414_416.out
          have hnc38 := NB416_414.out
          have hcz39_0 : wc.cell? ⟨gb414, 0, none⟩ = some (.int .i64 t407) := (blk_cell BK414.out 0).trans rfl
          have hcz39_1 : wc.cell? ⟨gb414, 1, none⟩ = some (.int .i64 t408) := (blk_cell BK414.out 1).trans rfl
          have hfz39_0 := blk_frozen BK414.out 0
          have hfz39_1 := blk_frozen BK414.out 1
          have hnb40 := NB415_416.out
          have hnc40 := NB416_415.out
          have hcz41_0 : wc.cell? ⟨gb415, 0, none⟩ = some (.int .i64 t409) := (blk_cell BK415.out 0).trans rfl
          have hcz41_1 : wc.cell? ⟨gb415, 1, none⟩ = some (.int .i64 t410) := (blk_cell BK415.out 1).trans rfl
          have hfz41_0 := blk_frozen BK415.out 0
          have hfz41_1 := blk_frozen BK415.out 1
          have hcz42_0 : wc.cell? ⟨gb416, 0, none⟩ = some (.int .i64 t411) := (blk_cell BK416.out 0).trans rfl
          have hcz42_1 : wc.cell? ⟨gb416, 1, none⟩ = some (.int .i64 t412) := (blk_cell BK416.out 1).trans rfl
          have hfz42_0 := blk_frozen BK416.out 0
          have hfz42_1 := blk_frozen BK416.out 1
          go_upto_region 10 with (first | ((with_reducible refine gate_callee (f := 18) rfl ?_); refine goesL_ (some 50) rfl rfl Try.func18 (by kernel_rfl) rfl #[.agg #[.int .i64 t405, .int .i64 t406], .agg #[.int .i64 t407, .int .i64 t408], .agg #[.int .i64 t409, .int .i64 t410], .agg #[.int .i64 t411, .int .i64 t412]] rfl al ?_; (with_reducible refine (impl_CrossOf.calls kj5 t405 t406 t407 t408 t409 t410 t411 t412 t419 t420 t421 _ A30.out).mono ?_); rintro e w43 ⟨rfl, hb⟩; refine ⟨_, rfl, ?_⟩; have n0_ := Aside0.mk (blk_below (bf BK413.out) hb); have n1_ := Aside0.mk (blk_below (bf BK414.out) hb); have n2_ := Aside0.mk (blk_below (bf BK415.out) hb); have n3_ := Aside0.mk (blk_below (bf BK416.out) hb); have n4_ := Aside0.mk (below_step (lb HB.out) hb); clear BK413; clear BK414; clear BK415; clear BK416; clear HB; have BK413 := n0_; have BK414 := n1_; have BK415 := n2_; have BK416 := n3_; have HB := n4_; clear n0_ n1_ n2_ n3_ n4_; (try clear hb); (try clear hb2); (try clear hk); (try clear hi)) | ((with_reducible refine gate_dst (N := 9) rfl ?_); refine box_event ?hg (N := 9) ?hd (cs := #[.int .i64 0, .int .i64 0]) (t := 29) ?hr ?_; (case hd => rfl); (case hg => rfl); (case hr => first | (go_simp; done) | (go_simp; rfl)); intro gb422 hg w44 hbox hb; have n0_ := Aside0.mk (blk_below (bf BK413.out) hb); have n1_ := Aside0.mk (blk_below (bf BK414.out) hb); have n2_ := Aside0.mk (blk_below (bf BK415.out) hb); have n3_ := Aside0.mk (blk_below (bf BK416.out) hb); have n4_ := Aside0.mk (below_step (lb HB.out) hb); have n5_ := Aside0.mk (hbox); have n6_ := Aside0.mk ((by rw [hg]; exact (below_size (lb HB.out)) : w.heap.size ≤ gb422)); have n7_ := Aside0.mk ((by rw [hg]; exact (below_size (lb HB.out)) : w.heap.size ≤ gb422)); have n8_ := Aside0.mk ((by rw [hg]; exact Nat.ne_of_lt (blk_lt (bf BK413.out)) : gb413 ≠ gb422)); have n9_ := Aside0.mk ((by rw [hg]; exact Nat.ne_of_gt (blk_lt (bf BK413.out)) : gb422 ≠ gb413)); have n10_ := Aside0.mk ((by rw [hg]; exact Nat.ne_of_lt (blk_lt (bf BK414.out)) : gb414 ≠ gb422)); have n11_ := Aside0.mk ((by rw [hg]; exact Nat.ne_of_gt (blk_lt (bf BK414.out)) : gb422 ≠ gb414)); have n12_ := Aside0.mk ((by rw [hg]; exact Nat.ne_of_lt (blk_lt (bf BK415.out)) : gb415 ≠ gb422)); have n13_ := Aside0.mk ((by rw [hg]; exact Nat.ne_of_gt (blk_lt (bf BK415.out)) : gb422 ≠ gb415)); have n14_ := Aside0.mk ((by rw [hg]; exact Nat.ne_of_lt (blk_lt (bf BK416.out)) : gb416 ≠ gb422)); have n15_ := Aside0.mk ((by rw [hg]; exact Nat.ne_of_gt (blk_lt (bf BK416.out)) : gb422 ≠ gb416)); clear BK413; clear BK414; clear BK415; clear BK416; clear HB; have BK413 := n0_; have BK414 := n1_; have BK415 := n2_; have BK416 := n3_; have HB := n4_; have BK422 := n5_; have GW422 := n6_; have GE422 := n7_; have NB413_422 := n8_; have NB422_413 := n9_; have NB414_422 := n10_; have NB422_414 := n11_; have NB415_422 := n12_; have NB422_415 := n13_; have NB416_422 := n14_; have NB422_416 := n15_; clear n0_ n1_ n2_ n3_ n4_ n5_ n6_ n7_ n8_ n9_ n10_ n11_ n12_ n13_ n14_ n15_; clear hb hbox hg; have hnb45 := NB422_413.out; have hnc45 := NB413_422.out; have hnb46 := NB422_414.out; have hnc46 := NB414_422.out; have hnb47 := NB422_415.out; have hnc47 := NB415_422.out; have hnb48 := NB422_416.out; have hnc48 := NB416_422.out; have hcz49_0 : w44.cell? ⟨gb422, 0, none⟩ = some (.int .i64 0) := (blk_cell BK422.out 0).trans rfl; have hcz49_1 : w44.cell? ⟨gb422, 1, none⟩ = some (.int .i64 0) := (blk_cell BK422.out 1).trans rfl; have hfz49_0 := blk_frozen BK422.out 0; have hfz49_1 := blk_frozen BK422.out 1; have hcz50_0 : w44.cell? ⟨gb415, 0, none⟩ = some (.int .i64 t409) := (blk_cell BK415.out 0).trans rfl; have hcz50_1 : w44.cell? ⟨gb415, 1, none⟩ = some (.int .i64 t410) := (blk_cell BK415.out 1).trans rfl; have hfz50_0 := blk_frozen BK415.out 0; have hfz50_1 := blk_frozen BK415.out 1; have hcz51_0 : w44.cell? ⟨gb416, 0, none⟩ = some (.int .i64 t411) := (blk_cell BK416.out 0).trans rfl; have hcz51_1 : w44.cell? ⟨gb416, 1, none⟩ = some (.int .i64 t412) := (blk_cell BK416.out 1).trans rfl; have hfz51_0 := blk_frozen BK416.out 0; have hfz51_1 := blk_frozen BK416.out 1; have hcz52_0 : w44.cell? ⟨gb413, 0, none⟩ = some (.int .i64 t405) := (blk_cell BK413.out 0).trans rfl; have hcz52_1 : w44.cell? ⟨gb413, 1, none⟩ = some (.int .i64 t406) := (blk_cell BK413.out 1).trans rfl; have hfz52_0 := blk_frozen BK413.out 0; have hfz52_1 := blk_frozen BK413.out 1; have hcz53_0 : w44.cell? ⟨gb414, 0, none⟩ = some (.int .i64 t407) := (blk_cell BK414.out 0).trans rfl; have hcz53_1 : w44.cell? ⟨gb414, 1, none⟩ = some (.int .i64 t408) := (blk_cell BK414.out 1).trans rfl; have hfz53_0 := blk_frozen BK414.out 0; have hfz53_1 := blk_frozen BK414.out 1) | ((with_reducible refine gate_callee (f := 18) rfl ?_); refine goesL_ (some 58) rfl rfl Try.func18 (by kernel_rfl) rfl #[.agg #[.int .i64 t409, .int .i64 t410], .agg #[.int .i64 t411, .int .i64 t412], .agg #[.int .i64 t405, .int .i64 t406], .agg #[.int .i64 t407, .int .i64 t408]] rfl al ?_; (with_reducible refine (impl_CrossOf.calls kj5 t409 t410 t411 t412 t405 t406 t407 t408 t423 t424 t425 _ A31.out).mono ?_); rintro e w54 ⟨rfl, hb⟩; refine ⟨_, rfl, ?_⟩; have n0_ := Aside0.mk (blk_below (bf BK413.out) hb); have n1_ := Aside0.mk (blk_below (bf BK414.out) hb); have n2_ := Aside0.mk (blk_below (bf BK415.out) hb); have n3_ := Aside0.mk (blk_below (bf BK416.out) hb); have n4_ := Aside0.mk (blk_below (g := gb422) (o := .cells #[.int .i64 t419, .int .i64 t420] 29 (0, 0)) (by (with_reducible repeat (first | refine blk_drewN ?_ _ | refine blk_drew ?_ | refine blk_alloc ?_ _)); refine blk_put (cs := #[.int .i64 t419, .int .i64 0]) ?_ 1 _ rfl; (with_reducible repeat (first | refine blk_drewN ?_ _ | refine blk_drew ?_ | refine blk_alloc ?_ _)); refine blk_put (cs := #[.int .i64 0, .int .i64 0]) ?_ 0 _ rfl; (with_reducible repeat (first | refine blk_drewN ?_ _ | refine blk_drew ?_ | refine blk_alloc ?_ _)); exact BK422.out) hb); have n5_ := Aside0.mk (below_step (lb HB.out) hb); clear BK413; clear BK414; clear BK415; clear BK416; clear BK422; clear HB; have BK413 := n0_; have BK414 := n1_; have BK415 := n2_; have BK416 := n3_; have BK422 := n4_; have HB := n5_; clear n0_ n1_ n2_ n3_ n4_ n5_; (try clear hb); (try clear hb2); (try clear hk); (try clear hi)) | ((with_reducible refine gate_dst (N := 11) rfl ?_); refine box_event ?hg (N := 11) ?hd (cs := #[.int .i64 0, .int .i64 0]) (t := 29) ?hr ?_; (case hd => rfl); (case hg => rfl); (case hr => first | (go_simp; done) | (go_simp; rfl)); intro gb426 hg w55 hbox hb; have n0_ := Aside0.mk (blk_below (bf BK413.out) hb); have n1_ := Aside0.mk (blk_below (bf BK414.out) hb); have n2_ := Aside0.mk (blk_below (bf BK415.out) hb); have n3_ := Aside0.mk (blk_below (bf BK416.out) hb); have n4_ := Aside0.mk (blk_below (bf BK422.out) hb); have n5_ := Aside0.mk (below_step (lb HB.out) hb); have n6_ := Aside0.mk (hbox); have n7_ := Aside0.mk ((by rw [hg]; exact (below_size (lb HB.out)) : w.heap.size ≤ gb426)); have n8_ := Aside0.mk ((by rw [hg]; exact (below_size (lb HB.out)) : w.heap.size ≤ gb426)); have n9_ := Aside0.mk ((by rw [hg]; exact Nat.ne_of_lt (blk_lt (bf BK413.out)) : gb413 ≠ gb426)); have n10_ := Aside0.mk ((by rw [hg]; exact Nat.ne_of_gt (blk_lt (bf BK413.out)) : gb426 ≠ gb413)); have n11_ := Aside0.mk ((by rw [hg]; exact Nat.ne_of_lt (blk_lt (bf BK414.out)) : gb414 ≠ gb426)); have n12_ := Aside0.mk ((by rw [hg]; exact Nat.ne_of_gt (blk_lt (bf BK414.out)) : gb426 ≠ gb414)); have n13_ := Aside0.mk ((by rw [hg]; exact Nat.ne_of_lt (blk_lt (bf BK415.out)) : gb415 ≠ gb426)); have n14_ := Aside0.mk ((by rw [hg]; exact Nat.ne_of_gt (blk_lt (bf BK415.out)) : gb426 ≠ gb415)); have n15_ := Aside0.mk ((by rw [hg]; exact Nat.ne_of_lt (blk_lt (bf BK416.out)) : gb416 ≠ gb426)); have n16_ := Aside0.mk ((by rw [hg]; exact Nat.ne_of_gt (blk_lt (bf BK416.out)) : gb426 ≠ gb416)); have n17_ := Aside0.mk ((by rw [hg]; exact Nat.ne_of_lt (blk_lt (bf BK422.out)) : gb422 ≠ gb426)); have n18_ := Aside0.mk ((by rw [hg]; exact Nat.ne_of_gt (blk_lt (bf BK422.out)) : gb426 ≠ gb422)); clear BK413; clear BK414; clear BK415; clear BK416; clear BK422; clear HB; have BK413 := n0_; have BK414 := n1_; have BK415 := n2_; have BK416 := n3_; have BK422 := n4_; have HB := n5_; have BK426 := n6_; have GW426 := n7_; have GE426 := n8_; have NB413_426 := n9_; have NB426_413 := n10_; have NB414_426 := n11_; have NB426_414 := n12_; have NB415_426 := n13_; have NB426_415 := n14_; have NB416_426 := n15_; have NB426_416 := n16_; have NB422_426 := n17_; have NB426_422 := n18_; clear n0_ n1_ n2_ n3_ n4_ n5_ n6_ n7_ n8_ n9_ n10_ n11_ n12_ n13_ n14_ n15_ n16_ n17_ n18_; clear hb hbox hg; have hnb56 := NB426_413.out; have hnc56 := NB413_426.out; have hnb57 := NB426_414.out; have hnc57 := NB414_426.out; have hnb58 := NB426_415.out; have hnc58 := NB415_426.out; have hnb59 := NB426_416.out; have hnc59 := NB416_426.out; have hnb60 := NB426_422.out; have hnc60 := NB422_426.out; have hcz61_0 : w55.cell? ⟨gb426, 0, none⟩ = some (.int .i64 0) := (blk_cell BK426.out 0).trans rfl; have hcz61_1 : w55.cell? ⟨gb426, 1, none⟩ = some (.int .i64 0) := (blk_cell BK426.out 1).trans rfl; have hfz61_0 := blk_frozen BK426.out 0; have hfz61_1 := blk_frozen BK426.out 1))
          (try simp only [Act.put, List.setIfInBounds_toArray, List.set_cons_zero, List.set_cons_succ])
          go_cut [13] (fun v13 wc => ∃ (kq : Nat) (x13_31 : Bool), v13 = .bool x13_31 ∧ Aside0 (laws_FnCrossInner.j1 kq t421 x13_31 t405 t406 t407 t408 t409 t410 t411 t412 t419 t420 = some r) ∧ Aside0 (kq ≤ kj5) ∧ Aside0 (wc.heap[gb413]? = some (.cells #[.int .i64 t405, .int .i64 t406] 25 (0, 0))) ∧ Aside0 (wc.heap[gb414]? = some (.cells #[.int .i64 t407, .int .i64 t408] 25 (0, 0))) ∧ Aside0 (wc.heap[gb415]? = some (.cells #[.int .i64 t409, .int .i64 t410] 25 (0, 0))) ∧ Aside0 (wc.heap[gb416]? = some (.cells #[.int .i64 t411, .int .i64 t412] 25 (0, 0))) ∧ Aside0 (wc.heap[gb422]? = some (.cells #[.int .i64 t419, .int .i64 t420] 29 (0, 0))) ∧ Aside0 (wc.heap[gb426]? = some (.cells #[.int .i64 t423, .int .i64 t424] 29 (0, 0))) ∧ Aside0 (Below w.heap.size w wc))
          case first =>
            have H := HC32.out
            clear HC32
            by_cases c62 : t421 = true
            · subst c62
              have H1 : (if t419 ≥ 0 then (if t419 ≤ t420 then (if t425 = true then (if t423 ≥ 0 then (laws_FnCrossInner.j1 kj5 true (decide (t423 ≤ t424)) t405 t406 t407 t408 t409 t410 t411 t412 t419 t420) else (laws_FnCrossInner.j1 kj5 true false t405 t406 t407 t408 t409 t410 t411 t412 t419 t420)) else (laws_FnCrossInner.j1 kj5 true true t405 t406 t407 t408 t409 t410 t411 t412 t419 t420)) else (laws_FnCrossInner.j1 kj5 true false t405 t406 t407 t408 t409 t410 t411 t412 t419 t420)) else (laws_FnCrossInner.j1 kj5 true false t405 t406 t407 t408 t409 t410 t411 t412 t419 t420)) = some r := by rw [if_pos rfl] at H; exact H
              clear H
              have H := H1
              clear H1
              by_cases c63 : t419 ≥ 0
              · rw [if_pos c63] at H
                have c63b0 : decide (0 ≤ t419) = true := decide_eq_true c63
                clear c63
                (first | rw [c63b0] | (simp only [i64_w, i32_w]; rw [c63b0]) | skip)
                by_cases c64 : t419 ≤ t420
                · rw [if_pos c64] at H
                  have c64b0 : decide (t419 ≤ t420) = true := decide_eq_true c64
                  clear c64
                  by_cases c65 : t425 = true
                  · subst c65
                    have H1 : (if t423 ≥ 0 then (laws_FnCrossInner.j1 kj5 true (decide (t423 ≤ t424)) t405 t406 t407 t408 t409 t410 t411 t412 t419 t420) else (laws_FnCrossInner.j1 kj5 true false t405 t406 t407 t408 t409 t410 t411 t412 t419 t420)) = some r := by rw [if_pos rfl] at H; exact H
                    clear H
                    have H := H1
                    clear H1
                    by_cases c66 : t423 ≥ 0
                    · rw [if_pos c66] at H
                      have c66b0 : decide (0 ≤ t423) = true := decide_eq_true c66
                      clear c66
                      have H' := Aside0.mk H
                      clear H
                      have hnb67 := NB422_413.out
                      have hnc67 := NB413_422.out
                      have hnb68 := NB422_414.out
                      have hnc68 := NB414_422.out
                      have hnb69 := NB422_415.out
                      have hnc69 := NB415_422.out
                      have hnb70 := NB422_416.out
                      have hnc70 := NB416_422.out
                      have hnb71 := NB422_426.out
                      have hnc71 := NB426_422.out
                      have hcz72_0 : w55.cell? ⟨gb422, 0, none⟩ = some (.int .i64 t419) := (blk_cell BK422.out 0).trans rfl
                      have hcz72_1 : w55.cell? ⟨gb422, 1, none⟩ = some (.int .i64 t420) := (blk_cell BK422.out 1).trans rfl
                      have hfz72_0 := blk_frozen BK422.out 0
                      have hfz72_1 := blk_frozen BK422.out 1
                      have hnb73 := NB426_413.out
                      have hnc73 := NB413_426.out
                      have hnb74 := NB426_414.out
                      have hnc74 := NB414_426.out
                      have hnb75 := NB426_415.out
                      have hnc75 := NB415_426.out
                      have hnb76 := NB426_416.out
                      have hnc76 := NB416_426.out
                      have hcz77_0 : w55.cell? ⟨gb426, 0, none⟩ = some (.int .i64 0) := (blk_cell BK426.out 0).trans rfl
                      have hcz77_1 : w55.cell? ⟨gb426, 1, none⟩ = some (.int .i64 0) := (blk_cell BK426.out 1).trans rfl
                      have hfz77_0 := blk_frozen BK426.out 0
                      have hfz77_1 := blk_frozen BK426.out 1
                      go_wp2
                      go_meet
                      case rel => exact ⟨_, (decide (t423 ≤ t424)), (by first | rfl | (simp; done) | (simp [*]; done)), H', ⟨by have := HJ5.out; first | omega | exact Nat.le_refl _⟩, ⟨by (with_reducible repeat (first | refine blk_drewN ?_ _ | refine blk_drew ?_ | refine blk_alloc ?_ _)); refine blk_far ?_ NB413_426.out _; (with_reducible repeat (first | refine blk_drewN ?_ _ | refine blk_drew ?_ | refine blk_alloc ?_ _)); refine blk_far ?_ NB413_426.out _; (with_reducible repeat (first | refine blk_drewN ?_ _ | refine blk_drew ?_ | refine blk_alloc ?_ _)); exact BK413.out⟩, ⟨by (with_reducible repeat (first | refine blk_drewN ?_ _ | refine blk_drew ?_ | refine blk_alloc ?_ _)); refine blk_far ?_ NB414_426.out _; (with_reducible repeat (first | refine blk_drewN ?_ _ | refine blk_drew ?_ | refine blk_alloc ?_ _)); refine blk_far ?_ NB414_426.out _; (with_reducible repeat (first | refine blk_drewN ?_ _ | refine blk_drew ?_ | refine blk_alloc ?_ _)); exact BK414.out⟩, ⟨by (with_reducible repeat (first | refine blk_drewN ?_ _ | refine blk_drew ?_ | refine blk_alloc ?_ _)); refine blk_far ?_ NB415_426.out _; (with_reducible repeat (first | refine blk_drewN ?_ _ | refine blk_drew ?_ | refine blk_alloc ?_ _)); refine blk_far ?_ NB415_426.out _; (with_reducible repeat (first | refine blk_drewN ?_ _ | refine blk_drew ?_ | refine blk_alloc ?_ _)); exact BK415.out⟩, ⟨by (with_reducible repeat (first | refine blk_drewN ?_ _ | refine blk_drew ?_ | refine blk_alloc ?_ _)); refine blk_far ?_ NB416_426.out _; (with_reducible repeat (first | refine blk_drewN ?_ _ | refine blk_drew ?_ | refine blk_alloc ?_ _)); refine blk_far ?_ NB416_426.out _; (with_reducible repeat (first | refine blk_drewN ?_ _ | refine blk_drew ?_ | refine blk_alloc ?_ _)); exact BK416.out⟩, ⟨by (with_reducible repeat (first | refine blk_drewN ?_ _ | refine blk_drew ?_ | refine blk_alloc ?_ _)); refine blk_far ?_ NB422_426.out _; (with_reducible repeat (first | refine blk_drewN ?_ _ | refine blk_drew ?_ | refine blk_alloc ?_ _)); refine blk_far ?_ NB422_426.out _; (with_reducible repeat (first | refine blk_drewN ?_ _ | refine blk_drew ?_ | refine blk_alloc ?_ _)); exact BK422.out⟩, ⟨by (with_reducible repeat (first | refine blk_drewN ?_ _ | refine blk_drew ?_ | refine blk_alloc ?_ _)); refine blk_put (cs := #[.int .i64 t423, .int .i64 0]) ?_ 1 _ rfl; (with_reducible repeat (first | refine blk_drewN ?_ _ | refine blk_drew ?_ | refine blk_alloc ?_ _)); refine blk_put (cs := #[.int .i64 0, .int .i64 0]) ?_ 0 _ rfl; (with_reducible repeat (first | refine blk_drewN ?_ _ | refine blk_drew ?_ | refine blk_alloc ?_ _)); exact BK426.out⟩, ⟨lb HB.out⟩⟩
                    · rw [if_neg c66] at H
                      have c66b0 : decide (0 ≤ t423) = false := decide_eq_false c66
                      clear c66
                      have H' := Aside0.mk H
                      clear H
                      have hnb78 := NB422_413.out
                      have hnc78 := NB413_422.out
                      have hnb79 := NB422_414.out
                      have hnc79 := NB414_422.out
                      have hnb80 := NB422_415.out
                      have hnc80 := NB415_422.out
                      have hnb81 := NB422_416.out
                      have hnc81 := NB416_422.out
                      have hnb82 := NB422_426.out
                      have hnc82 := NB426_422.out
                      have hcz83_0 : w55.cell? ⟨gb422, 0, none⟩ = some (.int .i64 t419) := (blk_cell BK422.out 0).trans rfl
                      have hcz83_1 : w55.cell? ⟨gb422, 1, none⟩ = some (.int .i64 t420) := (blk_cell BK422.out 1).trans rfl
                      have hfz83_0 := blk_frozen BK422.out 0
                      have hfz83_1 := blk_frozen BK422.out 1
                      have hnb84 := NB426_413.out
                      have hnc84 := NB413_426.out
                      have hnb85 := NB426_414.out
                      have hnc85 := NB414_426.out
                      have hnb86 := NB426_415.out
                      have hnc86 := NB415_426.out
                      have hnb87 := NB426_416.out
                      have hnc87 := NB416_426.out
                      have hcz88_0 : w55.cell? ⟨gb426, 0, none⟩ = some (.int .i64 0) := (blk_cell BK426.out 0).trans rfl
                      have hcz88_1 : w55.cell? ⟨gb426, 1, none⟩ = some (.int .i64 0) := (blk_cell BK426.out 1).trans rfl
                      have hfz88_0 := blk_frozen BK426.out 0
                      have hfz88_1 := blk_frozen BK426.out 1
                      go_wp2
                      go_meet
                      case rel => exact ⟨_, (false), (by first | rfl | (simp; done) | (simp [*]; done)), H', ⟨by have := HJ5.out; first | omega | exact Nat.le_refl _⟩, ⟨by (with_reducible repeat (first | refine blk_drewN ?_ _ | refine blk_drew ?_ | refine blk_alloc ?_ _)); refine blk_far ?_ NB413_426.out _; (with_reducible repeat (first | refine blk_drewN ?_ _ | refine blk_drew ?_ | refine blk_alloc ?_ _)); refine blk_far ?_ NB413_426.out _; (with_reducible repeat (first | refine blk_drewN ?_ _ | refine blk_drew ?_ | refine blk_alloc ?_ _)); exact BK413.out⟩, ⟨by (with_reducible repeat (first | refine blk_drewN ?_ _ | refine blk_drew ?_ | refine blk_alloc ?_ _)); refine blk_far ?_ NB414_426.out _; (with_reducible repeat (first | refine blk_drewN ?_ _ | refine blk_drew ?_ | refine blk_alloc ?_ _)); refine blk_far ?_ NB414_426.out _; (with_reducible repeat (first | refine blk_drewN ?_ _ | refine blk_drew ?_ | refine blk_alloc ?_ _)); exact BK414.out⟩, ⟨by (with_reducible repeat (first | refine blk_drewN ?_ _ | refine blk_drew ?_ | refine blk_alloc ?_ _)); refine blk_far ?_ NB415_426.out _; (with_reducible repeat (first | refine blk_drewN ?_ _ | refine blk_drew ?_ | refine blk_alloc ?_ _)); refine blk_far ?_ NB415_426.out _; (with_reducible repeat (first | refine blk_drewN ?_ _ | refine blk_drew ?_ | refine blk_alloc ?_ _)); exact BK415.out⟩, ⟨by (with_reducible repeat (first | refine blk_drewN ?_ _ | refine blk_drew ?_ | refine blk_alloc ?_ _)); refine blk_far ?_ NB416_426.out _; (with_reducible repeat (first | refine blk_drewN ?_ _ | refine blk_drew ?_ | refine blk_alloc ?_ _)); refine blk_far ?_ NB416_426.out _; (with_reducible repeat (first | refine blk_drewN ?_ _ | refine blk_drew ?_ | refine blk_alloc ?_ _)); exact BK416.out⟩, ⟨by (with_reducible repeat (first | refine blk_drewN ?_ _ | refine blk_drew ?_ | refine blk_alloc ?_ _)); refine blk_far ?_ NB422_426.out _; (with_reducible repeat (first | refine blk_drewN ?_ _ | refine blk_drew ?_ | refine blk_alloc ?_ _)); refine blk_far ?_ NB422_426.out _; (with_reducible repeat (first | refine blk_drewN ?_ _ | refine blk_drew ?_ | refine blk_alloc ?_ _)); exact BK422.out⟩, ⟨by (with_reducible repeat (first | refine blk_drewN ?_ _ | refine blk_drew ?_ | refine blk_alloc ?_ _)); refine blk_put (cs := #[.int .i64 t423, .int .i64 0]) ?_ 1 _ rfl; (with_reducible repeat (first | refine blk_drewN ?_ _ | refine blk_drew ?_ | refine blk_alloc ?_ _)); refine blk_put (cs := #[.int .i64 0, .int .i64 0]) ?_ 0 _ rfl; (with_reducible repeat (first | refine blk_drewN ?_ _ | refine blk_drew ?_ | refine blk_alloc ?_ _)); exact BK426.out⟩, ⟨lb HB.out⟩⟩
                  · replace c65 := Bool.eq_false_iff.mpr c65
                    subst c65
                    have H1 : (laws_FnCrossInner.j1 kj5 true true t405 t406 t407 t408 t409 t410 t411 t412 t419 t420) = some r := by rw [if_neg (show ¬ (false = true) by decide)] at H; exact H
                    clear H
                    have H := H1
                    clear H1
                    have H' := Aside0.mk H
                    clear H
                    have hnb89 := NB422_413.out
                    have hnc89 := NB413_422.out
                    have hnb90 := NB422_414.out
                    have hnc90 := NB414_422.out
                    have hnb91 := NB422_415.out
                    have hnc91 := NB415_422.out
                    have hnb92 := NB422_416.out
                    have hnc92 := NB416_422.out
                    have hnb93 := NB422_426.out
                    have hnc93 := NB426_422.out
                    have hcz94_0 : w55.cell? ⟨gb422, 0, none⟩ = some (.int .i64 t419) := (blk_cell BK422.out 0).trans rfl
                    have hcz94_1 : w55.cell? ⟨gb422, 1, none⟩ = some (.int .i64 t420) := (blk_cell BK422.out 1).trans rfl
                    have hfz94_0 := blk_frozen BK422.out 0
                    have hfz94_1 := blk_frozen BK422.out 1
                    go_wp2
                    go_meet
                    case rel => exact ⟨_, (true), (by first | rfl | (simp; done) | (simp [*]; done)), H', ⟨by have := HJ5.out; first | omega | exact Nat.le_refl _⟩, ⟨by (with_reducible repeat (first | refine blk_drewN ?_ _ | refine blk_drew ?_ | refine blk_alloc ?_ _)); refine blk_far ?_ NB413_426.out _; (with_reducible repeat (first | refine blk_drewN ?_ _ | refine blk_drew ?_ | refine blk_alloc ?_ _)); refine blk_far ?_ NB413_426.out _; (with_reducible repeat (first | refine blk_drewN ?_ _ | refine blk_drew ?_ | refine blk_alloc ?_ _)); exact BK413.out⟩, ⟨by (with_reducible repeat (first | refine blk_drewN ?_ _ | refine blk_drew ?_ | refine blk_alloc ?_ _)); refine blk_far ?_ NB414_426.out _; (with_reducible repeat (first | refine blk_drewN ?_ _ | refine blk_drew ?_ | refine blk_alloc ?_ _)); refine blk_far ?_ NB414_426.out _; (with_reducible repeat (first | refine blk_drewN ?_ _ | refine blk_drew ?_ | refine blk_alloc ?_ _)); exact BK414.out⟩, ⟨by (with_reducible repeat (first | refine blk_drewN ?_ _ | refine blk_drew ?_ | refine blk_alloc ?_ _)); refine blk_far ?_ NB415_426.out _; (with_reducible repeat (first | refine blk_drewN ?_ _ | refine blk_drew ?_ | refine blk_alloc ?_ _)); refine blk_far ?_ NB415_426.out _; (with_reducible repeat (first | refine blk_drewN ?_ _ | refine blk_drew ?_ | refine blk_alloc ?_ _)); exact BK415.out⟩, ⟨by (with_reducible repeat (first | refine blk_drewN ?_ _ | refine blk_drew ?_ | refine blk_alloc ?_ _)); refine blk_far ?_ NB416_426.out _; (with_reducible repeat (first | refine blk_drewN ?_ _ | refine blk_drew ?_ | refine blk_alloc ?_ _)); refine blk_far ?_ NB416_426.out _; (with_reducible repeat (first | refine blk_drewN ?_ _ | refine blk_drew ?_ | refine blk_alloc ?_ _)); exact BK416.out⟩, ⟨by (with_reducible repeat (first | refine blk_drewN ?_ _ | refine blk_drew ?_ | refine blk_alloc ?_ _)); refine blk_far ?_ NB422_426.out _; (with_reducible repeat (first | refine blk_drewN ?_ _ | refine blk_drew ?_ | refine blk_alloc ?_ _)); refine blk_far ?_ NB422_426.out _; (with_reducible repeat (first | refine blk_drewN ?_ _ | refine blk_drew ?_ | refine blk_alloc ?_ _)); exact BK422.out⟩, ⟨by (with_reducible repeat (first | refine blk_drewN ?_ _ | refine blk_drew ?_ | refine blk_alloc ?_ _)); refine blk_put (cs := #[.int .i64 t423, .int .i64 0]) ?_ 1 _ rfl; (with_reducible repeat (first | refine blk_drewN ?_ _ | refine blk_drew ?_ | refine blk_alloc ?_ _)); refine blk_put (cs := #[.int .i64 0, .int .i64 0]) ?_ 0 _ rfl; (with_reducible repeat (first | refine blk_drewN ?_ _ | refine blk_drew ?_ | refine blk_alloc ?_ _)); exact BK426.out⟩, ⟨lb HB.out⟩⟩
                · rw [if_neg c64] at H
                  have c64b0 : decide (t419 ≤ t420) = false := decide_eq_false c64
                  clear c64
                  have H' := Aside0.mk H
                  clear H
                  have hnb95 := NB422_413.out
                  have hnc95 := NB413_422.out
                  have hnb96 := NB422_414.out
                  have hnc96 := NB414_422.out
                  have hnb97 := NB422_415.out
                  have hnc97 := NB415_422.out
                  have hnb98 := NB422_416.out
                  have hnc98 := NB416_422.out
                  have hnb99 := NB422_426.out
                  have hnc99 := NB426_422.out
                  have hcz100_0 : w55.cell? ⟨gb422, 0, none⟩ = some (.int .i64 t419) := (blk_cell BK422.out 0).trans rfl
                  have hcz100_1 : w55.cell? ⟨gb422, 1, none⟩ = some (.int .i64 t420) := (blk_cell BK422.out 1).trans rfl
                  have hfz100_0 := blk_frozen BK422.out 0
                  have hfz100_1 := blk_frozen BK422.out 1
                  go_wp2
                  go_meet
                  case rel => exact ⟨_, (false), (by first | rfl | (simp; done) | (simp [*]; done)), H', ⟨by have := HJ5.out; first | omega | exact Nat.le_refl _⟩, ⟨by (with_reducible repeat (first | refine blk_drewN ?_ _ | refine blk_drew ?_ | refine blk_alloc ?_ _)); refine blk_far ?_ NB413_426.out _; (with_reducible repeat (first | refine blk_drewN ?_ _ | refine blk_drew ?_ | refine blk_alloc ?_ _)); refine blk_far ?_ NB413_426.out _; (with_reducible repeat (first | refine blk_drewN ?_ _ | refine blk_drew ?_ | refine blk_alloc ?_ _)); exact BK413.out⟩, ⟨by (with_reducible repeat (first | refine blk_drewN ?_ _ | refine blk_drew ?_ | refine blk_alloc ?_ _)); refine blk_far ?_ NB414_426.out _; (with_reducible repeat (first | refine blk_drewN ?_ _ | refine blk_drew ?_ | refine blk_alloc ?_ _)); refine blk_far ?_ NB414_426.out _; (with_reducible repeat (first | refine blk_drewN ?_ _ | refine blk_drew ?_ | refine blk_alloc ?_ _)); exact BK414.out⟩, ⟨by (with_reducible repeat (first | refine blk_drewN ?_ _ | refine blk_drew ?_ | refine blk_alloc ?_ _)); refine blk_far ?_ NB415_426.out _; (with_reducible repeat (first | refine blk_drewN ?_ _ | refine blk_drew ?_ | refine blk_alloc ?_ _)); refine blk_far ?_ NB415_426.out _; (with_reducible repeat (first | refine blk_drewN ?_ _ | refine blk_drew ?_ | refine blk_alloc ?_ _)); exact BK415.out⟩, ⟨by (with_reducible repeat (first | refine blk_drewN ?_ _ | refine blk_drew ?_ | refine blk_alloc ?_ _)); refine blk_far ?_ NB416_426.out _; (with_reducible repeat (first | refine blk_drewN ?_ _ | refine blk_drew ?_ | refine blk_alloc ?_ _)); refine blk_far ?_ NB416_426.out _; (with_reducible repeat (first | refine blk_drewN ?_ _ | refine blk_drew ?_ | refine blk_alloc ?_ _)); exact BK416.out⟩, ⟨by (with_reducible repeat (first | refine blk_drewN ?_ _ | refine blk_drew ?_ | refine blk_alloc ?_ _)); refine blk_far ?_ NB422_426.out _; (with_reducible repeat (first | refine blk_drewN ?_ _ | refine blk_drew ?_ | refine blk_alloc ?_ _)); refine blk_far ?_ NB422_426.out _; (with_reducible repeat (first | refine blk_drewN ?_ _ | refine blk_drew ?_ | refine blk_alloc ?_ _)); exact BK422.out⟩, ⟨by (with_reducible repeat (first | refine blk_drewN ?_ _ | refine blk_drew ?_ | refine blk_alloc ?_ _)); refine blk_put (cs := #[.int .i64 t423, .int .i64 0]) ?_ 1 _ rfl; (with_reducible repeat (first | refine blk_drewN ?_ _ | refine blk_drew ?_ | refine blk_alloc ?_ _)); refine blk_put (cs := #[.int .i64 0, .int .i64 0]) ?_ 0 _ rfl; (with_reducible repeat (first | refine blk_drewN ?_ _ | refine blk_drew ?_ | refine blk_alloc ?_ _)); exact BK426.out⟩, ⟨lb HB.out⟩⟩
              · rw [if_neg c63] at H
                have c63b0 : decide (0 ≤ t419) = false := decide_eq_false c63
                clear c63
                (first | rw [c63b0] | (simp only [i64_w, i32_w]; rw [c63b0]) | skip)
                have H' := Aside0.mk H
                clear H
                have hnb101 := NB422_413.out
                have hnc101 := NB413_422.out
                have hnb102 := NB422_414.out
                have hnc102 := NB414_422.out
                have hnb103 := NB422_415.out
                have hnc103 := NB415_422.out
                have hnb104 := NB422_416.out
                have hnc104 := NB416_422.out
                have hnb105 := NB422_426.out
                have hnc105 := NB426_422.out
                have hcz106_0 : w55.cell? ⟨gb422, 0, none⟩ = some (.int .i64 t419) := (blk_cell BK422.out 0).trans rfl
                have hcz106_1 : w55.cell? ⟨gb422, 1, none⟩ = some (.int .i64 t420) := (blk_cell BK422.out 1).trans rfl
                have hfz106_0 := blk_frozen BK422.out 0
                have hfz106_1 := blk_frozen BK422.out 1
                go_wp2
                go_meet
                case rel => exact ⟨_, (false), (by first | rfl | (simp; done) | (simp [*]; done)), H', ⟨by have := HJ5.out; first | omega | exact Nat.le_refl _⟩, ⟨by (with_reducible repeat (first | refine blk_drewN ?_ _ | refine blk_drew ?_ | refine blk_alloc ?_ _)); refine blk_far ?_ NB413_426.out _; (with_reducible repeat (first | refine blk_drewN ?_ _ | refine blk_drew ?_ | refine blk_alloc ?_ _)); refine blk_far ?_ NB413_426.out _; (with_reducible repeat (first | refine blk_drewN ?_ _ | refine blk_drew ?_ | refine blk_alloc ?_ _)); exact BK413.out⟩, ⟨by (with_reducible repeat (first | refine blk_drewN ?_ _ | refine blk_drew ?_ | refine blk_alloc ?_ _)); refine blk_far ?_ NB414_426.out _; (with_reducible repeat (first | refine blk_drewN ?_ _ | refine blk_drew ?_ | refine blk_alloc ?_ _)); refine blk_far ?_ NB414_426.out _; (with_reducible repeat (first | refine blk_drewN ?_ _ | refine blk_drew ?_ | refine blk_alloc ?_ _)); exact BK414.out⟩, ⟨by (with_reducible repeat (first | refine blk_drewN ?_ _ | refine blk_drew ?_ | refine blk_alloc ?_ _)); refine blk_far ?_ NB415_426.out _; (with_reducible repeat (first | refine blk_drewN ?_ _ | refine blk_drew ?_ | refine blk_alloc ?_ _)); refine blk_far ?_ NB415_426.out _; (with_reducible repeat (first | refine blk_drewN ?_ _ | refine blk_drew ?_ | refine blk_alloc ?_ _)); exact BK415.out⟩, ⟨by (with_reducible repeat (first | refine blk_drewN ?_ _ | refine blk_drew ?_ | refine blk_alloc ?_ _)); refine blk_far ?_ NB416_426.out _; (with_reducible repeat (first | refine blk_drewN ?_ _ | refine blk_drew ?_ | refine blk_alloc ?_ _)); refine blk_far ?_ NB416_426.out _; (with_reducible repeat (first | refine blk_drewN ?_ _ | refine blk_drew ?_ | refine blk_alloc ?_ _)); exact BK416.out⟩, ⟨by (with_reducible repeat (first | refine blk_drewN ?_ _ | refine blk_drew ?_ | refine blk_alloc ?_ _)); refine blk_far ?_ NB422_426.out _; (with_reducible repeat (first | refine blk_drewN ?_ _ | refine blk_drew ?_ | refine blk_alloc ?_ _)); refine blk_far ?_ NB422_426.out _; (with_reducible repeat (first | refine blk_drewN ?_ _ | refine blk_drew ?_ | refine blk_alloc ?_ _)); exact BK422.out⟩, ⟨by (with_reducible repeat (first | refine blk_drewN ?_ _ | refine blk_drew ?_ | refine blk_alloc ?_ _)); refine blk_put (cs := #[.int .i64 t423, .int .i64 0]) ?_ 1 _ rfl; (with_reducible repeat (first | refine blk_drewN ?_ _ | refine blk_drew ?_ | refine blk_alloc ?_ _)); refine blk_put (cs := #[.int .i64 0, .int .i64 0]) ?_ 0 _ rfl; (with_reducible repeat (first | refine blk_drewN ?_ _ | refine blk_drew ?_ | refine blk_alloc ?_ _)); exact BK426.out⟩, ⟨lb HB.out⟩⟩
            · replace c62 := Bool.eq_false_iff.mpr c62
              subst c62
              have H1 : (if t425 = true then (if t423 ≥ 0 then (laws_FnCrossInner.j1 kj5 false (decide (t423 ≤ t424)) t405 t406 t407 t408 t409 t410 t411 t412 t419 t420) else (laws_FnCrossInner.j1 kj5 false false t405 t406 t407 t408 t409 t410 t411 t412 t419 t420)) else (laws_FnCrossInner.j1 kj5 false true t405 t406 t407 t408 t409 t410 t411 t412 t419 t420)) = some r := by rw [if_neg (show ¬ (false = true) by decide)] at H; exact H
              clear H
              have H := H1
              clear H1
              by_cases c107 : t425 = true
              · subst c107
                have H1 : (if t423 ≥ 0 then (laws_FnCrossInner.j1 kj5 false (decide (t423 ≤ t424)) t405 t406 t407 t408 t409 t410 t411 t412 t419 t420) else (laws_FnCrossInner.j1 kj5 false false t405 t406 t407 t408 t409 t410 t411 t412 t419 t420)) = some r := by rw [if_pos rfl] at H; exact H
                clear H
                have H := H1
                clear H1
                by_cases c108 : t423 ≥ 0
                · rw [if_pos c108] at H
                  have c108b0 : decide (0 ≤ t423) = true := decide_eq_true c108
                  clear c108
                  have H' := Aside0.mk H
                  clear H
                  have hnb109 := NB426_413.out
                  have hnc109 := NB413_426.out
                  have hnb110 := NB426_414.out
                  have hnc110 := NB414_426.out
                  have hnb111 := NB426_415.out
                  have hnc111 := NB415_426.out
                  have hnb112 := NB426_416.out
                  have hnc112 := NB416_426.out
                  have hnb113 := NB426_422.out
                  have hnc113 := NB422_426.out
                  have hcz114_0 : w55.cell? ⟨gb426, 0, none⟩ = some (.int .i64 0) := (blk_cell BK426.out 0).trans rfl
                  have hcz114_1 : w55.cell? ⟨gb426, 1, none⟩ = some (.int .i64 0) := (blk_cell BK426.out 1).trans rfl
                  have hfz114_0 := blk_frozen BK426.out 0
                  have hfz114_1 := blk_frozen BK426.out 1
                  go_wp2
                  go_meet
                  case rel => exact ⟨_, (decide (t423 ≤ t424)), (by first | rfl | (simp; done) | (simp [*]; done)), H', ⟨by have := HJ5.out; first | omega | exact Nat.le_refl _⟩, ⟨by (with_reducible repeat (first | refine blk_drewN ?_ _ | refine blk_drew ?_ | refine blk_alloc ?_ _)); refine blk_far ?_ NB413_426.out _; (with_reducible repeat (first | refine blk_drewN ?_ _ | refine blk_drew ?_ | refine blk_alloc ?_ _)); refine blk_far ?_ NB413_426.out _; (with_reducible repeat (first | refine blk_drewN ?_ _ | refine blk_drew ?_ | refine blk_alloc ?_ _)); exact BK413.out⟩, ⟨by (with_reducible repeat (first | refine blk_drewN ?_ _ | refine blk_drew ?_ | refine blk_alloc ?_ _)); refine blk_far ?_ NB414_426.out _; (with_reducible repeat (first | refine blk_drewN ?_ _ | refine blk_drew ?_ | refine blk_alloc ?_ _)); refine blk_far ?_ NB414_426.out _; (with_reducible repeat (first | refine blk_drewN ?_ _ | refine blk_drew ?_ | refine blk_alloc ?_ _)); exact BK414.out⟩, ⟨by (with_reducible repeat (first | refine blk_drewN ?_ _ | refine blk_drew ?_ | refine blk_alloc ?_ _)); refine blk_far ?_ NB415_426.out _; (with_reducible repeat (first | refine blk_drewN ?_ _ | refine blk_drew ?_ | refine blk_alloc ?_ _)); refine blk_far ?_ NB415_426.out _; (with_reducible repeat (first | refine blk_drewN ?_ _ | refine blk_drew ?_ | refine blk_alloc ?_ _)); exact BK415.out⟩, ⟨by (with_reducible repeat (first | refine blk_drewN ?_ _ | refine blk_drew ?_ | refine blk_alloc ?_ _)); refine blk_far ?_ NB416_426.out _; (with_reducible repeat (first | refine blk_drewN ?_ _ | refine blk_drew ?_ | refine blk_alloc ?_ _)); refine blk_far ?_ NB416_426.out _; (with_reducible repeat (first | refine blk_drewN ?_ _ | refine blk_drew ?_ | refine blk_alloc ?_ _)); exact BK416.out⟩, ⟨by (with_reducible repeat (first | refine blk_drewN ?_ _ | refine blk_drew ?_ | refine blk_alloc ?_ _)); refine blk_far ?_ NB422_426.out _; (with_reducible repeat (first | refine blk_drewN ?_ _ | refine blk_drew ?_ | refine blk_alloc ?_ _)); refine blk_far ?_ NB422_426.out _; (with_reducible repeat (first | refine blk_drewN ?_ _ | refine blk_drew ?_ | refine blk_alloc ?_ _)); exact BK422.out⟩, ⟨by (with_reducible repeat (first | refine blk_drewN ?_ _ | refine blk_drew ?_ | refine blk_alloc ?_ _)); refine blk_put (cs := #[.int .i64 t423, .int .i64 0]) ?_ 1 _ rfl; (with_reducible repeat (first | refine blk_drewN ?_ _ | refine blk_drew ?_ | refine blk_alloc ?_ _)); refine blk_put (cs := #[.int .i64 0, .int .i64 0]) ?_ 0 _ rfl; (with_reducible repeat (first | refine blk_drewN ?_ _ | refine blk_drew ?_ | refine blk_alloc ?_ _)); exact BK426.out⟩, ⟨lb HB.out⟩⟩
                · rw [if_neg c108] at H
                  have c108b0 : decide (0 ≤ t423) = false := decide_eq_false c108
                  clear c108
                  have H' := Aside0.mk H
                  clear H
                  have hnb115 := NB426_413.out
                  have hnc115 := NB413_426.out
                  have hnb116 := NB426_414.out
                  have hnc116 := NB414_426.out
                  have hnb117 := NB426_415.out
                  have hnc117 := NB415_426.out
                  have hnb118 := NB426_416.out
                  have hnc118 := NB416_426.out
                  have hnb119 := NB426_422.out
                  have hnc119 := NB422_426.out
                  have hcz120_0 : w55.cell? ⟨gb426, 0, none⟩ = some (.int .i64 0) := (blk_cell BK426.out 0).trans rfl
                  have hcz120_1 : w55.cell? ⟨gb426, 1, none⟩ = some (.int .i64 0) := (blk_cell BK426.out 1).trans rfl
                  have hfz120_0 := blk_frozen BK426.out 0
                  have hfz120_1 := blk_frozen BK426.out 1
                  go_wp2
                  go_meet
                  case rel => exact ⟨_, (false), (by first | rfl | (simp; done) | (simp [*]; done)), H', ⟨by have := HJ5.out; first | omega | exact Nat.le_refl _⟩, ⟨by (with_reducible repeat (first | refine blk_drewN ?_ _ | refine blk_drew ?_ | refine blk_alloc ?_ _)); refine blk_far ?_ NB413_426.out _; (with_reducible repeat (first | refine blk_drewN ?_ _ | refine blk_drew ?_ | refine blk_alloc ?_ _)); refine blk_far ?_ NB413_426.out _; (with_reducible repeat (first | refine blk_drewN ?_ _ | refine blk_drew ?_ | refine blk_alloc ?_ _)); exact BK413.out⟩, ⟨by (with_reducible repeat (first | refine blk_drewN ?_ _ | refine blk_drew ?_ | refine blk_alloc ?_ _)); refine blk_far ?_ NB414_426.out _; (with_reducible repeat (first | refine blk_drewN ?_ _ | refine blk_drew ?_ | refine blk_alloc ?_ _)); refine blk_far ?_ NB414_426.out _; (with_reducible repeat (first | refine blk_drewN ?_ _ | refine blk_drew ?_ | refine blk_alloc ?_ _)); exact BK414.out⟩, ⟨by (with_reducible repeat (first | refine blk_drewN ?_ _ | refine blk_drew ?_ | refine blk_alloc ?_ _)); refine blk_far ?_ NB415_426.out _; (with_reducible repeat (first | refine blk_drewN ?_ _ | refine blk_drew ?_ | refine blk_alloc ?_ _)); refine blk_far ?_ NB415_426.out _; (with_reducible repeat (first | refine blk_drewN ?_ _ | refine blk_drew ?_ | refine blk_alloc ?_ _)); exact BK415.out⟩, ⟨by (with_reducible repeat (first | refine blk_drewN ?_ _ | refine blk_drew ?_ | refine blk_alloc ?_ _)); refine blk_far ?_ NB416_426.out _; (with_reducible repeat (first | refine blk_drewN ?_ _ | refine blk_drew ?_ | refine blk_alloc ?_ _)); refine blk_far ?_ NB416_426.out _; (with_reducible repeat (first | refine blk_drewN ?_ _ | refine blk_drew ?_ | refine blk_alloc ?_ _)); exact BK416.out⟩, ⟨by (with_reducible repeat (first | refine blk_drewN ?_ _ | refine blk_drew ?_ | refine blk_alloc ?_ _)); refine blk_far ?_ NB422_426.out _; (with_reducible repeat (first | refine blk_drewN ?_ _ | refine blk_drew ?_ | refine blk_alloc ?_ _)); refine blk_far ?_ NB422_426.out _; (with_reducible repeat (first | refine blk_drewN ?_ _ | refine blk_drew ?_ | refine blk_alloc ?_ _)); exact BK422.out⟩, ⟨by (with_reducible repeat (first | refine blk_drewN ?_ _ | refine blk_drew ?_ | refine blk_alloc ?_ _)); refine blk_put (cs := #[.int .i64 t423, .int .i64 0]) ?_ 1 _ rfl; (with_reducible repeat (first | refine blk_drewN ?_ _ | refine blk_drew ?_ | refine blk_alloc ?_ _)); refine blk_put (cs := #[.int .i64 0, .int .i64 0]) ?_ 0 _ rfl; (with_reducible repeat (first | refine blk_drewN ?_ _ | refine blk_drew ?_ | refine blk_alloc ?_ _)); exact BK426.out⟩, ⟨lb HB.out⟩⟩
              · replace c107 := Bool.eq_false_iff.mpr c107
                subst c107
                have H1 : (laws_FnCrossInner.j1 kj5 false true t405 t406 t407 t408 t409 t410 t411 t412 t419 t420) = some r := by rw [if_neg (show ¬ (false = true) by decide)] at H; exact H
                clear H
                have H := H1
                clear H1
                have H' := Aside0.mk H
                clear H
                go_wp2
                go_meet
                case rel => exact ⟨_, (true), (by first | rfl | (simp; done) | (simp [*]; done)), H', ⟨by have := HJ5.out; first | omega | exact Nat.le_refl _⟩, ⟨by (with_reducible repeat (first | refine blk_drewN ?_ _ | refine blk_drew ?_ | refine blk_alloc ?_ _)); refine blk_far ?_ NB413_426.out _; (with_reducible repeat (first | refine blk_drewN ?_ _ | refine blk_drew ?_ | refine blk_alloc ?_ _)); refine blk_far ?_ NB413_426.out _; (with_reducible repeat (first | refine blk_drewN ?_ _ | refine blk_drew ?_ | refine blk_alloc ?_ _)); exact BK413.out⟩, ⟨by (with_reducible repeat (first | refine blk_drewN ?_ _ | refine blk_drew ?_ | refine blk_alloc ?_ _)); refine blk_far ?_ NB414_426.out _; (with_reducible repeat (first | refine blk_drewN ?_ _ | refine blk_drew ?_ | refine blk_alloc ?_ _)); refine blk_far ?_ NB414_426.out _; (with_reducible repeat (first | refine blk_drewN ?_ _ | refine blk_drew ?_ | refine blk_alloc ?_ _)); exact BK414.out⟩, ⟨by (with_reducible repeat (first | refine blk_drewN ?_ _ | refine blk_drew ?_ | refine blk_alloc ?_ _)); refine blk_far ?_ NB415_426.out _; (with_reducible repeat (first | refine blk_drewN ?_ _ | refine blk_drew ?_ | refine blk_alloc ?_ _)); refine blk_far ?_ NB415_426.out _; (with_reducible repeat (first | refine blk_drewN ?_ _ | refine blk_drew ?_ | refine blk_alloc ?_ _)); exact BK415.out⟩, ⟨by (with_reducible repeat (first | refine blk_drewN ?_ _ | refine blk_drew ?_ | refine blk_alloc ?_ _)); refine blk_far ?_ NB416_426.out _; (with_reducible repeat (first | refine blk_drewN ?_ _ | refine blk_drew ?_ | refine blk_alloc ?_ _)); refine blk_far ?_ NB416_426.out _; (with_reducible repeat (first | refine blk_drewN ?_ _ | refine blk_drew ?_ | refine blk_alloc ?_ _)); exact BK416.out⟩, ⟨by (with_reducible repeat (first | refine blk_drewN ?_ _ | refine blk_drew ?_ | refine blk_alloc ?_ _)); refine blk_far ?_ NB422_426.out _; (with_reducible repeat (first | refine blk_drewN ?_ _ | refine blk_drew ?_ | refine blk_alloc ?_ _)); refine blk_far ?_ NB422_426.out _; (with_reducible repeat (first | refine blk_drewN ?_ _ | refine blk_drew ?_ | refine blk_alloc ?_ _)); exact BK422.out⟩, ⟨by (with_reducible repeat (first | refine blk_drewN ?_ _ | refine blk_drew ?_ | refine blk_alloc ?_ _)); refine blk_put (cs := #[.int .i64 t423, .int .i64 0]) ?_ 1 _ rfl; (with_reducible repeat (first | refine blk_drewN ?_ _ | refine blk_drew ?_ | refine blk_alloc ?_ _)); refine blk_put (cs := #[.int .i64 0, .int .i64 0]) ?_ 0 _ rfl; (with_reducible repeat (first | refine blk_drewN ?_ _ | refine blk_drew ?_ | refine blk_alloc ?_ _)); exact BK426.out⟩, ⟨lb HB.out⟩⟩
          case rest =>
            clear HC32
            try clear c1
            try clear c2
            try clear c2b0
            try clear c2b1
            try clear p2
            try clear c3
            try clear c4
            try clear c5
            try clear c6
            try clear c7
            try clear c8
            try clear c9
            try clear c10
            try clear c11
            try clear c12
            try clear c13
            try clear c14
            try clear c15
            try clear c16
            try clear c17
            try clear c18
            try clear c19
            try clear c22
            try clear c28
            try clear c28b0
            try clear c28b1
            try clear c28b2
            try clear c29
            try clear c33
            try clear c34
            try clear c35
            try clear c37
            try clear c38
            try clear c40
            try clear c45
            try clear c46
            try clear c47
            try clear c48
            try clear c56
            try clear c57
            try clear c58
            try clear c59
            try clear c60
            try clear c62
            try clear c63
            try clear c63b0
            try clear c64
            try clear c64b0
            try clear c65
            try clear c66
            try clear c66b0
            try clear c67
            try clear c68
            try clear c69
            try clear c70
            try clear c71
            try clear c73
            try clear c74
            try clear c75
            try clear c76
            try clear c78
            try clear c79
            try clear c80
            try clear c81
            try clear c82
            try clear c84
            try clear c85
            try clear c86
            try clear c87
            try clear c89
            try clear c90
            try clear c91
            try clear c92
            try clear c93
            try clear c95
            try clear c96
            try clear c97
            try clear c98
            try clear c99
            try clear c101
            try clear c102
            try clear c103
            try clear c104
            try clear c105
            try clear c107
            try clear c108
            try clear c108b0
            try clear c109
            try clear c110
            try clear c111
            try clear c112
            try clear c113
            try clear c115
            try clear c116
            try clear c117
            try clear c118
            try clear c119
            try clear hcz100_0
            try clear hcz100_1
            try clear hcz106_0
            try clear hcz106_1
            try clear hcz114_0
            try clear hcz114_1
            try clear hcz120_0
            try clear hcz120_1
            try clear hcz15_0
            try clear hcz15_1
            try clear hcz18_0
            try clear hcz18_1
            try clear hcz20_0
            try clear hcz20_1
            try clear hcz21_0
            try clear hcz21_1
            try clear hcz23_0
            try clear hcz23_1
            try clear hcz24_0
            try clear hcz24_1
            try clear hcz25_0
            try clear hcz25_1
            try clear hcz26_0
            try clear hcz26_1
            try clear hcz36_0
            try clear hcz36_1
            try clear hcz39_0
            try clear hcz39_1
            try clear hcz41_0
            try clear hcz41_1
            try clear hcz42_0
            try clear hcz42_1
            try clear hcz49_0
            try clear hcz49_1
            try clear hcz50_0
            try clear hcz50_1
            try clear hcz51_0
            try clear hcz51_1
            try clear hcz52_0
            try clear hcz52_1
            try clear hcz53_0
            try clear hcz53_1
            try clear hcz61_0
            try clear hcz61_1
            try clear hcz72_0
            try clear hcz72_1
            try clear hcz77_0
            try clear hcz77_1
            try clear hcz83_0
            try clear hcz83_1
            try clear hcz88_0
            try clear hcz88_1
            try clear hcz94_0
            try clear hcz94_1
            try clear hfz100_0
            try clear hfz100_1
            try clear hfz106_0
            try clear hfz106_1
            try clear hfz114_0
            try clear hfz114_1
            try clear hfz120_0
            try clear hfz120_1
            try clear hfz15_0
            try clear hfz15_1
            try clear hfz18_0
            try clear hfz18_1
            try clear hfz20_0
            try clear hfz20_1
            try clear hfz21_0
            try clear hfz21_1
            try clear hfz23_0
            try clear hfz23_1
            try clear hfz24_0
            try clear hfz24_1
            try clear hfz25_0
            try clear hfz25_1
            try clear hfz26_0
            try clear hfz26_1
            try clear hfz36_0
            try clear hfz36_1
            try clear hfz39_0
            try clear hfz39_1
            try clear hfz41_0
            try clear hfz41_1
            try clear hfz42_0
            try clear hfz42_1
            try clear hfz49_0
            try clear hfz49_1
            try clear hfz50_0
            try clear hfz50_1
            try clear hfz51_0
            try clear hfz51_1
            try clear hfz52_0
            try clear hfz52_1
            try clear hfz53_0
            try clear hfz53_1
            try clear hfz61_0
            try clear hfz61_1
            try clear hfz72_0
            try clear hfz72_1
            try clear hfz77_0
            try clear hfz77_1
            try clear hfz83_0
            try clear hfz83_1
            try clear hfz88_0
            try clear hfz88_1
            try clear hfz94_0
            try clear hfz94_1
            try clear p2
            obtain ⟨kq, x13_31, rfl, HA, HJ31, BK413, BK414, BK415, BK416, BK422, BK426, HB⟩ := hcut
            cases kq with
            | zero => exact absurd HA.out (by simp [laws_FnCrossInner.j1])
            | succ kj31 =>
              have H := HA.out
              clear HA
              simp only [laws_FnCrossInner.j1] at H
              have HC121 := Aside0.mk H
              clear H
              have hnb122 := NB414_413.out
              have hnc122 := NB413_414.out
              have hnb123 := NB414_415.out
              have hnc123 := NB415_414.out
              have hnb124 := NB414_416.out
              have hnc124 := NB416_414.out
              have hnb125 := NB414_422.out
              have hnc125 := NB422_414.out
              have hnb126 := NB414_426.out
              have hnc126 := NB426_414.out
              have hcz127_0 : wc.cell? ⟨gb414, 0, none⟩ = some (.int .i64 t407) := (blk_cell BK414.out 0).trans rfl
              have hcz127_1 : wc.cell? ⟨gb414, 1, none⟩ = some (.int .i64 t408) := (blk_cell BK414.out 1).trans rfl
              have hfz127_0 := blk_frozen BK414.out 0
              have hfz127_1 := blk_frozen BK414.out 1
              have hnb128 := NB413_415.out
              have hnc128 := NB415_413.out
              have hnb129 := NB413_416.out
              have hnc129 := NB416_413.out
              have hnb130 := NB413_422.out
              have hnc130 := NB422_413.out
              have hnb131 := NB413_426.out
              have hnc131 := NB426_413.out
              have hcz132_0 : wc.cell? ⟨gb413, 0, none⟩ = some (.int .i64 t405) := (blk_cell BK413.out 0).trans rfl
              have hcz132_1 : wc.cell? ⟨gb413, 1, none⟩ = some (.int .i64 t406) := (blk_cell BK413.out 1).trans rfl
              have hfz132_0 := blk_frozen BK413.out 0
              have hfz132_1 := blk_frozen BK413.out 1
              go_upto_region 12 with (first | ((with_reducible refine gate_dst (N := 14) rfl ?_); refine box_event ?hg (N := 14) ?hd (cs := #[.int .i64 0, .int .i64 0]) (t := 25) ?hr ?_; (case hd => rfl); (case hg => rfl); (case hr => first | (go_simp; done) | (go_simp; rfl)); intro gb427 hg w133 hbox hb; have n0_ := Aside0.mk (blk_below (bf BK413.out) hb); have n1_ := Aside0.mk (blk_below (bf BK414.out) hb); have n2_ := Aside0.mk (blk_below (bf BK415.out) hb); have n3_ := Aside0.mk (blk_below (bf BK416.out) hb); have n4_ := Aside0.mk (blk_below (bf BK422.out) hb); have n5_ := Aside0.mk (blk_below (bf BK426.out) hb); have n6_ := Aside0.mk (below_step (lb HB.out) hb); have n7_ := Aside0.mk (hbox); have n8_ := Aside0.mk ((by rw [hg]; exact (below_size (lb HB.out)) : w.heap.size ≤ gb427)); have n9_ := Aside0.mk ((by rw [hg]; exact (below_size (lb HB.out)) : w.heap.size ≤ gb427)); have n10_ := Aside0.mk ((by rw [hg]; exact Nat.ne_of_lt (blk_lt (bf BK413.out)) : gb413 ≠ gb427)); have n11_ := Aside0.mk ((by rw [hg]; exact Nat.ne_of_gt (blk_lt (bf BK413.out)) : gb427 ≠ gb413)); have n12_ := Aside0.mk ((by rw [hg]; exact Nat.ne_of_lt (blk_lt (bf BK414.out)) : gb414 ≠ gb427)); have n13_ := Aside0.mk ((by rw [hg]; exact Nat.ne_of_gt (blk_lt (bf BK414.out)) : gb427 ≠ gb414)); have n14_ := Aside0.mk ((by rw [hg]; exact Nat.ne_of_lt (blk_lt (bf BK415.out)) : gb415 ≠ gb427)); have n15_ := Aside0.mk ((by rw [hg]; exact Nat.ne_of_gt (blk_lt (bf BK415.out)) : gb427 ≠ gb415)); have n16_ := Aside0.mk ((by rw [hg]; exact Nat.ne_of_lt (blk_lt (bf BK416.out)) : gb416 ≠ gb427)); have n17_ := Aside0.mk ((by rw [hg]; exact Nat.ne_of_gt (blk_lt (bf BK416.out)) : gb427 ≠ gb416)); have n18_ := Aside0.mk ((by rw [hg]; exact Nat.ne_of_lt (blk_lt (bf BK422.out)) : gb422 ≠ gb427)); have n19_ := Aside0.mk ((by rw [hg]; exact Nat.ne_of_gt (blk_lt (bf BK422.out)) : gb427 ≠ gb422)); have n20_ := Aside0.mk ((by rw [hg]; exact Nat.ne_of_lt (blk_lt (bf BK426.out)) : gb426 ≠ gb427)); have n21_ := Aside0.mk ((by rw [hg]; exact Nat.ne_of_gt (blk_lt (bf BK426.out)) : gb427 ≠ gb426)); clear BK413; clear BK414; clear BK415; clear BK416; clear BK422; clear BK426; clear HB; have BK413 := n0_; have BK414 := n1_; have BK415 := n2_; have BK416 := n3_; have BK422 := n4_; have BK426 := n5_; have HB := n6_; have BK427 := n7_; have GW427 := n8_; have GE427 := n9_; have NB413_427 := n10_; have NB427_413 := n11_; have NB414_427 := n12_; have NB427_414 := n13_; have NB415_427 := n14_; have NB427_415 := n15_; have NB416_427 := n16_; have NB427_416 := n17_; have NB422_427 := n18_; have NB427_422 := n19_; have NB426_427 := n20_; have NB427_426 := n21_; clear n0_ n1_ n2_ n3_ n4_ n5_ n6_ n7_ n8_ n9_ n10_ n11_ n12_ n13_ n14_ n15_ n16_ n17_ n18_ n19_ n20_ n21_; clear hb hbox hg; have hnb134 := NB427_413.out; have hnc134 := NB413_427.out; have hnb135 := NB427_414.out; have hnc135 := NB414_427.out; have hnb136 := NB427_415.out; have hnc136 := NB415_427.out; have hnb137 := NB427_416.out; have hnc137 := NB416_427.out; have hnb138 := NB427_422.out; have hnc138 := NB422_427.out; have hnb139 := NB427_426.out; have hnc139 := NB426_427.out; have hcz140_0 : w133.cell? ⟨gb427, 0, none⟩ = some (.int .i64 0) := (blk_cell BK427.out 0).trans rfl; have hcz140_1 : w133.cell? ⟨gb427, 1, none⟩ = some (.int .i64 0) := (blk_cell BK427.out 1).trans rfl; have hfz140_0 := blk_frozen BK427.out 0; have hfz140_1 := blk_frozen BK427.out 1))
              (try simp only [Act.put, List.setIfInBounds_toArray, List.set_cons_zero, List.set_cons_succ])
              go_cut [110] (fun v110 wc => ∃ (kq : Nat) (x110_120 : Bool), v110 = .bool x110_120 ∧ Aside0 (laws_FnCrossInner.j2 kq x13_31 x110_120 t405 t406 t407 t408 t409 t410 t411 t412 t419 t420 (wrap64 ((wrap64 (2 * t407)) - t405)) (wrap64 ((wrap64 (2 * t408)) - t406)) = some r) ∧ Aside0 (kq ≤ kj31) ∧ Aside0 (wc.heap[gb413]? = some (.cells #[.int .i64 t405, .int .i64 t406] 25 (0, 0))) ∧ Aside0 (wc.heap[gb414]? = some (.cells #[.int .i64 t407, .int .i64 t408] 25 (0, 0))) ∧ Aside0 (wc.heap[gb415]? = some (.cells #[.int .i64 t409, .int .i64 t410] 25 (0, 0))) ∧ Aside0 (wc.heap[gb416]? = some (.cells #[.int .i64 t411, .int .i64 t412] 25 (0, 0))) ∧ Aside0 (wc.heap[gb422]? = some (.cells #[.int .i64 t419, .int .i64 t420] 29 (0, 0))) ∧ Aside0 (wc.heap[gb426]? = some (.cells #[.int .i64 t423, .int .i64 t424] 29 (0, 0))) ∧ Aside0 (wc.heap[gb427]? = some (.cells #[.int .i64 (wrap64 ((wrap64 (2 * t407)) - t405)), .int .i64 (wrap64 ((wrap64 (2 * t408)) - t406))] 25 (0, 0))) ∧ Aside0 (Below w.heap.size w wc))
              case first =>
                have H := HC121.out
                clear HC121
                by_cases c141 : t421 = true
                · subst c141
                  have H1 : ((impl_PointValid.f (wrap64 ((wrap64 (2 * t407)) - t405)) (wrap64 ((wrap64 (2 * t408)) - t406))).bind fun t428 => (laws_FnCrossInner.j2 kj31 x13_31 (!t428) t405 t406 t407 t408 t409 t410 t411 t412 t419 t420 (wrap64 ((wrap64 (2 * t407)) - t405)) (wrap64 ((wrap64 (2 * t408)) - t406)))) = some r := by rw [if_pos rfl] at H; exact H
                  clear H
                  have H := H1
                  clear H1
                  replace H := Option.bind_eq_some_iff.mp H
                  obtain ⟨t428, A1420, H⟩ := H
                  replace H : (laws_FnCrossInner.j2 kj31 x13_31 (!t428) t405 t406 t407 t408 t409 t410 t411 t412 t419 t420 (wrap64 ((wrap64 (2 * t407)) - t405)) (wrap64 ((wrap64 (2 * t408)) - t406))) = some r := H
                  have A142 := Aside0.mk A1420
                  clear A1420
                  have H' := Aside0.mk H
                  clear H
                  have hnb143 := NB427_413.out
                  have hnc143 := NB413_427.out
                  have hnb144 := NB427_414.out
                  have hnc144 := NB414_427.out
                  have hnb145 := NB427_415.out
                  have hnc145 := NB415_427.out
                  have hnb146 := NB427_416.out
                  have hnc146 := NB416_427.out
                  have hnb147 := NB427_422.out
                  have hnc147 := NB422_427.out
                  have hnb148 := NB427_426.out
                  have hnc148 := NB426_427.out
                  have hcz149_0 : w133.cell? ⟨gb427, 0, none⟩ = some (.int .i64 0) := (blk_cell BK427.out 0).trans rfl
                  have hcz149_1 : w133.cell? ⟨gb427, 1, none⟩ = some (.int .i64 0) := (blk_cell BK427.out 1).trans rfl
                  have hfz149_0 := blk_frozen BK427.out 0
                  have hfz149_1 := blk_frozen BK427.out 1
                  go_wp2_with (first | (go_at_call 23; (with_reducible refine (impl_PointValid.calls (wrap64 ((wrap64 (2 * t407)) - t405)) (wrap64 ((wrap64 (2 * t408)) - t406)) t428 _ A142.out).mono ?_); rintro e w150 ⟨rfl, hb⟩; have n0_ := Aside0.mk (blk_below (bf BK413.out) hb); have n1_ := Aside0.mk (blk_below (bf BK414.out) hb); have n2_ := Aside0.mk (blk_below (bf BK415.out) hb); have n3_ := Aside0.mk (blk_below (bf BK416.out) hb); have n4_ := Aside0.mk (blk_below (bf BK422.out) hb); have n5_ := Aside0.mk (blk_below (bf BK426.out) hb); have n6_ := Aside0.mk (blk_below (g := gb427) (o := .cells #[.int .i64 (wrap64 ((wrap64 (2 * t407)) - t405)), .int .i64 (wrap64 ((wrap64 (2 * t408)) - t406))] 25 (0, 0)) (by (with_reducible repeat (first | refine blk_drewN ?_ _ | refine blk_drew ?_ | refine blk_alloc ?_ _)); refine blk_put (cs := #[.int .i64 (wrap64 ((wrap64 (2 * t407)) - t405)), .int .i64 0]) ?_ 1 _ rfl; (with_reducible repeat (first | refine blk_drewN ?_ _ | refine blk_drew ?_ | refine blk_alloc ?_ _)); refine blk_put (cs := #[.int .i64 0, .int .i64 0]) ?_ 0 _ rfl; (with_reducible repeat (first | refine blk_drewN ?_ _ | refine blk_drew ?_ | refine blk_alloc ?_ _)); exact BK427.out) hb); have n7_ := Aside0.mk (below_step (lb HB.out) hb); clear BK413; clear BK414; clear BK415; clear BK416; clear BK422; clear BK426; clear BK427; clear HB; have BK413 := n0_; have BK414 := n1_; have BK415 := n2_; have BK416 := n3_; have BK422 := n4_; have BK426 := n5_; have BK427 := n6_; have HB := n7_; clear n0_ n1_ n2_ n3_ n4_ n5_ n6_ n7_; (try clear hb); (try clear hb2); (try clear hk); (try clear hi)))
                  go_meet
                  case rel => exact ⟨_, (!t428), (by first | rfl | (simp; done) | (simp [*]; done)), H', ⟨by have := HJ5.out; have := HJ31.out; first | omega | exact Nat.le_refl _⟩, ⟨by (with_reducible repeat (first | refine blk_drewN ?_ _ | refine blk_drew ?_ | refine blk_alloc ?_ _)); exact BK413.out⟩, ⟨by (with_reducible repeat (first | refine blk_drewN ?_ _ | refine blk_drew ?_ | refine blk_alloc ?_ _)); exact BK414.out⟩, ⟨by (with_reducible repeat (first | refine blk_drewN ?_ _ | refine blk_drew ?_ | refine blk_alloc ?_ _)); exact BK415.out⟩, ⟨by (with_reducible repeat (first | refine blk_drewN ?_ _ | refine blk_drew ?_ | refine blk_alloc ?_ _)); exact BK416.out⟩, ⟨by (with_reducible repeat (first | refine blk_drewN ?_ _ | refine blk_drew ?_ | refine blk_alloc ?_ _)); exact BK422.out⟩, ⟨by (with_reducible repeat (first | refine blk_drewN ?_ _ | refine blk_drew ?_ | refine blk_alloc ?_ _)); exact BK426.out⟩, ⟨by (with_reducible repeat (first | refine blk_drewN ?_ _ | refine blk_drew ?_ | refine blk_alloc ?_ _)); exact BK427.out⟩, ⟨lb HB.out⟩⟩
                · replace c141 := Bool.eq_false_iff.mpr c141
                  subst c141
                  have H1 : (laws_FnCrossInner.j2 kj31 x13_31 true t405 t406 t407 t408 t409 t410 t411 t412 t419 t420 (wrap64 ((wrap64 (2 * t407)) - t405)) (wrap64 ((wrap64 (2 * t408)) - t406))) = some r := by rw [if_neg (show ¬ (false = true) by decide)] at H; exact H
                  clear H
                  have H := H1
                  clear H1
                  have H' := Aside0.mk H
                  clear H
                  go_wp2
                  go_meet
                  case rel => exact ⟨_, (true), (by first | rfl | (simp; done) | (simp [*]; done)), H', ⟨by have := HJ5.out; have := HJ31.out; first | omega | exact Nat.le_refl _⟩, ⟨by (with_reducible repeat (first | refine blk_drewN ?_ _ | refine blk_drew ?_ | refine blk_alloc ?_ _)); refine blk_far ?_ NB413_427.out _; (with_reducible repeat (first | refine blk_drewN ?_ _ | refine blk_drew ?_ | refine blk_alloc ?_ _)); refine blk_far ?_ NB413_427.out _; (with_reducible repeat (first | refine blk_drewN ?_ _ | refine blk_drew ?_ | refine blk_alloc ?_ _)); exact BK413.out⟩, ⟨by (with_reducible repeat (first | refine blk_drewN ?_ _ | refine blk_drew ?_ | refine blk_alloc ?_ _)); refine blk_far ?_ NB414_427.out _; (with_reducible repeat (first | refine blk_drewN ?_ _ | refine blk_drew ?_ | refine blk_alloc ?_ _)); refine blk_far ?_ NB414_427.out _; (with_reducible repeat (first | refine blk_drewN ?_ _ | refine blk_drew ?_ | refine blk_alloc ?_ _)); exact BK414.out⟩, ⟨by (with_reducible repeat (first | refine blk_drewN ?_ _ | refine blk_drew ?_ | refine blk_alloc ?_ _)); refine blk_far ?_ NB415_427.out _; (with_reducible repeat (first | refine blk_drewN ?_ _ | refine blk_drew ?_ | refine blk_alloc ?_ _)); refine blk_far ?_ NB415_427.out _; (with_reducible repeat (first | refine blk_drewN ?_ _ | refine blk_drew ?_ | refine blk_alloc ?_ _)); exact BK415.out⟩, ⟨by (with_reducible repeat (first | refine blk_drewN ?_ _ | refine blk_drew ?_ | refine blk_alloc ?_ _)); refine blk_far ?_ NB416_427.out _; (with_reducible repeat (first | refine blk_drewN ?_ _ | refine blk_drew ?_ | refine blk_alloc ?_ _)); refine blk_far ?_ NB416_427.out _; (with_reducible repeat (first | refine blk_drewN ?_ _ | refine blk_drew ?_ | refine blk_alloc ?_ _)); exact BK416.out⟩, ⟨by (with_reducible repeat (first | refine blk_drewN ?_ _ | refine blk_drew ?_ | refine blk_alloc ?_ _)); refine blk_far ?_ NB422_427.out _; (with_reducible repeat (first | refine blk_drewN ?_ _ | refine blk_drew ?_ | refine blk_alloc ?_ _)); refine blk_far ?_ NB422_427.out _; (with_reducible repeat (first | refine blk_drewN ?_ _ | refine blk_drew ?_ | refine blk_alloc ?_ _)); exact BK422.out⟩, ⟨by (with_reducible repeat (first | refine blk_drewN ?_ _ | refine blk_drew ?_ | refine blk_alloc ?_ _)); refine blk_far ?_ NB426_427.out _; (with_reducible repeat (first | refine blk_drewN ?_ _ | refine blk_drew ?_ | refine blk_alloc ?_ _)); refine blk_far ?_ NB426_427.out _; (with_reducible repeat (first | refine blk_drewN ?_ _ | refine blk_drew ?_ | refine blk_alloc ?_ _)); exact BK426.out⟩, ⟨by (with_reducible repeat (first | refine blk_drewN ?_ _ | refine blk_drew ?_ | refine blk_alloc ?_ _)); refine blk_put (cs := #[.int .i64 (wrap64 ((wrap64 (2 * t407)) - t405)), .int .i64 0]) ?_ 1 _ rfl; (with_reducible repeat (first | refine blk_drewN ?_ _ | refine blk_drew ?_ | refine blk_alloc ?_ _)); refine blk_put (cs := #[.int .i64 0, .int .i64 0]) ?_ 0 _ rfl; (with_reducible repeat (first | refine blk_drewN ?_ _ | refine blk_drew ?_ | refine blk_alloc ?_ _)); exact BK427.out⟩, ⟨lb HB.out⟩⟩
              case rest =>
                clear HC121
                try clear c1
                try clear c2
                try clear c2b0
                try clear c2b1
                try clear p2
                try clear c3
                try clear c4
                try clear c5
                try clear c6
                try clear p6
                try clear c7
                try clear c8
                try clear c9
                try clear c10
                try clear c11
                try clear c12
                try clear c13
                try clear c14
                try clear c15
                try clear c16
                try clear c17
                try clear c18
                try clear c19
                try clear c22
                try clear c28
                try clear c28b0
                try clear c28b1
                try clear c28b2
                try clear c29
                try clear c33
                try clear c34
                try clear c35
                try clear c37
                try clear c38
                try clear c40
                try clear c45
                try clear c46
                try clear c47
                try clear c48
                try clear c56
                try clear c57
                try clear c58
                try clear c59
                try clear c60
                try clear c62
                try clear c63
                try clear c63b0
                try clear c64
                try clear c64b0
                try clear p64
                try clear c65
                try clear c66
                try clear c66b0
                try clear c67
                try clear c68
                try clear c69
                try clear c70
                try clear c71
                try clear c73
                try clear c74
                try clear c75
                try clear c76
                try clear c78
                try clear c79
                try clear c80
                try clear c81
                try clear c82
                try clear c84
                try clear c85
                try clear c86
                try clear c87
                try clear c89
                try clear c90
                try clear c91
                try clear c92
                try clear c93
                try clear c95
                try clear c96
                try clear c97
                try clear c98
                try clear c99
                try clear c101
                try clear c102
                try clear c103
                try clear c104
                try clear c105
                try clear c107
                try clear c108
                try clear c108b0
                try clear c109
                try clear c110
                try clear c111
                try clear c112
                try clear c113
                try clear c115
                try clear c116
                try clear c117
                try clear c118
                try clear c119
                try clear c122
                try clear c123
                try clear c124
                try clear c125
                try clear c126
                try clear c128
                try clear c129
                try clear c130
                try clear c131
                try clear c134
                try clear c135
                try clear c136
                try clear c137
                try clear c138
                try clear c139
                try clear c141
                try clear c143
                try clear c144
                try clear c145
                try clear c146
                try clear c147
                try clear c148
                try clear hcz100_0
                try clear hcz100_1
                try clear hcz106_0
                try clear hcz106_1
                try clear hcz114_0
                try clear hcz114_1
                try clear hcz120_0
                try clear hcz120_1
                try clear hcz127_0
                try clear hcz127_1
                try clear hcz132_0
                try clear hcz132_1
                try clear hcz140_0
                try clear hcz140_1
                try clear hcz149_0
                try clear hcz149_1
                try clear hcz15_0
                try clear hcz15_1
                try clear hcz18_0
                try clear hcz18_1
                try clear hcz20_0
                try clear hcz20_1
                try clear hcz21_0
                try clear hcz21_1
                try clear hcz23_0
                try clear hcz23_1
                try clear hcz24_0
                try clear hcz24_1
                try clear hcz25_0
                try clear hcz25_1
                try clear hcz26_0
                try clear hcz26_1
                try clear hcz36_0
                try clear hcz36_1
                try clear hcz39_0
                try clear hcz39_1
                try clear hcz41_0
                try clear hcz41_1
                try clear hcz42_0
                try clear hcz42_1
                try clear hcz49_0
                try clear hcz49_1
                try clear hcz50_0
                try clear hcz50_1
                try clear hcz51_0
                try clear hcz51_1
                try clear hcz52_0
                try clear hcz52_1
                try clear hcz53_0
                try clear hcz53_1
                try clear hcz61_0
                try clear hcz61_1
                try clear hcz72_0
                try clear hcz72_1
                try clear hcz77_0
                try clear hcz77_1
                try clear hcz83_0
                try clear hcz83_1
                try clear hcz88_0
                try clear hcz88_1
                try clear hcz94_0
                try clear hcz94_1
                try clear hfz100_0
                try clear hfz100_1
                try clear hfz106_0
                try clear hfz106_1
                try clear hfz114_0
                try clear hfz114_1
                try clear hfz120_0
                try clear hfz120_1
                try clear hfz127_0
                try clear hfz127_1
                try clear hfz132_0
                try clear hfz132_1
                try clear hfz140_0
                try clear hfz140_1
                try clear hfz149_0
                try clear hfz149_1
                try clear hfz15_0
                try clear hfz15_1
                try clear hfz18_0
                try clear hfz18_1
                try clear hfz20_0
                try clear hfz20_1
                try clear hfz21_0
                try clear hfz21_1
                try clear hfz23_0
                try clear hfz23_1
                try clear hfz24_0
                try clear hfz24_1
                try clear hfz25_0
                try clear hfz25_1
                try clear hfz26_0
                try clear hfz26_1
                try clear hfz36_0
                try clear hfz36_1
                try clear hfz39_0
                try clear hfz39_1
                try clear hfz41_0
                try clear hfz41_1
                try clear hfz42_0
                try clear hfz42_1
                try clear hfz49_0
                try clear hfz49_1
                try clear hfz50_0
                try clear hfz50_1
                try clear hfz51_0
                try clear hfz51_1
                try clear hfz52_0
                try clear hfz52_1
                try clear hfz53_0
                try clear hfz53_1
                try clear hfz61_0
                try clear hfz61_1
                try clear hfz72_0
                try clear hfz72_1
                try clear hfz77_0
                try clear hfz77_1
                try clear hfz83_0
                try clear hfz83_1
                try clear hfz88_0
                try clear hfz88_1
                try clear hfz94_0
                try clear hfz94_1
                try clear p2
                obtain ⟨kq, x110_120, rfl, HA, HJ120, BK413, BK414, BK415, BK416, BK422, BK426, BK427, HB⟩ := hcut
                cases kq with
                | zero => exact absurd HA.out (by simp [laws_FnCrossInner.j2])
                | succ kj120 =>
                  have H := HA.out
                  clear HA
                  simp only [laws_FnCrossInner.j2] at H
                  by_cases c151 : x110_120 = true
                  · subst c151
                    have H1 : (if x13_31 = true then ((impl_CrossInner.f t409 t410 t411 t412 t405 t406 t407 t408).bind fun t429 => (some t429)) else (some false)) = some r := by rw [if_pos rfl] at H; exact H
                    clear H
                    have H := H1
                    clear H1
                    by_cases c152 : x13_31 = true
                    · subst c152
                      have H1 : ((impl_CrossInner.f t409 t410 t411 t412 t405 t406 t407 t408).bind fun t429 => (some t429)) = some r := by rw [if_pos rfl] at H; exact H
                      clear H
                      have H := H1
                      clear H1
                      replace H := Option.bind_eq_some_iff.mp H
                      obtain ⟨t429, A1530, H⟩ := H
                      replace H : (some t429) = some r := H
                      have A153 := Aside0.mk A1530
                      clear A1530
                      obtain rfl := Option.some.inj H
                      have hnb154 := NB415_413.out
                      have hnc154 := NB413_415.out
                      have hnb155 := NB415_414.out
                      have hnc155 := NB414_415.out
                      have hnb156 := NB415_416.out
                      have hnc156 := NB416_415.out
                      have hnb157 := NB415_422.out
                      have hnc157 := NB422_415.out
                      have hnb158 := NB415_426.out
                      have hnc158 := NB426_415.out
                      have hnb159 := NB415_427.out
                      have hnc159 := NB427_415.out
                      have hcz160_0 : wc.cell? ⟨gb415, 0, none⟩ = some (.int .i64 t409) := (blk_cell BK415.out 0).trans rfl
                      have hcz160_1 : wc.cell? ⟨gb415, 1, none⟩ = some (.int .i64 t410) := (blk_cell BK415.out 1).trans rfl
                      have hfz160_0 := blk_frozen BK415.out 0
                      have hfz160_1 := blk_frozen BK415.out 1
                      have hnb161 := NB416_413.out
                      have hnc161 := NB413_416.out
                      have hnb162 := NB416_414.out
                      have hnc162 := NB414_416.out
                      have hnb163 := NB416_422.out
                      have hnc163 := NB422_416.out
                      have hnb164 := NB416_426.out
                      have hnc164 := NB426_416.out
                      have hnb165 := NB416_427.out
                      have hnc165 := NB427_416.out
                      have hcz166_0 : wc.cell? ⟨gb416, 0, none⟩ = some (.int .i64 t411) := (blk_cell BK416.out 0).trans rfl
                      have hcz166_1 : wc.cell? ⟨gb416, 1, none⟩ = some (.int .i64 t412) := (blk_cell BK416.out 1).trans rfl
                      have hfz166_0 := blk_frozen BK416.out 0
                      have hfz166_1 := blk_frozen BK416.out 1
                      have hnb167 := NB413_414.out
                      have hnc167 := NB414_413.out
                      have hnb168 := NB413_422.out
                      have hnc168 := NB422_413.out
                      have hnb169 := NB413_426.out
                      have hnc169 := NB426_413.out
                      have hnb170 := NB413_427.out
                      have hnc170 := NB427_413.out
                      have hcz171_0 : wc.cell? ⟨gb413, 0, none⟩ = some (.int .i64 t405) := (blk_cell BK413.out 0).trans rfl
                      have hcz171_1 : wc.cell? ⟨gb413, 1, none⟩ = some (.int .i64 t406) := (blk_cell BK413.out 1).trans rfl
                      have hfz171_0 := blk_frozen BK413.out 0
                      have hfz171_1 := blk_frozen BK413.out 1
                      have hnb172 := NB414_422.out
                      have hnc172 := NB422_414.out
                      have hnb173 := NB414_426.out
                      have hnc173 := NB426_414.out
                      have hnb174 := NB414_427.out
                      have hnc174 := NB427_414.out
                      have hcz175_0 : wc.cell? ⟨gb414, 0, none⟩ = some (.int .i64 t407) := (blk_cell BK414.out 0).trans rfl
                      have hcz175_1 : wc.cell? ⟨gb414, 1, none⟩ = some (.int .i64 t408) := (blk_cell BK414.out 1).trans rfl
                      have hfz175_0 := blk_frozen BK414.out 0
                      have hfz175_1 := blk_frozen BK414.out 1
                      go_wp2_with (first | (go_at_call 16; (with_reducible refine (impl_CrossInner.calls t409 t410 t411 t412 t405 t406 t407 t408 t429 _ A153.out).mono ?_); rintro e w176 ⟨rfl, hb⟩; have n0_ := Aside0.mk (blk_below (bf BK413.out) hb); have n1_ := Aside0.mk (blk_below (bf BK414.out) hb); have n2_ := Aside0.mk (blk_below (bf BK415.out) hb); have n3_ := Aside0.mk (blk_below (bf BK416.out) hb); have n4_ := Aside0.mk (blk_below (bf BK422.out) hb); have n5_ := Aside0.mk (blk_below (bf BK426.out) hb); have n6_ := Aside0.mk (blk_below (bf BK427.out) hb); have n7_ := Aside0.mk (below_step (lb HB.out) hb); clear BK413; clear BK414; clear BK415; clear BK416; clear BK422; clear BK426; clear BK427; clear HB; have BK413 := n0_; have BK414 := n1_; have BK415 := n2_; have BK416 := n3_; have BK422 := n4_; have BK426 := n5_; have BK427 := n6_; have HB := n7_; clear n0_ n1_ n2_ n3_ n4_ n5_ n6_ n7_; (try clear hb); (try clear hb2); (try clear hk); (try clear hi)))
                      go_ret
                      exact ⟨er, lb HB.out⟩
                    · replace c152 := Bool.eq_false_iff.mpr c152
                      subst c152
                      have H1 : (some false) = some r := by rw [if_neg (show ¬ (false = true) by decide)] at H; exact H
                      clear H
                      have H := H1
                      clear H1
                      obtain rfl := Option.some.inj H
                      go_wp2
                      go_ret
                      exact ⟨er, lb HB.out⟩
                  · replace c151 := Bool.eq_false_iff.mpr c151
                    subst c151
                    have H1 : (if x13_31 = true then ((impl_CrossInner.f t409 t410 t411 t412 t405 t406 t407 t408).bind fun t430 => (if t430 = true then ((impl_CrossInner.f t407 t408 (wrap64 ((wrap64 (2 * t407)) - t405)) (wrap64 ((wrap64 (2 * t408)) - t406)) t409 t410 t411 t412).bind fun t431 => ((laws_whole.f 1).bind fun bt432 => (some (t431 == (t419 == bt432.1 && (t420 == bt432.2)))))) else (some false))) else (some false)) = some r := by rw [if_neg (show ¬ (false = true) by decide)] at H; exact H
                    clear H
                    have H := H1
                    clear H1
                    by_cases c177 : x13_31 = true
                    · subst c177
                      have H1 : ((impl_CrossInner.f t409 t410 t411 t412 t405 t406 t407 t408).bind fun t430 => (if t430 = true then ((impl_CrossInner.f t407 t408 (wrap64 ((wrap64 (2 * t407)) - t405)) (wrap64 ((wrap64 (2 * t408)) - t406)) t409 t410 t411 t412).bind fun t431 => ((laws_whole.f 1).bind fun bt432 => (some (t431 == (t419 == bt432.1 && (t420 == bt432.2)))))) else (some false))) = some r := by rw [if_pos rfl] at H; exact H
                      clear H
                      have H := H1
                      clear H1
                      replace H := Option.bind_eq_some_iff.mp H
                      obtain ⟨t430, A1780, H⟩ := H
                      replace H : (if t430 = true then ((impl_CrossInner.f t407 t408 (wrap64 ((wrap64 (2 * t407)) - t405)) (wrap64 ((wrap64 (2 * t408)) - t406)) t409 t410 t411 t412).bind fun t431 => ((laws_whole.f 1).bind fun bt432 => (some (t431 == (t419 == bt432.1 && (t420 == bt432.2)))))) else (some false)) = some r := H
                      have A178 := Aside0.mk A1780
                      clear A1780
                      by_cases c179 : t430 = true
                      · subst c179
                        have H1 : ((impl_CrossInner.f t407 t408 (wrap64 ((wrap64 (2 * t407)) - t405)) (wrap64 ((wrap64 (2 * t408)) - t406)) t409 t410 t411 t412).bind fun t431 => ((laws_whole.f 1).bind fun bt432 => (some (t431 == (t419 == bt432.1 && (t420 == bt432.2)))))) = some r := by rw [if_pos rfl] at H; exact H
                        clear H
                        have H := H1
                        clear H1
                        replace H := Option.bind_eq_some_iff.mp H
                        obtain ⟨t431, A1800, H⟩ := H
                        replace H : ((laws_whole.f 1).bind fun bt432 => (some (t431 == (t419 == bt432.1 && (t420 == bt432.2))))) = some r := H
                        have A180 := Aside0.mk A1800
                        clear A1800
                        replace H := Option.bind_eq_some_iff.mp H
                        obtain ⟨⟨t432, t433⟩, A1810, H⟩ := H
                        replace H : (some (t431 == (t419 == t432 && (t420 == t433)))) = some r := H
                        have A181 := Aside0.mk A1810
                        clear A1810
                        obtain rfl := Option.some.inj H
                        try go_wp2
                        have n0_ := Aside0.mk (blk_drew BK413.out)
                        have n1_ := Aside0.mk (blk_drew BK414.out)
                        have n2_ := Aside0.mk (blk_drew BK415.out)
                        have n3_ := Aside0.mk (blk_drew BK416.out)
                        have n4_ := Aside0.mk (blk_drew BK422.out)
                        have n5_ := Aside0.mk (blk_drew BK426.out)
                        have n6_ := Aside0.mk (blk_drew BK427.out)
                        have n7_ := Aside0.mk (below_drew1 HB.out)
                        clear BK413
                        clear BK414
                        clear BK415
                        clear BK416
                        clear BK422
                        clear BK426
                        clear BK427
                        clear HB
                        have BK413 := n0_
                        have BK414 := n1_
                        have BK415 := n2_
                        have BK416 := n3_
                        have BK422 := n4_
                        have BK426 := n5_
                        have BK427 := n6_
                        have HB := n7_
                        clear n0_ n1_ n2_ n3_ n4_ n5_ n6_ n7_
                        refine start_ (n := 20) (S := fun w' => w'.cell? ⟨gb415, 0, none⟩ = some (.int .i64 t409) ∧ w'.cell? ⟨gb415, 1, none⟩ = some (.int .i64 t410) ∧ w'.cell? ⟨gb416, 0, none⟩ = some (.int .i64 t411) ∧ w'.cell? ⟨gb416, 1, none⟩ = some (.int .i64 t412) ∧ w'.cell? ⟨gb413, 0, none⟩ = some (.int .i64 t405) ∧ w'.cell? ⟨gb413, 1, none⟩ = some (.int .i64 t406) ∧ w'.cell? ⟨gb414, 0, none⟩ = some (.int .i64 t407) ∧ w'.cell? ⟨gb414, 1, none⟩ = some (.int .i64 t408) ∧ w'.cell? ⟨gb427, 0, none⟩ = some (.int .i64 (wrap64 ((wrap64 (2 * t407)) - t405))) ∧ w'.cell? ⟨gb427, 1, none⟩ = some (.int .i64 (wrap64 ((wrap64 (2 * t408)) - t406))) ∧ w'.cell? ⟨gb422, 0, none⟩ = some (.int .i64 t419) ∧ w'.cell? ⟨gb422, 1, none⟩ = some (.int .i64 t420)) (ds := []) #[false, false, false, false, false, false, false, false, false, false, false, false, false, false, false, false, false, false, false, false] (by kernel_rfl) rfl rfl ⟨(blk_cell BK415.out 0).trans rfl, (blk_cell BK415.out 1).trans rfl, (blk_cell BK416.out 0).trans rfl, (blk_cell BK416.out 1).trans rfl, (blk_cell BK413.out 0).trans rfl, (blk_cell BK413.out 1).trans rfl, (blk_cell BK414.out 0).trans rfl, (blk_cell BK414.out 1).trans rfl, (blk_cell BK427.out 0).trans rfl, (blk_cell BK427.out 1).trans rfl, (blk_cell BK422.out 0).trans rfl, (blk_cell BK422.out 1).trans rfl⟩ (fun hHeld => ?_); refine with_tabW laws_FnCrossInner.tab14 laws_FnCrossInner.bits14 (fun HT_ HW_ => ?_)
                        generalize wc.drew = w182 at BK413 BK414 BK415 BK416 BK422 BK426 BK427 HB hHeld ⊢
                        refine pure_ (i := 0) (N := some 119) (v := ?_) (a' := ?_) #[true, false, false, false, false, false, false, false, false, false, false, false, false, false, false, false, false, false, false, false] rfl rfl (any_of HT_.out (by kernel_rfl)) (fun _ _ _ h => h) (Or.inl ⟨by rfl, ?_⟩) ?_ ?_
                        rotate_left
                        · intro w'
                          go_simp
                          with_reducible rfl
                        rotate_left
                        · simp only [Act.put, List.setIfInBounds_toArray, List.set_cons_zero, List.set_cons_succ, i64_w, i32_w]
                          rfl
                        refine pure_ (i := 1) (N := some 120) (v := ?_) (a' := ?_) #[true, true, false, false, false, false, false, false, false, false, false, false, false, false, false, false, false, false, false, false] rfl rfl (any_of HT_.out (by kernel_rfl)) (fun _ _ _ h => h) (Or.inl ⟨by rfl, ?_⟩) ?_ ?_
                        rotate_left
                        · intro w'
                          go_simp
                          with_reducible rfl
                        rotate_left
                        · simp only [Act.put, List.setIfInBounds_toArray, List.set_cons_zero, List.set_cons_succ, i64_w, i32_w]
                          rfl
                        refine take_ (i := 2) (N := some 121) (v := ?_) (a' := ?_) #[true, true, true, false, false, false, false, false, false, false, false, false, false, false, false, false, false, false, false, false] rfl rfl (take_ofW HT_.out HW_.out (by kernel_rfl)) (fun _ _ _ h => h) (Or.inl ⟨by rfl, ?_⟩) hHeld ?_ ?_
                        rotate_left
                        · rintro w' ⟨s0, s1, s2, s3, s4, s5, s6, s7, s8, s9, s10, s11⟩
                          go_simp
                          with_reducible rfl
                        rotate_left
                        · simp only [Act.put, List.setIfInBounds_toArray, List.set_cons_zero, List.set_cons_succ, i64_w, i32_w]
                          rfl
                        refine take_ (i := 3) (N := some 122) (v := ?_) (a' := ?_) #[true, true, true, true, false, false, false, false, false, false, false, false, false, false, false, false, false, false, false, false] rfl rfl (take_ofW HT_.out HW_.out (by kernel_rfl)) (fun _ _ _ h => h) (Or.inl ⟨by rfl, ?_⟩) hHeld ?_ ?_
                        rotate_left
                        · rintro w' ⟨s0, s1, s2, s3, s4, s5, s6, s7, s8, s9, s10, s11⟩
                          go_simp
                          with_reducible rfl
                        rotate_left
                        · simp only [Act.put, List.setIfInBounds_toArray, List.set_cons_zero, List.set_cons_succ, i64_w, i32_w]
                          rfl
                        refine take_ (i := 4) (N := some 123) (v := ?_) (a' := ?_) #[true, true, true, true, true, false, false, false, false, false, false, false, false, false, false, false, false, false, false, false] rfl rfl (take_ofW HT_.out HW_.out (by kernel_rfl)) (fun _ _ _ h => h) (Or.inl ⟨by rfl, ?_⟩) hHeld ?_ ?_
                        rotate_left
                        · rintro w' ⟨s0, s1, s2, s3, s4, s5, s6, s7, s8, s9, s10, s11⟩
                          go_simp
                          with_reducible rfl
                        rotate_left
                        · simp only [Act.put, List.setIfInBounds_toArray, List.set_cons_zero, List.set_cons_succ, i64_w, i32_w]
                          rfl
                        refine take_ (i := 5) (N := some 124) (v := ?_) (a' := ?_) #[true, true, true, true, true, true, false, false, false, false, false, false, false, false, false, false, false, false, false, false] rfl rfl (take_ofW HT_.out HW_.out (by kernel_rfl)) (fun _ _ _ h => h) (Or.inl ⟨by rfl, ?_⟩) hHeld ?_ ?_
                        rotate_left
                        · rintro w' ⟨s0, s1, s2, s3, s4, s5, s6, s7, s8, s9, s10, s11⟩
                          go_simp
                          with_reducible rfl
                        rotate_left
                        · simp only [Act.put, List.setIfInBounds_toArray, List.set_cons_zero, List.set_cons_succ, i64_w, i32_w]
                          rfl
                        refine one_ (i := 6) (N := some 125) #[true, true, true, true, true, true, true, false, false, false, false, false, false, false, false, false, false, false, false, false] rfl rfl (one_of HT_.out (by kernel_rfl)) (by decide) (fun K hK => ?_)
                        refine goes_ Try.func16 (by kernel_rfl) rfl #[.agg #[.int .i64 t409, .int .i64 t410], .agg #[.int .i64 t411, .int .i64 t412], .agg #[.int .i64 t405, .int .i64 t406], .agg #[.int .i64 t407, .int .i64 t408]] (by rfl) rfl rfl al ?_
                        with_reducible refine (impl_CrossInner.calls t409 t410 t411 t412 t405 t406 t407 t408 true _ A178.out).mono ?_
                        rintro e w183 ⟨rfl, hb⟩
                        refine ⟨_, rfl, ?_⟩
                        have n0_ := Aside0.mk (blk_below (bf BK413.out) hb)
                        have n1_ := Aside0.mk (blk_below (bf BK414.out) hb)
                        have n2_ := Aside0.mk (blk_below (bf BK415.out) hb)
                        have n3_ := Aside0.mk (blk_below (bf BK416.out) hb)
                        have n4_ := Aside0.mk (blk_below (bf BK422.out) hb)
                        have n5_ := Aside0.mk (blk_below (bf BK426.out) hb)
                        have n6_ := Aside0.mk (blk_below (bf BK427.out) hb)
                        have n7_ := Aside0.mk (below_step (lb HB.out) hb)
                        clear BK413
                        clear BK414
                        clear BK415
                        clear BK416
                        clear BK422
                        clear BK426
                        clear BK427
                        clear HB
                        have BK413 := n0_
                        have BK414 := n1_
                        have BK415 := n2_
                        have BK416 := n3_
                        have BK422 := n4_
                        have BK426 := n5_
                        have BK427 := n6_
                        have HB := n7_
                        clear n0_ n1_ n2_ n3_ n4_ n5_ n6_ n7_
                        (try clear hb)
                        (try clear hb2)
                        (try clear hk)
                        (try clear hi)
                        refine hK.out _ _ ⟨(blk_cell BK415.out 0).trans rfl, (blk_cell BK415.out 1).trans rfl, (blk_cell BK416.out 0).trans rfl, (blk_cell BK416.out 1).trans rfl, (blk_cell BK413.out 0).trans rfl, (blk_cell BK413.out 1).trans rfl, (blk_cell BK414.out 0).trans rfl, (blk_cell BK414.out 1).trans rfl, (blk_cell BK427.out 0).trans rfl, (blk_cell BK427.out 1).trans rfl, (blk_cell BK422.out 0).trans rfl, (blk_cell BK422.out 1).trans rfl⟩ (fun hHeld => ?_)
                        clear hK K
                        refine norm_ (a' := ?_) ?_ ?_
                        rotate_left
                        · show Act.put _ (some 125) _ = _
                          simp only [Act.put, List.setIfInBounds_toArray, List.set_cons_zero, List.set_cons_succ, i64_w, i32_w]
                          rfl
                        refine pure_ (i := 7) (N := some 126) (v := ?_) (a' := ?_) #[true, true, true, true, true, true, true, true, false, false, false, false, false, false, false, false, false, false, false, false] rfl rfl (any_of HT_.out (by kernel_rfl)) (fun _ _ _ h => h) (Or.inl ⟨by rfl, ?_⟩) ?_ ?_
                        rotate_left
                        · intro w'
                          go_simp
                          with_reducible rfl
                        rotate_left
                        · simp only [Act.put, List.setIfInBounds_toArray, List.set_cons_zero, List.set_cons_succ, i64_w, i32_w]
                          rfl
                        refine pure_ (i := 8) (N := some 127) (v := ?_) (a' := ?_) #[true, true, true, true, true, true, true, true, true, false, false, false, false, false, false, false, false, false, false, false] rfl rfl (any_of HT_.out (by kernel_rfl)) (fun _ _ _ h => h) (Or.inl ⟨by rfl, ?_⟩) ?_ ?_
                        rotate_left
                        · intro w'
                          go_simp
                          with_reducible rfl
                        rotate_left
                        · simp only [Act.put, List.setIfInBounds_toArray, List.set_cons_zero, List.set_cons_succ, i64_w, i32_w]
                          rfl
                        refine take_ (i := 9) (N := some 128) (v := ?_) (a' := ?_) #[true, true, true, true, true, true, true, true, true, true, false, false, false, false, false, false, false, false, false, false] rfl rfl (take_ofW HT_.out HW_.out (by kernel_rfl)) (fun _ _ _ h => h) (Or.inl ⟨by rfl, ?_⟩) hHeld ?_ ?_
                        rotate_left
                        · rintro w' ⟨s0, s1, s2, s3, s4, s5, s6, s7, s8, s9, s10, s11⟩
                          go_simp
                          with_reducible rfl
                        rotate_left
                        · simp only [Act.put, List.setIfInBounds_toArray, List.set_cons_zero, List.set_cons_succ, i64_w, i32_w]
                          rfl
                        refine take_ (i := 10) (N := some 129) (v := ?_) (a' := ?_) #[true, true, true, true, true, true, true, true, true, true, true, false, false, false, false, false, false, false, false, false] rfl rfl (take_ofW HT_.out HW_.out (by kernel_rfl)) (fun _ _ _ h => h) (Or.inl ⟨by rfl, ?_⟩) hHeld ?_ ?_
                        rotate_left
                        · rintro w' ⟨s0, s1, s2, s3, s4, s5, s6, s7, s8, s9, s10, s11⟩
                          go_simp
                          with_reducible rfl
                        rotate_left
                        · simp only [Act.put, List.setIfInBounds_toArray, List.set_cons_zero, List.set_cons_succ, i64_w, i32_w]
                          rfl
                        refine take_ (i := 11) (N := some 130) (v := ?_) (a' := ?_) #[true, true, true, true, true, true, true, true, true, true, true, true, false, false, false, false, false, false, false, false] rfl rfl (take_ofW HT_.out HW_.out (by kernel_rfl)) (fun _ _ _ h => h) (Or.inl ⟨by rfl, ?_⟩) hHeld ?_ ?_
                        rotate_left
                        · rintro w' ⟨s0, s1, s2, s3, s4, s5, s6, s7, s8, s9, s10, s11⟩
                          go_simp
                          with_reducible rfl
                        rotate_left
                        · simp only [Act.put, List.setIfInBounds_toArray, List.set_cons_zero, List.set_cons_succ, i64_w, i32_w]
                          rfl
                        refine take_ (i := 12) (N := some 131) (v := ?_) (a' := ?_) #[true, true, true, true, true, true, true, true, true, true, true, true, true, false, false, false, false, false, false, false] rfl rfl (take_ofW HT_.out HW_.out (by kernel_rfl)) (fun _ _ _ h => h) (Or.inl ⟨by rfl, ?_⟩) hHeld ?_ ?_
                        rotate_left
                        · rintro w' ⟨s0, s1, s2, s3, s4, s5, s6, s7, s8, s9, s10, s11⟩
                          go_simp
                          with_reducible rfl
                        rotate_left
                        · simp only [Act.put, List.setIfInBounds_toArray, List.set_cons_zero, List.set_cons_succ, i64_w, i32_w]
                          rfl
                        refine take_ (i := 14) (N := some 133) (v := ?_) (a' := ?_) #[true, true, true, true, true, true, true, true, true, true, true, true, true, false, true, false, false, false, false, false] rfl rfl (take_ofW HT_.out HW_.out (by kernel_rfl)) (fun _ _ _ h => h) (Or.inl ⟨by rfl, ?_⟩) hHeld ?_ ?_
                        rotate_left
                        · rintro w' ⟨s0, s1, s2, s3, s4, s5, s6, s7, s8, s9, s10, s11⟩
                          go_simp
                          with_reducible rfl
                        rotate_left
                        · simp only [Act.put, List.setIfInBounds_toArray, List.set_cons_zero, List.set_cons_succ, i64_w, i32_w]
                          rfl
                        refine one_ (i := 13) (N := some 132) #[true, true, true, true, true, true, true, true, true, true, true, true, true, true, true, false, false, false, false, false] rfl rfl (one_of HT_.out (by kernel_rfl)) (by decide) (fun K hK => ?_)
                        refine goes_ Try.func16 (by kernel_rfl) rfl #[.agg #[.int .i64 t407, .int .i64 t408], .agg #[.int .i64 (wrap64 ((wrap64 (2 * t407)) - t405)), .int .i64 (wrap64 ((wrap64 (2 * t408)) - t406))], .agg #[.int .i64 t409, .int .i64 t410], .agg #[.int .i64 t411, .int .i64 t412]] (by rfl) rfl rfl al ?_
                        with_reducible refine (impl_CrossInner.calls t407 t408 (wrap64 ((wrap64 (2 * t407)) - t405)) (wrap64 ((wrap64 (2 * t408)) - t406)) t409 t410 t411 t412 t431 _ A180.out).mono ?_
                        rintro e w184 ⟨rfl, hb⟩
                        refine ⟨_, rfl, ?_⟩
                        have n0_ := Aside0.mk (blk_below (bf BK413.out) hb)
                        have n1_ := Aside0.mk (blk_below (bf BK414.out) hb)
                        have n2_ := Aside0.mk (blk_below (bf BK415.out) hb)
                        have n3_ := Aside0.mk (blk_below (bf BK416.out) hb)
                        have n4_ := Aside0.mk (blk_below (bf BK422.out) hb)
                        have n5_ := Aside0.mk (blk_below (bf BK426.out) hb)
                        have n6_ := Aside0.mk (blk_below (bf BK427.out) hb)
                        have n7_ := Aside0.mk (below_step (lb HB.out) hb)
                        clear BK413
                        clear BK414
                        clear BK415
                        clear BK416
                        clear BK422
                        clear BK426
                        clear BK427
                        clear HB
                        have BK413 := n0_
                        have BK414 := n1_
                        have BK415 := n2_
                        have BK416 := n3_
                        have BK422 := n4_
                        have BK426 := n5_
                        have BK427 := n6_
                        have HB := n7_
                        clear n0_ n1_ n2_ n3_ n4_ n5_ n6_ n7_
                        (try clear hb)
                        (try clear hb2)
                        (try clear hk)
                        (try clear hi)
                        refine hK.out _ _ ⟨(blk_cell BK415.out 0).trans rfl, (blk_cell BK415.out 1).trans rfl, (blk_cell BK416.out 0).trans rfl, (blk_cell BK416.out 1).trans rfl, (blk_cell BK413.out 0).trans rfl, (blk_cell BK413.out 1).trans rfl, (blk_cell BK414.out 0).trans rfl, (blk_cell BK414.out 1).trans rfl, (blk_cell BK427.out 0).trans rfl, (blk_cell BK427.out 1).trans rfl, (blk_cell BK422.out 0).trans rfl, (blk_cell BK422.out 1).trans rfl⟩ (fun hHeld => ?_)
                        clear hK K
                        refine norm_ (a' := ?_) ?_ ?_
                        rotate_left
                        · show Act.put _ (some 132) _ = _
                          simp only [Act.put, List.setIfInBounds_toArray, List.set_cons_zero, List.set_cons_succ, i64_w, i32_w]
                          rfl
                        refine one_ (i := 15) (N := some 134) #[true, true, true, true, true, true, true, true, true, true, true, true, true, true, true, true, false, false, false, false] rfl rfl (one_of HT_.out (by kernel_rfl)) (by decide) (fun K hK => ?_)
                        refine goes_ Try.func24 (by kernel_rfl) rfl #[.int .i64 1] (by rfl) rfl rfl al ?_
                        with_reducible refine (laws_whole.calls 1 t432 t433 _ A181.out).mono ?_
                        rintro e w185 ⟨rfl, hb⟩
                        refine ⟨_, rfl, ?_⟩
                        have n0_ := Aside0.mk (blk_below (bf BK413.out) hb)
                        have n1_ := Aside0.mk (blk_below (bf BK414.out) hb)
                        have n2_ := Aside0.mk (blk_below (bf BK415.out) hb)
                        have n3_ := Aside0.mk (blk_below (bf BK416.out) hb)
                        have n4_ := Aside0.mk (blk_below (bf BK422.out) hb)
                        have n5_ := Aside0.mk (blk_below (bf BK426.out) hb)
                        have n6_ := Aside0.mk (blk_below (bf BK427.out) hb)
                        have n7_ := Aside0.mk (below_step (lb HB.out) hb)
                        clear BK413
                        clear BK414
                        clear BK415
                        clear BK416
                        clear BK422
                        clear BK426
                        clear BK427
                        clear HB
                        have BK413 := n0_
                        have BK414 := n1_
                        have BK415 := n2_
                        have BK416 := n3_
                        have BK422 := n4_
                        have BK426 := n5_
                        have BK427 := n6_
                        have HB := n7_
                        clear n0_ n1_ n2_ n3_ n4_ n5_ n6_ n7_
                        (try clear hb)
                        (try clear hb2)
                        (try clear hk)
                        (try clear hi)
                        refine hK.out _ _ ⟨(blk_cell BK415.out 0).trans rfl, (blk_cell BK415.out 1).trans rfl, (blk_cell BK416.out 0).trans rfl, (blk_cell BK416.out 1).trans rfl, (blk_cell BK413.out 0).trans rfl, (blk_cell BK413.out 1).trans rfl, (blk_cell BK414.out 0).trans rfl, (blk_cell BK414.out 1).trans rfl, (blk_cell BK427.out 0).trans rfl, (blk_cell BK427.out 1).trans rfl, (blk_cell BK422.out 0).trans rfl, (blk_cell BK422.out 1).trans rfl⟩ (fun hHeld => ?_)
                        clear hK K
                        refine norm_ (a' := ?_) ?_ ?_
                        rotate_left
                        · show Act.put _ (some 134) _ = _
                          simp only [Act.put, List.setIfInBounds_toArray, List.set_cons_zero, List.set_cons_succ, i64_w, i32_w]
                          rfl
                        refine pure_ (i := 16) (N := some 135) (v := ?_) (a' := ?_) #[true, true, true, true, true, true, true, true, true, true, true, true, true, true, true, true, true, false, false, false] rfl rfl (any_of HT_.out (by kernel_rfl)) (fun _ _ _ h => h) (Or.inl ⟨by rfl, ?_⟩) ?_ ?_
                        rotate_left
                        · intro w'
                          go_simp
                          with_reducible rfl
                        rotate_left
                        · simp only [Act.put, List.setIfInBounds_toArray, List.set_cons_zero, List.set_cons_succ, i64_w, i32_w]
                          rfl
                        refine pure_ (i := 17) (N := some 136) (v := ?_) (a' := ?_) #[true, true, true, true, true, true, true, true, true, true, true, true, true, true, true, true, true, true, false, false] rfl rfl (any_of HT_.out (by kernel_rfl)) (fun _ _ _ h => h) (Or.inl ⟨by rfl, ?_⟩) ?_ ?_
                        rotate_left
                        · intro w'
                          go_simp
                          with_reducible rfl
                        rotate_left
                        · simp only [Act.put, List.setIfInBounds_toArray, List.set_cons_zero, List.set_cons_succ, i64_w, i32_w]
                          rfl
                        refine pure_ (i := 18) (N := some 137) (v := ?_) (a' := ?_) #[true, true, true, true, true, true, true, true, true, true, true, true, true, true, true, true, true, true, true, false] rfl rfl (any_of HT_.out (by kernel_rfl)) (fun _ _ _ h => h) (Or.inl ⟨by rfl, ?_⟩) ?_ ?_
                        rotate_left
                        · intro w'
                          go_simp
                          with_reducible rfl
                        rotate_left
                        · simp only [Act.put, List.setIfInBounds_toArray, List.set_cons_zero, List.set_cons_succ, i64_w, i32_w]
                          rfl
                        refine pure_ (i := 19) (N := some 2) (v := ?_) (a' := ?_) #[true, true, true, true, true, true, true, true, true, true, true, true, true, true, true, true, true, true, true, true] rfl rfl (any_of HT_.out (by kernel_rfl)) (fun _ _ _ h => h) (Or.inl ⟨by rfl, ?_⟩) ?_ ?_
                        rotate_left
                        · intro w'
                          go_simp
                          with_reducible rfl
                        rotate_left
                        · simp only [Act.put, List.setIfInBounds_toArray, List.set_cons_zero, List.set_cons_succ, i64_w, i32_w]
                          rfl
                        refine done_ (done_of HT_.out (by kernel_rfl)) ?_
                        try go_wp2
                        go_ret
                        exact ⟨er, lb HB.out⟩
                      · replace c179 := Bool.eq_false_iff.mpr c179
                        subst c179
                        have H1 : (some false) = some r := by rw [if_neg (show ¬ (false = true) by decide)] at H; exact H
                        clear H
                        have H := H1
                        clear H1
                        obtain rfl := Option.some.inj H
                        try go_wp2
                        have n0_ := Aside0.mk (blk_drew BK413.out)
                        have n1_ := Aside0.mk (blk_drew BK414.out)
                        have n2_ := Aside0.mk (blk_drew BK415.out)
                        have n3_ := Aside0.mk (blk_drew BK416.out)
                        have n4_ := Aside0.mk (blk_drew BK422.out)
                        have n5_ := Aside0.mk (blk_drew BK426.out)
                        have n6_ := Aside0.mk (blk_drew BK427.out)
                        have n7_ := Aside0.mk (below_drew1 HB.out)
                        clear BK413
                        clear BK414
                        clear BK415
                        clear BK416
                        clear BK422
                        clear BK426
                        clear BK427
                        clear HB
                        have BK413 := n0_
                        have BK414 := n1_
                        have BK415 := n2_
                        have BK416 := n3_
                        have BK422 := n4_
                        have BK426 := n5_
                        have BK427 := n6_
                        have HB := n7_
                        clear n0_ n1_ n2_ n3_ n4_ n5_ n6_ n7_
                        refine start_ (n := 20) (S := fun w' => w'.cell? ⟨gb415, 0, none⟩ = some (.int .i64 t409) ∧ w'.cell? ⟨gb415, 1, none⟩ = some (.int .i64 t410) ∧ w'.cell? ⟨gb416, 0, none⟩ = some (.int .i64 t411) ∧ w'.cell? ⟨gb416, 1, none⟩ = some (.int .i64 t412) ∧ w'.cell? ⟨gb413, 0, none⟩ = some (.int .i64 t405) ∧ w'.cell? ⟨gb413, 1, none⟩ = some (.int .i64 t406) ∧ w'.cell? ⟨gb414, 0, none⟩ = some (.int .i64 t407) ∧ w'.cell? ⟨gb414, 1, none⟩ = some (.int .i64 t408)) (ds := []) #[false, false, false, false, false, false, false, false, false, false, false, false, false, false, false, false, false, false, false, false] (by kernel_rfl) rfl rfl ⟨(blk_cell BK415.out 0).trans rfl, (blk_cell BK415.out 1).trans rfl, (blk_cell BK416.out 0).trans rfl, (blk_cell BK416.out 1).trans rfl, (blk_cell BK413.out 0).trans rfl, (blk_cell BK413.out 1).trans rfl, (blk_cell BK414.out 0).trans rfl, (blk_cell BK414.out 1).trans rfl⟩ (fun hHeld => ?_); refine with_tabW laws_FnCrossInner.tab14 laws_FnCrossInner.bits14 (fun HT_ HW_ => ?_)
                        generalize wc.drew = w186 at BK413 BK414 BK415 BK416 BK422 BK426 BK427 HB hHeld ⊢
                        refine pure_ (i := 0) (N := some 119) (v := ?_) (a' := ?_) #[true, false, false, false, false, false, false, false, false, false, false, false, false, false, false, false, false, false, false, false] rfl rfl (any_of HT_.out (by kernel_rfl)) (fun _ _ _ h => h) (Or.inl ⟨by rfl, ?_⟩) ?_ ?_
                        rotate_left
                        · intro w'
                          go_simp
                          with_reducible rfl
                        rotate_left
                        · simp only [Act.put, List.setIfInBounds_toArray, List.set_cons_zero, List.set_cons_succ, i64_w, i32_w]
                          rfl
                        refine pure_ (i := 1) (N := some 120) (v := ?_) (a' := ?_) #[true, true, false, false, false, false, false, false, false, false, false, false, false, false, false, false, false, false, false, false] rfl rfl (any_of HT_.out (by kernel_rfl)) (fun _ _ _ h => h) (Or.inl ⟨by rfl, ?_⟩) ?_ ?_
                        rotate_left
                        · intro w'
                          go_simp
                          with_reducible rfl
                        rotate_left
                        · simp only [Act.put, List.setIfInBounds_toArray, List.set_cons_zero, List.set_cons_succ, i64_w, i32_w]
                          rfl
                        refine take_ (i := 2) (N := some 121) (v := ?_) (a' := ?_) #[true, true, true, false, false, false, false, false, false, false, false, false, false, false, false, false, false, false, false, false] rfl rfl (take_ofW HT_.out HW_.out (by kernel_rfl)) (fun _ _ _ h => h) (Or.inl ⟨by rfl, ?_⟩) hHeld ?_ ?_
                        rotate_left
                        · rintro w' ⟨s0, s1, s2, s3, s4, s5, s6, s7⟩
                          go_simp
                          with_reducible rfl
                        rotate_left
                        · simp only [Act.put, List.setIfInBounds_toArray, List.set_cons_zero, List.set_cons_succ, i64_w, i32_w]
                          rfl
                        refine take_ (i := 3) (N := some 122) (v := ?_) (a' := ?_) #[true, true, true, true, false, false, false, false, false, false, false, false, false, false, false, false, false, false, false, false] rfl rfl (take_ofW HT_.out HW_.out (by kernel_rfl)) (fun _ _ _ h => h) (Or.inl ⟨by rfl, ?_⟩) hHeld ?_ ?_
                        rotate_left
                        · rintro w' ⟨s0, s1, s2, s3, s4, s5, s6, s7⟩
                          go_simp
                          with_reducible rfl
                        rotate_left
                        · simp only [Act.put, List.setIfInBounds_toArray, List.set_cons_zero, List.set_cons_succ, i64_w, i32_w]
                          rfl
                        refine take_ (i := 4) (N := some 123) (v := ?_) (a' := ?_) #[true, true, true, true, true, false, false, false, false, false, false, false, false, false, false, false, false, false, false, false] rfl rfl (take_ofW HT_.out HW_.out (by kernel_rfl)) (fun _ _ _ h => h) (Or.inl ⟨by rfl, ?_⟩) hHeld ?_ ?_
                        rotate_left
                        · rintro w' ⟨s0, s1, s2, s3, s4, s5, s6, s7⟩
                          go_simp
                          with_reducible rfl
                        rotate_left
                        · simp only [Act.put, List.setIfInBounds_toArray, List.set_cons_zero, List.set_cons_succ, i64_w, i32_w]
                          rfl
                        refine take_ (i := 5) (N := some 124) (v := ?_) (a' := ?_) #[true, true, true, true, true, true, false, false, false, false, false, false, false, false, false, false, false, false, false, false] rfl rfl (take_ofW HT_.out HW_.out (by kernel_rfl)) (fun _ _ _ h => h) (Or.inl ⟨by rfl, ?_⟩) hHeld ?_ ?_
                        rotate_left
                        · rintro w' ⟨s0, s1, s2, s3, s4, s5, s6, s7⟩
                          go_simp
                          with_reducible rfl
                        rotate_left
                        · simp only [Act.put, List.setIfInBounds_toArray, List.set_cons_zero, List.set_cons_succ, i64_w, i32_w]
                          rfl
                        refine one_ (i := 6) (N := some 125) #[true, true, true, true, true, true, true, false, false, false, false, false, false, false, false, false, false, false, false, false] rfl rfl (one_of HT_.out (by kernel_rfl)) (by decide) (fun K hK => ?_)
                        refine goes_ Try.func16 (by kernel_rfl) rfl #[.agg #[.int .i64 t409, .int .i64 t410], .agg #[.int .i64 t411, .int .i64 t412], .agg #[.int .i64 t405, .int .i64 t406], .agg #[.int .i64 t407, .int .i64 t408]] (by rfl) rfl rfl al ?_
                        with_reducible refine (impl_CrossInner.calls t409 t410 t411 t412 t405 t406 t407 t408 false _ A178.out).mono ?_
                        rintro e w187 ⟨rfl, hb⟩
                        refine ⟨_, rfl, ?_⟩
                        have n0_ := Aside0.mk (blk_below (bf BK413.out) hb)
                        have n1_ := Aside0.mk (blk_below (bf BK414.out) hb)
                        have n2_ := Aside0.mk (blk_below (bf BK415.out) hb)
                        have n3_ := Aside0.mk (blk_below (bf BK416.out) hb)
                        have n4_ := Aside0.mk (blk_below (bf BK422.out) hb)
                        have n5_ := Aside0.mk (blk_below (bf BK426.out) hb)
                        have n6_ := Aside0.mk (blk_below (bf BK427.out) hb)
                        have n7_ := Aside0.mk (below_step (lb HB.out) hb)
                        clear BK413
                        clear BK414
                        clear BK415
                        clear BK416
                        clear BK422
                        clear BK426
                        clear BK427
                        clear HB
                        have BK413 := n0_
                        have BK414 := n1_
                        have BK415 := n2_
                        have BK416 := n3_
                        have BK422 := n4_
                        have BK426 := n5_
                        have BK427 := n6_
                        have HB := n7_
                        clear n0_ n1_ n2_ n3_ n4_ n5_ n6_ n7_
                        (try clear hb)
                        (try clear hb2)
                        (try clear hk)
                        (try clear hi)
                        refine hK.out _ _ ⟨(blk_cell BK415.out 0).trans rfl, (blk_cell BK415.out 1).trans rfl, (blk_cell BK416.out 0).trans rfl, (blk_cell BK416.out 1).trans rfl, (blk_cell BK413.out 0).trans rfl, (blk_cell BK413.out 1).trans rfl, (blk_cell BK414.out 0).trans rfl, (blk_cell BK414.out 1).trans rfl⟩ (fun hHeld => ?_)
                        clear hK K
                        refine norm_ (a' := ?_) ?_ ?_
                        rotate_left
                        · show Act.put _ (some 125) _ = _
                          simp only [Act.put, List.setIfInBounds_toArray, List.set_cons_zero, List.set_cons_succ, i64_w, i32_w]
                          rfl
                        refine pure_ (i := 7) (N := some 126) (v := ?_) (a' := ?_) #[true, true, true, true, true, true, true, true, false, false, false, false, false, false, false, false, false, false, false, false] rfl rfl (any_of HT_.out (by kernel_rfl)) (fun _ _ _ h => h) (Or.inl ⟨by rfl, ?_⟩) ?_ ?_
                        rotate_left
                        · intro w'
                          go_simp
                          with_reducible rfl
                        rotate_left
                        · simp only [Act.put, List.setIfInBounds_toArray, List.set_cons_zero, List.set_cons_succ, i64_w, i32_w]
                          rfl
                        refine pure_ (i := 8) (N := some 127) (v := ?_) (a' := ?_) #[true, true, true, true, true, true, true, true, true, false, false, false, false, false, false, false, false, false, false, false] rfl rfl (any_of HT_.out (by kernel_rfl)) (fun _ _ _ h => h) (Or.inl ⟨by rfl, ?_⟩) ?_ ?_
                        rotate_left
                        · intro w'
                          go_simp
                          with_reducible rfl
                        rotate_left
                        · simp only [Act.put, List.setIfInBounds_toArray, List.set_cons_zero, List.set_cons_succ, i64_w, i32_w]
                          rfl
                        refine pure_ (i := 9) (N := some 128) (v := undef) (a' := ?_) #[true, true, true, true, true, true, true, true, true, true, false, false, false, false, false, false, false, false, false, false] rfl rfl (any_of HT_.out (by kernel_rfl)) (fun _ _ _ h => h) (Or.inr ⟨by rfl, rfl⟩) ?_ ?_
                        rotate_left
                        · simp only [Act.put, List.setIfInBounds_toArray, List.set_cons_zero, List.set_cons_succ, i64_w, i32_w]
                          rfl
                        refine pure_ (i := 10) (N := some 129) (v := undef) (a' := ?_) #[true, true, true, true, true, true, true, true, true, true, true, false, false, false, false, false, false, false, false, false] rfl rfl (any_of HT_.out (by kernel_rfl)) (fun _ _ _ h => h) (Or.inr ⟨by rfl, rfl⟩) ?_ ?_
                        rotate_left
                        · simp only [Act.put, List.setIfInBounds_toArray, List.set_cons_zero, List.set_cons_succ, i64_w, i32_w]
                          rfl
                        refine pure_ (i := 11) (N := some 130) (v := undef) (a' := ?_) #[true, true, true, true, true, true, true, true, true, true, true, true, false, false, false, false, false, false, false, false] rfl rfl (any_of HT_.out (by kernel_rfl)) (fun _ _ _ h => h) (Or.inr ⟨by rfl, rfl⟩) ?_ ?_
                        rotate_left
                        · simp only [Act.put, List.setIfInBounds_toArray, List.set_cons_zero, List.set_cons_succ, i64_w, i32_w]
                          rfl
                        refine pure_ (i := 12) (N := some 131) (v := undef) (a' := ?_) #[true, true, true, true, true, true, true, true, true, true, true, true, true, false, false, false, false, false, false, false] rfl rfl (any_of HT_.out (by kernel_rfl)) (fun _ _ _ h => h) (Or.inr ⟨by rfl, rfl⟩) ?_ ?_
                        rotate_left
                        · simp only [Act.put, List.setIfInBounds_toArray, List.set_cons_zero, List.set_cons_succ, i64_w, i32_w]
                          rfl
                        refine pure_ (i := 13) (N := some 132) (v := undef) (a' := ?_) #[true, true, true, true, true, true, true, true, true, true, true, true, true, true, false, false, false, false, false, false] rfl rfl (any_of HT_.out (by kernel_rfl)) (fun _ _ _ h => h) (Or.inr ⟨by rfl, rfl⟩) ?_ ?_
                        rotate_left
                        · simp only [Act.put, List.setIfInBounds_toArray, List.set_cons_zero, List.set_cons_succ, i64_w, i32_w]
                          rfl
                        refine pure_ (i := 14) (N := some 133) (v := undef) (a' := ?_) #[true, true, true, true, true, true, true, true, true, true, true, true, true, true, true, false, false, false, false, false] rfl rfl (any_of HT_.out (by kernel_rfl)) (fun _ _ _ h => h) (Or.inr ⟨by rfl, rfl⟩) ?_ ?_
                        rotate_left
                        · simp only [Act.put, List.setIfInBounds_toArray, List.set_cons_zero, List.set_cons_succ, i64_w, i32_w]
                          rfl
                        refine pure_ (i := 15) (N := some 134) (v := undef) (a' := ?_) #[true, true, true, true, true, true, true, true, true, true, true, true, true, true, true, true, false, false, false, false] rfl rfl (any_of HT_.out (by kernel_rfl)) (fun _ _ _ h => h) (Or.inr ⟨by rfl, rfl⟩) ?_ ?_
                        rotate_left
                        · simp only [Act.put, List.setIfInBounds_toArray, List.set_cons_zero, List.set_cons_succ, i64_w, i32_w]
                          rfl
                        refine pure_ (i := 16) (N := some 135) (v := undef) (a' := ?_) #[true, true, true, true, true, true, true, true, true, true, true, true, true, true, true, true, true, false, false, false] rfl rfl (any_of HT_.out (by kernel_rfl)) (fun _ _ _ h => h) (Or.inr ⟨by rfl, rfl⟩) ?_ ?_
                        rotate_left
                        · simp only [Act.put, List.setIfInBounds_toArray, List.set_cons_zero, List.set_cons_succ, i64_w, i32_w]
                          rfl
                        refine pure_ (i := 17) (N := some 136) (v := undef) (a' := ?_) #[true, true, true, true, true, true, true, true, true, true, true, true, true, true, true, true, true, true, false, false] rfl rfl (any_of HT_.out (by kernel_rfl)) (fun _ _ _ h => h) (Or.inr ⟨by rfl, rfl⟩) ?_ ?_
                        rotate_left
                        · simp only [Act.put, List.setIfInBounds_toArray, List.set_cons_zero, List.set_cons_succ, i64_w, i32_w]
                          rfl
                        refine pure_ (i := 18) (N := some 137) (v := ?_) (a' := ?_) #[true, true, true, true, true, true, true, true, true, true, true, true, true, true, true, true, true, true, true, false] rfl rfl (any_of HT_.out (by kernel_rfl)) (fun _ _ _ h => h) (Or.inl ⟨by rfl, ?_⟩) ?_ ?_
                        rotate_left
                        · intro w'
                          go_simp
                          with_reducible rfl
                        rotate_left
                        · simp only [Act.put, List.setIfInBounds_toArray, List.set_cons_zero, List.set_cons_succ, i64_w, i32_w]
                          rfl
                        refine pure_ (i := 19) (N := some 2) (v := ?_) (a' := ?_) #[true, true, true, true, true, true, true, true, true, true, true, true, true, true, true, true, true, true, true, true] rfl rfl (any_of HT_.out (by kernel_rfl)) (fun _ _ _ h => h) (Or.inl ⟨by rfl, ?_⟩) ?_ ?_
                        rotate_left
                        · intro w'
                          go_simp
                          with_reducible rfl
                        rotate_left
                        · simp only [Act.put, List.setIfInBounds_toArray, List.set_cons_zero, List.set_cons_succ, i64_w, i32_w]
                          rfl
                        refine done_ (done_of HT_.out (by kernel_rfl)) ?_
                        try go_wp2
                        go_ret
                        exact ⟨er, lb HB.out⟩
                    · replace c177 := Bool.eq_false_iff.mpr c177
                      subst c177
                      have H1 : (some false) = some r := by rw [if_neg (show ¬ (false = true) by decide)] at H; exact H
                      clear H
                      have H := H1
                      clear H1
                      obtain rfl := Option.some.inj H
                      try go_wp2
                      have n0_ := Aside0.mk (blk_drew BK413.out)
                      have n1_ := Aside0.mk (blk_drew BK414.out)
                      have n2_ := Aside0.mk (blk_drew BK415.out)
                      have n3_ := Aside0.mk (blk_drew BK416.out)
                      have n4_ := Aside0.mk (blk_drew BK422.out)
                      have n5_ := Aside0.mk (blk_drew BK426.out)
                      have n6_ := Aside0.mk (blk_drew BK427.out)
                      have n7_ := Aside0.mk (below_drew1 HB.out)
                      clear BK413
                      clear BK414
                      clear BK415
                      clear BK416
                      clear BK422
                      clear BK426
                      clear BK427
                      clear HB
                      have BK413 := n0_
                      have BK414 := n1_
                      have BK415 := n2_
                      have BK416 := n3_
                      have BK422 := n4_
                      have BK426 := n5_
                      have BK427 := n6_
                      have HB := n7_
                      clear n0_ n1_ n2_ n3_ n4_ n5_ n6_ n7_
                      refine start_ (n := 20) (S := fun w' => True) (ds := []) #[false, false, false, false, false, false, false, false, false, false, false, false, false, false, false, false, false, false, false, false] (by kernel_rfl) rfl rfl trivial (fun hHeld => ?_); refine with_tabW laws_FnCrossInner.tab14 laws_FnCrossInner.bits14 (fun HT_ HW_ => ?_)
                      generalize wc.drew = w188 at BK413 BK414 BK415 BK416 BK422 BK426 BK427 HB hHeld ⊢
                      refine pure_ (i := 0) (N := some 119) (v := ?_) (a' := ?_) #[true, false, false, false, false, false, false, false, false, false, false, false, false, false, false, false, false, false, false, false] rfl rfl (any_of HT_.out (by kernel_rfl)) (fun _ _ _ h => h) (Or.inl ⟨by rfl, ?_⟩) ?_ ?_
                      rotate_left
                      · intro w'
                        go_simp
                        with_reducible rfl
                      rotate_left
                      · simp only [Act.put, List.setIfInBounds_toArray, List.set_cons_zero, List.set_cons_succ, i64_w, i32_w]
                        rfl
                      refine pure_ (i := 1) (N := some 120) (v := ?_) (a' := ?_) #[true, true, false, false, false, false, false, false, false, false, false, false, false, false, false, false, false, false, false, false] rfl rfl (any_of HT_.out (by kernel_rfl)) (fun _ _ _ h => h) (Or.inl ⟨by rfl, ?_⟩) ?_ ?_
                      rotate_left
                      · intro w'
                        go_simp
                        with_reducible rfl
                      rotate_left
                      · simp only [Act.put, List.setIfInBounds_toArray, List.set_cons_zero, List.set_cons_succ, i64_w, i32_w]
                        rfl
                      refine pure_ (i := 2) (N := some 121) (v := undef) (a' := ?_) #[true, true, true, false, false, false, false, false, false, false, false, false, false, false, false, false, false, false, false, false] rfl rfl (any_of HT_.out (by kernel_rfl)) (fun _ _ _ h => h) (Or.inr ⟨by rfl, rfl⟩) ?_ ?_
                      rotate_left
                      · simp only [Act.put, List.setIfInBounds_toArray, List.set_cons_zero, List.set_cons_succ, i64_w, i32_w]
                        rfl
                      refine pure_ (i := 3) (N := some 122) (v := undef) (a' := ?_) #[true, true, true, true, false, false, false, false, false, false, false, false, false, false, false, false, false, false, false, false] rfl rfl (any_of HT_.out (by kernel_rfl)) (fun _ _ _ h => h) (Or.inr ⟨by rfl, rfl⟩) ?_ ?_
                      rotate_left
                      · simp only [Act.put, List.setIfInBounds_toArray, List.set_cons_zero, List.set_cons_succ, i64_w, i32_w]
                        rfl
                      refine pure_ (i := 4) (N := some 123) (v := undef) (a' := ?_) #[true, true, true, true, true, false, false, false, false, false, false, false, false, false, false, false, false, false, false, false] rfl rfl (any_of HT_.out (by kernel_rfl)) (fun _ _ _ h => h) (Or.inr ⟨by rfl, rfl⟩) ?_ ?_
                      rotate_left
                      · simp only [Act.put, List.setIfInBounds_toArray, List.set_cons_zero, List.set_cons_succ, i64_w, i32_w]
                        rfl
                      refine pure_ (i := 5) (N := some 124) (v := undef) (a' := ?_) #[true, true, true, true, true, true, false, false, false, false, false, false, false, false, false, false, false, false, false, false] rfl rfl (any_of HT_.out (by kernel_rfl)) (fun _ _ _ h => h) (Or.inr ⟨by rfl, rfl⟩) ?_ ?_
                      rotate_left
                      · simp only [Act.put, List.setIfInBounds_toArray, List.set_cons_zero, List.set_cons_succ, i64_w, i32_w]
                        rfl
                      refine pure_ (i := 6) (N := some 125) (v := undef) (a' := ?_) #[true, true, true, true, true, true, true, false, false, false, false, false, false, false, false, false, false, false, false, false] rfl rfl (any_of HT_.out (by kernel_rfl)) (fun _ _ _ h => h) (Or.inr ⟨by rfl, rfl⟩) ?_ ?_
                      rotate_left
                      · simp only [Act.put, List.setIfInBounds_toArray, List.set_cons_zero, List.set_cons_succ, i64_w, i32_w]
                        rfl
                      refine pure_ (i := 7) (N := some 126) (v := ?_) (a' := ?_) #[true, true, true, true, true, true, true, true, false, false, false, false, false, false, false, false, false, false, false, false] rfl rfl (any_of HT_.out (by kernel_rfl)) (fun _ _ _ h => h) (Or.inl ⟨by rfl, ?_⟩) ?_ ?_
                      rotate_left
                      · intro w'
                        go_simp
                        with_reducible rfl
                      rotate_left
                      · simp only [Act.put, List.setIfInBounds_toArray, List.set_cons_zero, List.set_cons_succ, i64_w, i32_w]
                        rfl
                      refine pure_ (i := 8) (N := some 127) (v := ?_) (a' := ?_) #[true, true, true, true, true, true, true, true, true, false, false, false, false, false, false, false, false, false, false, false] rfl rfl (any_of HT_.out (by kernel_rfl)) (fun _ _ _ h => h) (Or.inl ⟨by rfl, ?_⟩) ?_ ?_
                      rotate_left
                      · intro w'
                        go_simp
                        with_reducible rfl
                      rotate_left
                      · simp only [Act.put, List.setIfInBounds_toArray, List.set_cons_zero, List.set_cons_succ, i64_w, i32_w]
                        rfl
                      refine pure_ (i := 9) (N := some 128) (v := undef) (a' := ?_) #[true, true, true, true, true, true, true, true, true, true, false, false, false, false, false, false, false, false, false, false] rfl rfl (any_of HT_.out (by kernel_rfl)) (fun _ _ _ h => h) (Or.inr ⟨by rfl, rfl⟩) ?_ ?_
                      rotate_left
                      · simp only [Act.put, List.setIfInBounds_toArray, List.set_cons_zero, List.set_cons_succ, i64_w, i32_w]
                        rfl
                      refine pure_ (i := 10) (N := some 129) (v := undef) (a' := ?_) #[true, true, true, true, true, true, true, true, true, true, true, false, false, false, false, false, false, false, false, false] rfl rfl (any_of HT_.out (by kernel_rfl)) (fun _ _ _ h => h) (Or.inr ⟨by rfl, rfl⟩) ?_ ?_
                      rotate_left
                      · simp only [Act.put, List.setIfInBounds_toArray, List.set_cons_zero, List.set_cons_succ, i64_w, i32_w]
                        rfl
                      refine pure_ (i := 11) (N := some 130) (v := undef) (a' := ?_) #[true, true, true, true, true, true, true, true, true, true, true, true, false, false, false, false, false, false, false, false] rfl rfl (any_of HT_.out (by kernel_rfl)) (fun _ _ _ h => h) (Or.inr ⟨by rfl, rfl⟩) ?_ ?_
                      rotate_left
                      · simp only [Act.put, List.setIfInBounds_toArray, List.set_cons_zero, List.set_cons_succ, i64_w, i32_w]
                        rfl
                      refine pure_ (i := 12) (N := some 131) (v := undef) (a' := ?_) #[true, true, true, true, true, true, true, true, true, true, true, true, true, false, false, false, false, false, false, false] rfl rfl (any_of HT_.out (by kernel_rfl)) (fun _ _ _ h => h) (Or.inr ⟨by rfl, rfl⟩) ?_ ?_
                      rotate_left
                      · simp only [Act.put, List.setIfInBounds_toArray, List.set_cons_zero, List.set_cons_succ, i64_w, i32_w]
                        rfl
                      refine pure_ (i := 13) (N := some 132) (v := undef) (a' := ?_) #[true, true, true, true, true, true, true, true, true, true, true, true, true, true, false, false, false, false, false, false] rfl rfl (any_of HT_.out (by kernel_rfl)) (fun _ _ _ h => h) (Or.inr ⟨by rfl, rfl⟩) ?_ ?_
                      rotate_left
                      · simp only [Act.put, List.setIfInBounds_toArray, List.set_cons_zero, List.set_cons_succ, i64_w, i32_w]
                        rfl
                      refine pure_ (i := 14) (N := some 133) (v := undef) (a' := ?_) #[true, true, true, true, true, true, true, true, true, true, true, true, true, true, true, false, false, false, false, false] rfl rfl (any_of HT_.out (by kernel_rfl)) (fun _ _ _ h => h) (Or.inr ⟨by rfl, rfl⟩) ?_ ?_
                      rotate_left
                      · simp only [Act.put, List.setIfInBounds_toArray, List.set_cons_zero, List.set_cons_succ, i64_w, i32_w]
                        rfl
                      refine pure_ (i := 15) (N := some 134) (v := undef) (a' := ?_) #[true, true, true, true, true, true, true, true, true, true, true, true, true, true, true, true, false, false, false, false] rfl rfl (any_of HT_.out (by kernel_rfl)) (fun _ _ _ h => h) (Or.inr ⟨by rfl, rfl⟩) ?_ ?_
                      rotate_left
                      · simp only [Act.put, List.setIfInBounds_toArray, List.set_cons_zero, List.set_cons_succ, i64_w, i32_w]
                        rfl
                      refine pure_ (i := 16) (N := some 135) (v := undef) (a' := ?_) #[true, true, true, true, true, true, true, true, true, true, true, true, true, true, true, true, true, false, false, false] rfl rfl (any_of HT_.out (by kernel_rfl)) (fun _ _ _ h => h) (Or.inr ⟨by rfl, rfl⟩) ?_ ?_
                      rotate_left
                      · simp only [Act.put, List.setIfInBounds_toArray, List.set_cons_zero, List.set_cons_succ, i64_w, i32_w]
                        rfl
                      refine pure_ (i := 17) (N := some 136) (v := undef) (a' := ?_) #[true, true, true, true, true, true, true, true, true, true, true, true, true, true, true, true, true, true, false, false] rfl rfl (any_of HT_.out (by kernel_rfl)) (fun _ _ _ h => h) (Or.inr ⟨by rfl, rfl⟩) ?_ ?_
                      rotate_left
                      · simp only [Act.put, List.setIfInBounds_toArray, List.set_cons_zero, List.set_cons_succ, i64_w, i32_w]
                        rfl
                      refine pure_ (i := 18) (N := some 137) (v := ?_) (a' := ?_) #[true, true, true, true, true, true, true, true, true, true, true, true, true, true, true, true, true, true, true, false] rfl rfl (any_of HT_.out (by kernel_rfl)) (fun _ _ _ h => h) (Or.inl ⟨by rfl, ?_⟩) ?_ ?_
                      rotate_left
                      · intro w'
                        go_simp
                        with_reducible rfl
                      rotate_left
                      · simp only [Act.put, List.setIfInBounds_toArray, List.set_cons_zero, List.set_cons_succ, i64_w, i32_w]
                        rfl
                      refine pure_ (i := 19) (N := some 2) (v := ?_) (a' := ?_) #[true, true, true, true, true, true, true, true, true, true, true, true, true, true, true, true, true, true, true, true] rfl rfl (any_of HT_.out (by kernel_rfl)) (fun _ _ _ h => h) (Or.inl ⟨by rfl, ?_⟩) ?_ ?_
                      rotate_left
                      · intro w'
                        go_simp
                        with_reducible rfl
                      rotate_left
                      · simp only [Act.put, List.setIfInBounds_toArray, List.set_cons_zero, List.set_cons_succ, i64_w, i32_w]
                        rfl
                      refine done_ (done_of HT_.out (by kernel_rfl)) ?_
                      try go_wp2
                      go_ret
                      exact ⟨er, lb HB.out⟩

/-- THE ONE PURE STATEMENT of laws_FnCrossInner: yours. -/
def laws_FnCrossInner.Pure : Prop := ∀ (l0 : List Int), l0.length ≤ maxLen → l0.length * 1 ≤ 140737488351232 → (∀ x ∈ l0, (Lit.int .u8 x).wf = true) → ∃ k, laws_FnCrossInner.f k l0 = some true
theorem laws_FnCrossInner.walk (P : laws_FnCrossInner.Pure) (a0 : Option Addr) (len0 cap0 : Nat) (z0 : List Int) (w : World) (w0 : (a0 = none ∧ len0 = 0 ∧ cap0 = 0 ∧ z0 = []) ∨ ∃ x, a0 = some x ∧ len0 ≤ cap0 ∧ cap0 ≤ maxLen ∧ z0.length = cap0 ∧ (∀ i, i < z0.length → w.cell? (x.add i) = some (.int .u8 (z0.getD i 0))) ∧ ∀ n ∈ z0, (Lit.int .u8 n).wf = true) (y0 : len0 * 1 ≤ 140737488351232) :
    Calls Try.prog 7 #[.slice a0 len0 cap0] w fun e w' => e = .returned (.bool true) ∧ Below w.heap.size w w' := by
  obtain ⟨l0, rfl, hr0, hm0, hw0, hc0⟩ := ReadsInt.ofRowC w0
  obtain ⟨k, h⟩ := P l0 hm0 y0 hw0
  refine (laws_FnCrossInner.calls k _ _ l0 true w (Kd.C_of_reads (d := (0 : Int)) (h1 := fun _ => rfl) hr0) hc0 h).mono ?_
  rintro e w' ⟨rfl, hd⟩
  exact ⟨rfl, hd⟩

end Go.Proofs.Ytgoejfdciejikaa.P

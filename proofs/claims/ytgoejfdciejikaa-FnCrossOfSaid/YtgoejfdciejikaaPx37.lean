-- Written by a program of this session (wip/xprint.py over the print's own program), not by print.sh. Lean checks it.
import Derived.Test.YtgoejfdciejikaaPx0
import Derived.Test.YtgoejfdciejikaaPx2
import Derived.Test.YtgoejfdciejikaaPx19
import Derived.Test.YtgoejfdciejikaaPx21
import Derived.Test.YtgoejfdciejikaaPx25
import Derived.Test.YtgoejfdciejikaaPx28
import Derived.Test.YtgoejfdciejikaaPx34
import Derived.Test.YtgoejfdciejikaaPx35
import Derived.Test.YtgoejfdciejikaaPx36
namespace Go.Proofs.Ytgoejfdciejikaa.P
open Go.RowKit Go.Proofs.YtgoejfdciejikaaW.PrintWords Go.Proofs.YtgoejfdciejikaaW.PrintLast Go.Proofs.YtgoejfdciejikaaW.PrintMore
attribute [local go_sem] max2_int min2_int max_two min_two max_three min_three max_four min_four   -- for this text's walks alone
set_option linter.unusedVariables false
set_option linter.unusedSimpArgs false

attribute [local go_sem high] eqA29
/-! ### laws_FnCrossOf: function 10 -/
mutual
def laws_FnCrossOf.j0 : Nat → Bool → Bool → Bool → Int → Int → Int → Int → Int → Int → Int → Int → Int → Int → Int → Int → Option (Bool)
  | 0, _, _, _, _, _, _, _, _, _, _, _, _, _, _, _ => none
  | k + 1, x8, x10, x59, x575000, x575001, x576000, x576001, x577000, x577001, x578000, x578001, x582000, x582001, x586000, x586001 => if x59 = true then (if (x8 == x10) = true then (some (x582000 == x586000 && (x582001 == x586001))) else (some false)) else ((impl_CrossOf.f k x576000 x576001 x575000 x575001 x577000 x577001 x578000 x578001).bind fun bt586 => ((impl_QuoAdd.f k x582000 x582001 bt586.1 bt586.2.1).bind fun bt590 => (if bt586.2.2 = true then (if bt590.2.2 = true then ((laws_whole.f 1).bind fun bt594 => (laws_FnCrossOf.j1 k (!(bt590.1 == bt594.1) || (!(bt590.2.1 == bt594.2))) x575000 x575001 x576000 x576001 x577000 x577001 x578000 x578001 x582000 x582001)) else (laws_FnCrossOf.j1 k false x575000 x575001 x576000 x576001 x577000 x577001 x578000 x578001 x582000 x582001)) else (laws_FnCrossOf.j1 k false x575000 x575001 x576000 x576001 x577000 x577001 x578000 x578001 x582000 x582001))))
def laws_FnCrossOf.j1 : Nat → Bool → Int → Int → Int → Int → Int → Int → Int → Int → Int → Int → Option (Bool)
  | 0, _, _, _, _, _, _, _, _, _, _, _ => none
  | k + 1, x90, x575000, x575001, x576000, x576001, x577000, x577001, x578000, x578001, x582000, x582001 => if x90 = true then (some false) else ((impl_CrossAt.f k x575000 x575001 x576000 x576001 x577000 x577001 x578000 x578001).bind fun bt596 => ((laws_whole.f (wrap64 (x576000 - x575000))).bind fun bt603 => ((impl_QuoTimes.f k x582000 x582001 bt603.1 bt603.2).bind fun bt605 => ((laws_whole.f x575000).bind fun bt609 => ((impl_QuoAdd.f k bt605.1 bt605.2.1 bt609.1 bt609.2).bind fun bt611 => (if bt596.2.2.2.2 = true then (if bt605.2.2 = true then (if bt611.2.2 = true then (some (bt596.1 == bt611.1 && (bt596.2.1 == bt611.2.1))) else (some true)) else (some true)) else (some true)))))))
end
def laws_FnCrossOf.f (k : Nat) (l0 : List Int) : Option (Bool) := if (l0.length : Int) > 1048576 then (some true) else ((spec_DrawCrossOf.f k l0).bind fun bt566 => ((impl_CrossOf.f k bt566.1 bt566.2.1 bt566.2.2.1 bt566.2.2.2.1 bt566.2.2.2.2.1 bt566.2.2.2.2.2.1 bt566.2.2.2.2.2.2.1 bt566.2.2.2.2.2.2.2).bind fun bt578 => ((spec_CrossOf.f k bt566.1 bt566.2.1 bt566.2.2.1 bt566.2.2.2.1 bt566.2.2.2.2.1 bt566.2.2.2.2.2.1 bt566.2.2.2.2.2.2.1 bt566.2.2.2.2.2.2.2).bind fun bt582 => (if (bt578.2.2 != bt582.2.2) = true then (laws_FnCrossOf.j0 k bt578.2.2 bt582.2.2 true bt566.1 bt566.2.1 bt566.2.2.1 bt566.2.2.2.1 bt566.2.2.2.2.1 bt566.2.2.2.2.2.1 bt566.2.2.2.2.2.2.1 bt566.2.2.2.2.2.2.2 bt578.1 bt578.2.1 bt582.1 bt582.2.1) else (if (!(bt578.1 == bt582.1) || (!(bt578.2.1 == bt582.2.1))) = true then (laws_FnCrossOf.j0 k bt578.2.2 bt582.2.2 true bt566.1 bt566.2.1 bt566.2.2.1 bt566.2.2.2.1 bt566.2.2.2.2.1 bt566.2.2.2.2.2.1 bt566.2.2.2.2.2.2.1 bt566.2.2.2.2.2.2.2 bt578.1 bt578.2.1 bt582.1 bt582.2.1) else (laws_FnCrossOf.j0 k bt578.2.2 bt582.2.2 (!bt578.2.2) bt566.1 bt566.2.1 bt566.2.2.1 bt566.2.2.2.1 bt566.2.2.2.2.1 bt566.2.2.2.2.2.1 bt566.2.2.2.2.2.2.1 bt566.2.2.2.2.2.2.2 bt578.1 bt578.2.1 bt582.1 bt582.2.1))))))
theorem laws_FnCrossOf.mono_l : ∀ k, (∀ y0 y1 y2 y3 y4 y5 y6 y7 y8 y9 y10 y11 y12 y13 y14, LeO (laws_FnCrossOf.j0 k y0 y1 y2 y3 y4 y5 y6 y7 y8 y9 y10 y11 y12 y13 y14) (laws_FnCrossOf.j0 (k + 1) y0 y1 y2 y3 y4 y5 y6 y7 y8 y9 y10 y11 y12 y13 y14)) ∧ (∀ y0 y1 y2 y3 y4 y5 y6 y7 y8 y9 y10, LeO (laws_FnCrossOf.j1 k y0 y1 y2 y3 y4 y5 y6 y7 y8 y9 y10) (laws_FnCrossOf.j1 (k + 1) y0 y1 y2 y3 y4 y5 y6 y7 y8 y9 y10))
  | 0 => ⟨fun _ _ _ _ _ _ _ _ _ _ _ _ _ _ _ r h => by simp [laws_FnCrossOf.j0] at h, fun _ _ _ _ _ _ _ _ _ _ _ r h => by simp [laws_FnCrossOf.j1] at h⟩
  | k + 1 => by
    obtain ⟨ih0, ih1⟩ := laws_FnCrossOf.mono_l k
    refine ⟨?_, ?_⟩
    · intro y0 y1 y2 y3 y4 y5 y6 y7 y8 y9 y10 y11 y12 y13 y14
      unfold laws_FnCrossOf.j0
      repeat' first
      | (with_reducible exact ih0 _ _ _ _ _ _ _ _ _ _ _ _ _ _ _)
      | (with_reducible exact ih1 _ _ _ _ _ _ _ _ _ _ _)
      | (with_reducible exact impl_CrossAt.mono _ _ _ _ _ _ _ _ _)
      | (with_reducible exact impl_CrossOf.mono _ _ _ _ _ _ _ _ _)
      | (with_reducible exact impl_QuoAdd.mono _ _ _ _ _)
      | (with_reducible exact impl_QuoTimes.mono _ _ _ _ _)
      | (with_reducible exact spec_CrossOf.mono _ _ _ _ _ _ _ _ _)
      | (with_reducible exact spec_DrawCrossOf.mono _ _)
      | (with_reducible exact LeO.refl _)
      | (with_reducible exact LeO.none _)
      | (with_reducible refine LeO.ite ?_ ?_)
      | (with_reducible refine LeO.bind ?_ (fun _ => ?_))
      | exact ih0 _ _ _ _ _ _ _ _ _ _ _ _ _ _ _
      | exact ih1 _ _ _ _ _ _ _ _ _ _ _
      | exact impl_CrossAt.mono _ _ _ _ _ _ _ _ _
      | exact impl_CrossOf.mono _ _ _ _ _ _ _ _ _
      | exact impl_QuoAdd.mono _ _ _ _ _
      | exact impl_QuoTimes.mono _ _ _ _ _
      | exact spec_CrossOf.mono _ _ _ _ _ _ _ _ _
      | exact spec_DrawCrossOf.mono _ _
      | exact LeO.none _
      | refine LeO.ite ?_ ?_
      | refine LeO.bind ?_ (fun _ => ?_)
    · intro y0 y1 y2 y3 y4 y5 y6 y7 y8 y9 y10
      unfold laws_FnCrossOf.j1
      repeat' first
      | (with_reducible exact ih0 _ _ _ _ _ _ _ _ _ _ _ _ _ _ _)
      | (with_reducible exact ih1 _ _ _ _ _ _ _ _ _ _ _)
      | (with_reducible exact impl_CrossAt.mono _ _ _ _ _ _ _ _ _)
      | (with_reducible exact impl_CrossOf.mono _ _ _ _ _ _ _ _ _)
      | (with_reducible exact impl_QuoAdd.mono _ _ _ _ _)
      | (with_reducible exact impl_QuoTimes.mono _ _ _ _ _)
      | (with_reducible exact spec_CrossOf.mono _ _ _ _ _ _ _ _ _)
      | (with_reducible exact spec_DrawCrossOf.mono _ _)
      | (with_reducible exact LeO.refl _)
      | (with_reducible exact LeO.none _)
      | (with_reducible refine LeO.ite ?_ ?_)
      | (with_reducible refine LeO.bind ?_ (fun _ => ?_))
      | exact ih0 _ _ _ _ _ _ _ _ _ _ _ _ _ _ _
      | exact ih1 _ _ _ _ _ _ _ _ _ _ _
      | exact impl_CrossAt.mono _ _ _ _ _ _ _ _ _
      | exact impl_CrossOf.mono _ _ _ _ _ _ _ _ _
      | exact impl_QuoAdd.mono _ _ _ _ _
      | exact impl_QuoTimes.mono _ _ _ _ _
      | exact spec_CrossOf.mono _ _ _ _ _ _ _ _ _
      | exact spec_DrawCrossOf.mono _ _
      | exact LeO.none _
      | refine LeO.ite ?_ ?_
      | refine LeO.bind ?_ (fun _ => ?_)
theorem laws_FnCrossOf.mono : ∀ a0 k, LeO (laws_FnCrossOf.f k a0) (laws_FnCrossOf.f (k + 1) a0) := by
  intro a0 k
  obtain ⟨ih0, ih1⟩ := laws_FnCrossOf.mono_l k
  unfold laws_FnCrossOf.f
  repeat' first
      | (with_reducible exact ih0 _ _ _ _ _ _ _ _ _ _ _ _ _ _ _)
      | (with_reducible exact ih1 _ _ _ _ _ _ _ _ _ _ _)
      | (with_reducible exact impl_CrossAt.mono _ _ _ _ _ _ _ _ _)
      | (with_reducible exact impl_CrossOf.mono _ _ _ _ _ _ _ _ _)
      | (with_reducible exact impl_QuoAdd.mono _ _ _ _ _)
      | (with_reducible exact impl_QuoTimes.mono _ _ _ _ _)
      | (with_reducible exact spec_CrossOf.mono _ _ _ _ _ _ _ _ _)
      | (with_reducible exact spec_DrawCrossOf.mono _ _)
      | (with_reducible exact LeO.refl _)
      | (with_reducible exact LeO.none _)
      | (with_reducible refine LeO.ite ?_ ?_)
      | (with_reducible refine LeO.bind ?_ (fun _ => ?_))
      | exact ih0 _ _ _ _ _ _ _ _ _ _ _ _ _ _ _
      | exact ih1 _ _ _ _ _ _ _ _ _ _ _
      | exact impl_CrossAt.mono _ _ _ _ _ _ _ _ _
      | exact impl_CrossOf.mono _ _ _ _ _ _ _ _ _
      | exact impl_QuoAdd.mono _ _ _ _ _
      | exact impl_QuoTimes.mono _ _ _ _ _
      | exact spec_CrossOf.mono _ _ _ _ _ _ _ _ _
      | exact spec_DrawCrossOf.mono _ _
      | exact LeO.none _
      | refine LeO.ite ?_ ?_
      | refine LeO.bind ?_ (fun _ => ?_)
def laws_FnCrossOf.T10 : Bool × List (List Nat × List Nat) := (true, [([], []), ([0], [0]), ([1], [1]), ([1, 2], [1, 2]), ([3, 1], [3]), ([4], [4]), ([4, 4], [4]), ([5, 6, 4], [4, 5, 6]), ([4, 7], [4, 7])])
def laws_FnCrossOf.B10 : List Nat := [0, 1, 3, 7, 15, 31, 31, 127, 255]
theorem laws_FnCrossOf.tab10 : rtab .any (opsOf Try.f10 10) = laws_FnCrossOf.T10 := by kernel_rfl
theorem laws_FnCrossOf.bits10 : waitsOk laws_FnCrossOf.T10.2 laws_FnCrossOf.B10 = true := by kernel_rfl
def laws_FnCrossOf.T13 : Bool × List (List Nat × List Nat) := (true, [([], []), ([], []), ([1], [1]), ([], []), ([3], [3]), ([2, 4], [2, 4]), ([5], [5]), ([0, 6, 6], [0, 6]), ([7], [7]), ([8], [8]), ([8], [8]), ([], []), ([11, 9, 7, 0, 1, 2, 3, 4, 5, 6, 7, 8, 9, 11], [9, 11]), ([10, 12, 0, 1, 2, 3, 4, 5, 6, 7, 8, 9, 10, 11, 12], [10])])
def laws_FnCrossOf.B13 : List Nat := [0, 0, 2, 0, 8, 30, 62, 127, 255, 511, 511, 0, 3071, 8191]
theorem laws_FnCrossOf.tab13 : rtab .any (opsOf Try.f10 13) = laws_FnCrossOf.T13 := by kernel_rfl
theorem laws_FnCrossOf.bits13 : waitsOk laws_FnCrossOf.T13.2 laws_FnCrossOf.B13 = true := by kernel_rfl
def laws_FnCrossOf.T14 : Bool × List (List Nat × List Nat) := (true, [([], []), ([], []), ([1], [1]), ([2], [2]), ([0, 3, 3], [0, 3]), ([4], [4]), ([5], [5]), ([5], [5]), ([], []), ([8, 6, 4, 0, 1, 2, 3, 4, 5, 6, 8], [6, 8]), ([7, 9, 0, 1, 2, 3, 4, 5, 6, 7, 8, 9], [7])])
def laws_FnCrossOf.B14 : List Nat := [0, 0, 2, 6, 15, 31, 63, 63, 0, 383, 1023]
theorem laws_FnCrossOf.tab14 : rtab .any (opsOf Try.f10 14) = laws_FnCrossOf.T14 := by kernel_rfl
theorem laws_FnCrossOf.bits14 : waitsOk laws_FnCrossOf.T14.2 laws_FnCrossOf.B14 = true := by kernel_rfl
set_option maxHeartbeats 8000000 in
set_option maxRecDepth 100000 in
theorem laws_FnCrossOf.calls (k : Nat) (A0 : Option Addr) (c0 : Nat) (l0 : List Int) (r : Bool) (w : World) (hr0 : Kd.C (Kd.int .u8) w A0 l0.length l0) (hc0 : l0.length ≤ c0) (h : laws_FnCrossOf.f k l0 = some r) :
    Calls Try.prog 10 #[.slice A0 l0.length c0] w fun e w' => e = .returned (.bool r) ∧ Below w.heap.size w w' := by
  have hu25 := Try.underlying25
  have hu29 := Try.underlying29
  have HR0 := Aside0.mk hr0
  have HC0 := Aside0.mk hc0
  clear hr0 hc0
  have HB := Aside0.mk (Below.refl w.heap.size w)
  have H : (if (l0.length : Int) > 1048576 then (some true) else ((spec_DrawCrossOf.f k l0).bind fun bt566 => ((impl_CrossOf.f k bt566.1 bt566.2.1 bt566.2.2.1 bt566.2.2.2.1 bt566.2.2.2.2.1 bt566.2.2.2.2.2.1 bt566.2.2.2.2.2.2.1 bt566.2.2.2.2.2.2.2).bind fun bt578 => ((spec_CrossOf.f k bt566.1 bt566.2.1 bt566.2.2.1 bt566.2.2.2.1 bt566.2.2.2.2.1 bt566.2.2.2.2.2.1 bt566.2.2.2.2.2.2.1 bt566.2.2.2.2.2.2.2).bind fun bt582 => (if (bt578.2.2 != bt582.2.2) = true then (laws_FnCrossOf.j0 k bt578.2.2 bt582.2.2 true bt566.1 bt566.2.1 bt566.2.2.1 bt566.2.2.2.1 bt566.2.2.2.2.1 bt566.2.2.2.2.2.1 bt566.2.2.2.2.2.2.1 bt566.2.2.2.2.2.2.2 bt578.1 bt578.2.1 bt582.1 bt582.2.1) else (if (!(bt578.1 == bt582.1) || (!(bt578.2.1 == bt582.2.1))) = true then (laws_FnCrossOf.j0 k bt578.2.2 bt582.2.2 true bt566.1 bt566.2.1 bt566.2.2.1 bt566.2.2.2.1 bt566.2.2.2.2.1 bt566.2.2.2.2.2.1 bt566.2.2.2.2.2.2.1 bt566.2.2.2.2.2.2.2 bt578.1 bt578.2.1 bt582.1 bt582.2.1) else (laws_FnCrossOf.j0 k bt578.2.2 bt582.2.2 (!bt578.2.2) bt566.1 bt566.2.1 bt566.2.2.1 bt566.2.2.2.1 bt566.2.2.2.2.1 bt566.2.2.2.2.2.1 bt566.2.2.2.2.2.2.1 bt566.2.2.2.2.2.2.2 bt578.1 bt578.2.1 bt582.1 bt582.2.1))))))) = some r := h
  clear h
  by_cases c2 : (l0.length : Int) > 1048576
  · rw [if_pos c2] at H
    have c2b0 : decide (1048576 < (l0.length : Int)) = true := decide_eq_true c2
    have c2b1 : decide (1048576 < l0.length) = true := decide_eq_true (by omega)
    clear c2
    obtain rfl := Option.some.inj H
    go_enter Try.func10, Try.ntmps10
    go_wp2
    go_ret
    exact ⟨er, lb HB.out⟩
  · rw [if_neg c2] at H
    have c2b0 : decide (1048576 < (l0.length : Int)) = false := decide_eq_false c2
    have c2b1 : decide (1048576 < l0.length) = false := decide_eq_false (by omega)
    clear c2
    replace H := Option.bind_eq_some_iff.mp H
    obtain ⟨⟨t566, t567, t568, t569, t570, t571, t572, t573⟩, A30, H⟩ := H
    replace H : ((impl_CrossOf.f k t566 t567 t568 t569 t570 t571 t572 t573).bind fun bt578 => ((spec_CrossOf.f k t566 t567 t568 t569 t570 t571 t572 t573).bind fun bt582 => (if (bt578.2.2 != bt582.2.2) = true then (laws_FnCrossOf.j0 k bt578.2.2 bt582.2.2 true t566 t567 t568 t569 t570 t571 t572 t573 bt578.1 bt578.2.1 bt582.1 bt582.2.1) else (if (!(bt578.1 == bt582.1) || (!(bt578.2.1 == bt582.2.1))) = true then (laws_FnCrossOf.j0 k bt578.2.2 bt582.2.2 true t566 t567 t568 t569 t570 t571 t572 t573 bt578.1 bt578.2.1 bt582.1 bt582.2.1) else (laws_FnCrossOf.j0 k bt578.2.2 bt582.2.2 (!bt578.2.2) t566 t567 t568 t569 t570 t571 t572 t573 bt578.1 bt578.2.1 bt582.1 bt582.2.1))))) = some r := H
    have A3 := Aside0.mk A30
    clear A30
    replace H := Option.bind_eq_some_iff.mp H
    obtain ⟨⟨t578, t579, t580⟩, A40, H⟩ := H
    replace H : ((spec_CrossOf.f k t566 t567 t568 t569 t570 t571 t572 t573).bind fun bt582 => (if (t580 != bt582.2.2) = true then (laws_FnCrossOf.j0 k t580 bt582.2.2 true t566 t567 t568 t569 t570 t571 t572 t573 t578 t579 bt582.1 bt582.2.1) else (if (!(t578 == bt582.1) || (!(t579 == bt582.2.1))) = true then (laws_FnCrossOf.j0 k t580 bt582.2.2 true t566 t567 t568 t569 t570 t571 t572 t573 t578 t579 bt582.1 bt582.2.1) else (laws_FnCrossOf.j0 k t580 bt582.2.2 (!t580) t566 t567 t568 t569 t570 t571 t572 t573 t578 t579 bt582.1 bt582.2.1)))) = some r := H
    have A4 := Aside0.mk A40
    clear A40
    replace H := Option.bind_eq_some_iff.mp H
    obtain ⟨⟨t582, t583, t584⟩, A50, H⟩ := H
    replace H : (if (t580 != t584) = true then (laws_FnCrossOf.j0 k t580 t584 true t566 t567 t568 t569 t570 t571 t572 t573 t578 t579 t582 t583) else (if (!(t578 == t582) || (!(t579 == t583))) = true then (laws_FnCrossOf.j0 k t580 t584 true t566 t567 t568 t569 t570 t571 t572 t573 t578 t579 t582 t583) else (laws_FnCrossOf.j0 k t580 t584 (!t580) t566 t567 t568 t569 t570 t571 t572 t573 t578 t579 t582 t583))) = some r := H
    have A5 := Aside0.mk A50
    clear A50
    have HC6 := Aside0.mk H
    clear H
    go_enter Try.func10, Try.ntmps10
    go_upto_region 6 with (first | ((with_reducible refine gate_callee (f := 28) rfl ?_); refine goesL_ (some 27) rfl rfl Try.func28 (by kernel_rfl) rfl #[.slice A0 l0.length c0] rfl al ?_; (with_reducible refine (spec_DrawCrossOf.calls k _ _ l0 t566 t567 t568 t569 t570 t571 t572 t573 _ ?side1 ?side2 A3.out).mono ?_); (case side1 => repeat (first | exact HR0.out | (with_reducible refine Kd.C_alloc ?_ _) | (with_reducible refine Kd.C_drewN ?_ _) | (with_reducible refine Kd.C_drew ?_))); (case side2 => exact HC0.out); rintro e w7 ⟨rfl, hb⟩; refine ⟨_, rfl, ?_⟩; have n0_ := Aside0.mk (below_step (lb HB.out) hb); clear HB; have HB := n0_; clear n0_; (try clear hb); (try clear hb2); (try clear hk); (try clear hi)) | ((with_reducible refine gate_dst (N := 3) rfl ?_); refine box_event ?hg (N := 3) ?hd (cs := #[.int .i64 0, .int .i64 0]) (t := 25) ?hr ?_; (case hd => rfl); (case hg => rfl); (case hr => first | (go_simp; done) | (go_simp; rfl)); intro gb574 hg w8 hbox hb; have n0_ := Aside0.mk (below_step (lb HB.out) hb); have n1_ := Aside0.mk (hbox); have n2_ := Aside0.mk ((by rw [hg]; exact (below_size (lb HB.out)) : w.heap.size ≤ gb574)); have n3_ := Aside0.mk ((by rw [hg]; exact (below_size (lb HB.out)) : w.heap.size ≤ gb574)); clear HB; have HB := n0_; have BK574 := n1_; have GW574 := n2_; have GE574 := n3_; clear n0_ n1_ n2_ n3_; clear hb hbox hg) | ((with_reducible refine gate_dst (N := 4) rfl ?_); refine box_event ?hg (N := 4) ?hd (cs := #[.int .i64 0, .int .i64 0]) (t := 25) ?hr ?_; (case hd => rfl); (case hg => rfl); (case hr => first | (go_simp; done) | (go_simp; rfl)); intro gb575 hg w9 hbox hb; have n0_ := Aside0.mk (blk_below (bf BK574.out) hb); have n1_ := Aside0.mk (below_step (lb HB.out) hb); have n2_ := Aside0.mk (hbox); have n3_ := Aside0.mk ((by rw [hg]; exact (below_size (lb HB.out)) : w.heap.size ≤ gb575)); have n4_ := Aside0.mk ((by rw [hg]; exact (below_size (lb HB.out)) : w.heap.size ≤ gb575)); have n5_ := Aside0.mk ((by rw [hg]; exact Nat.ne_of_lt (blk_lt (bf BK574.out)) : gb574 ≠ gb575)); have n6_ := Aside0.mk ((by rw [hg]; exact Nat.ne_of_gt (blk_lt (bf BK574.out)) : gb575 ≠ gb574)); clear BK574; clear HB; have BK574 := n0_; have HB := n1_; have BK575 := n2_; have GW575 := n3_; have GE575 := n4_; have NB574_575 := n5_; have NB575_574 := n6_; clear n0_ n1_ n2_ n3_ n4_ n5_ n6_; clear hb hbox hg) | ((with_reducible refine gate_dst (N := 5) rfl ?_); refine box_event ?hg (N := 5) ?hd (cs := #[.int .i64 0, .int .i64 0]) (t := 25) ?hr ?_; (case hd => rfl); (case hg => rfl); (case hr => first | (go_simp; done) | (go_simp; rfl)); intro gb576 hg w10 hbox hb; have n0_ := Aside0.mk (blk_below (bf BK574.out) hb); have n1_ := Aside0.mk (blk_below (bf BK575.out) hb); have n2_ := Aside0.mk (below_step (lb HB.out) hb); have n3_ := Aside0.mk (hbox); have n4_ := Aside0.mk ((by rw [hg]; exact (below_size (lb HB.out)) : w.heap.size ≤ gb576)); have n5_ := Aside0.mk ((by rw [hg]; exact (below_size (lb HB.out)) : w.heap.size ≤ gb576)); have n6_ := Aside0.mk ((by rw [hg]; exact Nat.ne_of_lt (blk_lt (bf BK574.out)) : gb574 ≠ gb576)); have n7_ := Aside0.mk ((by rw [hg]; exact Nat.ne_of_gt (blk_lt (bf BK574.out)) : gb576 ≠ gb574)); have n8_ := Aside0.mk ((by rw [hg]; exact Nat.ne_of_lt (blk_lt (bf BK575.out)) : gb575 ≠ gb576)); have n9_ := Aside0.mk ((by rw [hg]; exact Nat.ne_of_gt (blk_lt (bf BK575.out)) : gb576 ≠ gb575)); clear BK574; clear BK575; clear HB; have BK574 := n0_; have BK575 := n1_; have HB := n2_; have BK576 := n3_; have GW576 := n4_; have GE576 := n5_; have NB574_576 := n6_; have NB576_574 := n7_; have NB575_576 := n8_; have NB576_575 := n9_; clear n0_ n1_ n2_ n3_ n4_ n5_ n6_ n7_ n8_ n9_; clear hb hbox hg) | ((with_reducible refine gate_dst (N := 6) rfl ?_); refine box_event ?hg (N := 6) ?hd (cs := #[.int .i64 0, .int .i64 0]) (t := 25) ?hr ?_; (case hd => rfl); (case hg => rfl); (case hr => first | (go_simp; done) | (go_simp; rfl)); intro gb577 hg w11 hbox hb; have n0_ := Aside0.mk (blk_below (bf BK574.out) hb); have n1_ := Aside0.mk (blk_below (bf BK575.out) hb); have n2_ := Aside0.mk (blk_below (bf BK576.out) hb); have n3_ := Aside0.mk (below_step (lb HB.out) hb); have n4_ := Aside0.mk (hbox); have n5_ := Aside0.mk ((by rw [hg]; exact (below_size (lb HB.out)) : w.heap.size ≤ gb577)); have n6_ := Aside0.mk ((by rw [hg]; exact (below_size (lb HB.out)) : w.heap.size ≤ gb577)); have n7_ := Aside0.mk ((by rw [hg]; exact Nat.ne_of_lt (blk_lt (bf BK574.out)) : gb574 ≠ gb577)); have n8_ := Aside0.mk ((by rw [hg]; exact Nat.ne_of_gt (blk_lt (bf BK574.out)) : gb577 ≠ gb574)); have n9_ := Aside0.mk ((by rw [hg]; exact Nat.ne_of_lt (blk_lt (bf BK575.out)) : gb575 ≠ gb577)); have n10_ := Aside0.mk ((by rw [hg]; exact Nat.ne_of_gt (blk_lt (bf BK575.out)) : gb577 ≠ gb575)); have n11_ := Aside0.mk ((by rw [hg]; exact Nat.ne_of_lt (blk_lt (bf BK576.out)) : gb576 ≠ gb577)); have n12_ := Aside0.mk ((by rw [hg]; exact Nat.ne_of_gt (blk_lt (bf BK576.out)) : gb577 ≠ gb576)); clear BK574; clear BK575; clear BK576; clear HB; have BK574 := n0_; have BK575 := n1_; have BK576 := n2_; have HB := n3_; have BK577 := n4_; have GW577 := n5_; have GE577 := n6_; have NB574_577 := n7_; have NB577_574 := n8_; have NB575_577 := n9_; have NB577_575 := n10_; have NB576_577 := n11_; have NB577_576 := n12_; clear n0_ n1_ n2_ n3_ n4_ n5_ n6_ n7_ n8_ n9_ n10_ n11_ n12_; clear hb hbox hg; have hnb12 := NB574_575.out; have hnc12 := NB575_574.out; have hnb13 := NB574_576.out; have hnc13 := NB576_574.out; have hnb14 := NB574_577.out; have hnc14 := NB577_574.out; have hcz15_0 : w11.cell? ⟨gb574, 0, none⟩ = some (.int .i64 0) := (blk_cell BK574.out 0).trans rfl; have hcz15_1 : w11.cell? ⟨gb574, 1, none⟩ = some (.int .i64 0) := (blk_cell BK574.out 1).trans rfl; have hfz15_0 := blk_frozen BK574.out 0; have hfz15_1 := blk_frozen BK574.out 1; have hnb16 := NB575_576.out; have hnc16 := NB576_575.out; have hnb17 := NB575_577.out; have hnc17 := NB577_575.out; have hcz18_0 : w11.cell? ⟨gb575, 0, none⟩ = some (.int .i64 0) := (blk_cell BK575.out 0).trans rfl; have hcz18_1 : w11.cell? ⟨gb575, 1, none⟩ = some (.int .i64 0) := (blk_cell BK575.out 1).trans rfl; have hfz18_0 := blk_frozen BK575.out 0; have hfz18_1 := blk_frozen BK575.out 1; have hnb19 := NB576_577.out; have hnc19 := NB577_576.out; have hcz20_0 : w11.cell? ⟨gb576, 0, none⟩ = some (.int .i64 0) := (blk_cell BK576.out 0).trans rfl; have hcz20_1 : w11.cell? ⟨gb576, 1, none⟩ = some (.int .i64 0) := (blk_cell BK576.out 1).trans rfl; have hfz20_0 := blk_frozen BK576.out 0; have hfz20_1 := blk_frozen BK576.out 1; have hcz21_0 : w11.cell? ⟨gb577, 0, none⟩ = some (.int .i64 0) := (blk_cell BK577.out 0).trans rfl; have hcz21_1 : w11.cell? ⟨gb577, 1, none⟩ = some (.int .i64 0) := (blk_cell BK577.out 1).trans rfl; have hfz21_0 := blk_frozen BK577.out 0; have hfz21_1 := blk_frozen BK577.out 1) | ((with_reducible refine gate_callee (f := 18) rfl ?_); refine goesL_ (some 37) rfl rfl Try.func18 (by kernel_rfl) rfl #[.agg #[.int .i64 t566, .int .i64 t567], .agg #[.int .i64 t568, .int .i64 t569], .agg #[.int .i64 t570, .int .i64 t571], .agg #[.int .i64 t572, .int .i64 t573]] rfl al ?_; (with_reducible refine (impl_CrossOf.calls k t566 t567 t568 t569 t570 t571 t572 t573 t578 t579 t580 _ A4.out).mono ?_); rintro e w22 ⟨rfl, hb⟩; refine ⟨_, rfl, ?_⟩; have n0_ := Aside0.mk (blk_below (g := gb574) (o := .cells #[.int .i64 t566, .int .i64 t567] 25 (0, 0)) (by (with_reducible repeat (first | refine blk_drewN ?_ _ | refine blk_drew ?_ | refine blk_alloc ?_ _)); refine blk_far ?_ NB574_577.out _; (with_reducible repeat (first | refine blk_drewN ?_ _ | refine blk_drew ?_ | refine blk_alloc ?_ _)); refine blk_far ?_ NB574_577.out _; (with_reducible repeat (first | refine blk_drewN ?_ _ | refine blk_drew ?_ | refine blk_alloc ?_ _)); refine blk_far ?_ NB574_576.out _; (with_reducible repeat (first | refine blk_drewN ?_ _ | refine blk_drew ?_ | refine blk_alloc ?_ _)); refine blk_far ?_ NB574_576.out _; (with_reducible repeat (first | refine blk_drewN ?_ _ | refine blk_drew ?_ | refine blk_alloc ?_ _)); refine blk_far ?_ NB574_575.out _; (with_reducible repeat (first | refine blk_drewN ?_ _ | refine blk_drew ?_ | refine blk_alloc ?_ _)); refine blk_far ?_ NB574_575.out _; (with_reducible repeat (first | refine blk_drewN ?_ _ | refine blk_drew ?_ | refine blk_alloc ?_ _)); refine blk_put (cs := #[.int .i64 t566, .int .i64 0]) ?_ 1 _ rfl; (with_reducible repeat (first | refine blk_drewN ?_ _ | refine blk_drew ?_ | refine blk_alloc ?_ _)); refine blk_put (cs := #[.int .i64 0, .int .i64 0]) ?_ 0 _ rfl; (with_reducible repeat (first | refine blk_drewN ?_ _ | refine blk_drew ?_ | refine blk_alloc ?_ _)); exact BK574.out) hb); have n1_ := Aside0.mk (blk_below (g := gb575) (o := .cells #[.int .i64 t568, .int .i64 t569] 25 (0, 0)) (by (with_reducible repeat (first | refine blk_drewN ?_ _ | refine blk_drew ?_ | refine blk_alloc ?_ _)); refine blk_far ?_ NB575_577.out _; (with_reducible repeat (first | refine blk_drewN ?_ _ | refine blk_drew ?_ | refine blk_alloc ?_ _)); refine blk_far ?_ NB575_577.out _; (with_reducible repeat (first | refine blk_drewN ?_ _ | refine blk_drew ?_ | refine blk_alloc ?_ _)); refine blk_far ?_ NB575_576.out _; (with_reducible repeat (first | refine blk_drewN ?_ _ | refine blk_drew ?_ | refine blk_alloc ?_ _)); refine blk_far ?_ NB575_576.out _; (with_reducible repeat (first | refine blk_drewN ?_ _ | refine blk_drew ?_ | refine blk_alloc ?_ _)); refine blk_put (cs := #[.int .i64 t568, .int .i64 0]) ?_ 1 _ rfl; (with_reducible repeat (first | refine blk_drewN ?_ _ | refine blk_drew ?_ | refine blk_alloc ?_ _)); refine blk_put (cs := #[.int .i64 0, .int .i64 0]) ?_ 0 _ rfl; (with_reducible repeat (first | refine blk_drewN ?_ _ | refine blk_drew ?_ | refine blk_alloc ?_ _)); refine blk_far ?_ NB575_574.out _; (with_reducible repeat (first | refine blk_drewN ?_ _ | refine blk_drew ?_ | refine blk_alloc ?_ _)); refine blk_far ?_ NB575_574.out _; (with_reducible repeat (first | refine blk_drewN ?_ _ | refine blk_drew ?_ | refine blk_alloc ?_ _)); exact BK575.out) hb); have n2_ := Aside0.mk (blk_below (g := gb576) (o := .cells #[.int .i64 t570, .int .i64 t571] 25 (0, 0)) (by (with_reducible repeat (first | refine blk_drewN ?_ _ | refine blk_drew ?_ | refine blk_alloc ?_ _)); refine blk_far ?_ NB576_577.out _; (with_reducible repeat (first | refine blk_drewN ?_ _ | refine blk_drew ?_ | refine blk_alloc ?_ _)); refine blk_far ?_ NB576_577.out _; (with_reducible repeat (first | refine blk_drewN ?_ _ | refine blk_drew ?_ | refine blk_alloc ?_ _)); refine blk_put (cs := #[.int .i64 t570, .int .i64 0]) ?_ 1 _ rfl; (with_reducible repeat (first | refine blk_drewN ?_ _ | refine blk_drew ?_ | refine blk_alloc ?_ _)); refine blk_put (cs := #[.int .i64 0, .int .i64 0]) ?_ 0 _ rfl; (with_reducible repeat (first | refine blk_drewN ?_ _ | refine blk_drew ?_ | refine blk_alloc ?_ _)); refine blk_far ?_ NB576_575.out _; (with_reducible repeat (first | refine blk_drewN ?_ _ | refine blk_drew ?_ | refine blk_alloc ?_ _)); refine blk_far ?_ NB576_575.out _; (with_reducible repeat (first | refine blk_drewN ?_ _ | refine blk_drew ?_ | refine blk_alloc ?_ _)); refine blk_far ?_ NB576_574.out _; (with_reducible repeat (first | refine blk_drewN ?_ _ | refine blk_drew ?_ | refine blk_alloc ?_ _)); refine blk_far ?_ NB576_574.out _; (with_reducible repeat (first | refine blk_drewN ?_ _ | refine blk_drew ?_ | refine blk_alloc ?_ _)); exact BK576.out) hb); have n3_ := Aside0.mk (blk_below (g := gb577) (o := .cells #[.int .i64 t572, .int .i64 t573] 25 (0, 0)) (by (with_reducible repeat (first | refine blk_drewN ?_ _ | refine blk_drew ?_ | refine blk_alloc ?_ _)); refine blk_put (cs := #[.int .i64 t572, .int .i64 0]) ?_ 1 _ rfl; (with_reducible repeat (first | refine blk_drewN ?_ _ | refine blk_drew ?_ | refine blk_alloc ?_ _)); refine blk_put (cs := #[.int .i64 0, .int .i64 0]) ?_ 0 _ rfl; (with_reducible repeat (first | refine blk_drewN ?_ _ | refine blk_drew ?_ | refine blk_alloc ?_ _)); refine blk_far ?_ NB577_576.out _; (with_reducible repeat (first | refine blk_drewN ?_ _ | refine blk_drew ?_ | refine blk_alloc ?_ _)); refine blk_far ?_ NB577_576.out _; (with_reducible repeat (first | refine blk_drewN ?_ _ | refine blk_drew ?_ | refine blk_alloc ?_ _)); refine blk_far ?_ NB577_575.out _; (with_reducible repeat (first | refine blk_drewN ?_ _ | refine blk_drew ?_ | refine blk_alloc ?_ _)); refine blk_far ?_ NB577_575.out _; (with_reducible repeat (first | refine blk_drewN ?_ _ | refine blk_drew ?_ | refine blk_alloc ?_ _)); refine blk_far ?_ NB577_574.out _; (with_reducible repeat (first | refine blk_drewN ?_ _ | refine blk_drew ?_ | refine blk_alloc ?_ _)); refine blk_far ?_ NB577_574.out _; (with_reducible repeat (first | refine blk_drewN ?_ _ | refine blk_drew ?_ | refine blk_alloc ?_ _)); exact BK577.out) hb); have n4_ := Aside0.mk (below_step (lb HB.out) hb); clear BK574; clear BK575; clear BK576; clear BK577; clear HB; have BK574 := n0_; have BK575 := n1_; have BK576 := n2_; have BK577 := n3_; have HB := n4_; clear n0_ n1_ n2_ n3_ n4_; (try clear hb); (try clear hb2); (try clear hk); (try clear hi)) | ((with_reducible refine gate_dst (N := 7) rfl ?_); refine box_event ?hg (N := 7) ?hd (cs := #[.int .i64 0, .int .i64 0]) (t := 29) ?hr ?_; (case hd => rfl); (case hg => rfl); (case hr => first | (go_simp; done) | (go_simp; rfl)); intro gb581 hg w23 hbox hb; have n0_ := Aside0.mk (blk_below (bf BK574.out) hb); have n1_ := Aside0.mk (blk_below (bf BK575.out) hb); have n2_ := Aside0.mk (blk_below (bf BK576.out) hb); have n3_ := Aside0.mk (blk_below (bf BK577.out) hb); have n4_ := Aside0.mk (below_step (lb HB.out) hb); have n5_ := Aside0.mk (hbox); have n6_ := Aside0.mk ((by rw [hg]; exact (below_size (lb HB.out)) : w.heap.size ≤ gb581)); have n7_ := Aside0.mk ((by rw [hg]; exact (below_size (lb HB.out)) : w.heap.size ≤ gb581)); have n8_ := Aside0.mk ((by rw [hg]; exact Nat.ne_of_lt (blk_lt (bf BK574.out)) : gb574 ≠ gb581)); have n9_ := Aside0.mk ((by rw [hg]; exact Nat.ne_of_gt (blk_lt (bf BK574.out)) : gb581 ≠ gb574)); have n10_ := Aside0.mk ((by rw [hg]; exact Nat.ne_of_lt (blk_lt (bf BK575.out)) : gb575 ≠ gb581)); have n11_ := Aside0.mk ((by rw [hg]; exact Nat.ne_of_gt (blk_lt (bf BK575.out)) : gb581 ≠ gb575)); have n12_ := Aside0.mk ((by rw [hg]; exact Nat.ne_of_lt (blk_lt (bf BK576.out)) : gb576 ≠ gb581)); have n13_ := Aside0.mk ((by rw [hg]; exact Nat.ne_of_gt (blk_lt (bf BK576.out)) : gb581 ≠ gb576)); have n14_ := Aside0.mk ((by rw [hg]; exact Nat.ne_of_lt (blk_lt (bf BK577.out)) : gb577 ≠ gb581)); have n15_ := Aside0.mk ((by rw [hg]; exact Nat.ne_of_gt (blk_lt (bf BK577.out)) : gb581 ≠ gb577)); clear BK574; clear BK575; clear BK576; clear BK577; clear HB; have BK574 := n0_; have BK575 := n1_; have BK576 := n2_; have BK577 := n3_; have HB := n4_; have BK581 := n5_; have GW581 := n6_; have GE581 := n7_; have NB574_581 := n8_; have NB581_574 := n9_; have NB575_581 := n10_; have NB581_575 := n11_; have NB576_581 := n12_; have NB581_576 := n13_; have NB577_581 := n14_; have NB581_577 := n15_; clear n0_ n1_ n2_ n3_ n4_ n5_ n6_ n7_ n8_ n9_ n10_ n11_ n12_ n13_ n14_ n15_; clear hb hbox hg; have hnb24 := NB581_574.out; have hnc24 := NB574_581.out; have hnb25 := NB581_575.out; have hnc25 := NB575_581.out; have hnb26 := NB581_576.out; have hnc26 := NB576_581.out; have hnb27 := NB581_577.out; have hnc27 := NB577_581.out; have hcz28_0 : w23.cell? ⟨gb581, 0, none⟩ = some (.int .i64 0) := (blk_cell BK581.out 0).trans rfl; have hcz28_1 : w23.cell? ⟨gb581, 1, none⟩ = some (.int .i64 0) := (blk_cell BK581.out 1).trans rfl; have hfz28_0 := blk_frozen BK581.out 0; have hfz28_1 := blk_frozen BK581.out 1; have hcz29_0 : w23.cell? ⟨gb574, 0, none⟩ = some (.int .i64 t566) := (blk_cell BK574.out 0).trans rfl; have hcz29_1 : w23.cell? ⟨gb574, 1, none⟩ = some (.int .i64 t567) := (blk_cell BK574.out 1).trans rfl; have hfz29_0 := blk_frozen BK574.out 0; have hfz29_1 := blk_frozen BK574.out 1; have hcz30_0 : w23.cell? ⟨gb575, 0, none⟩ = some (.int .i64 t568) := (blk_cell BK575.out 0).trans rfl; have hcz30_1 : w23.cell? ⟨gb575, 1, none⟩ = some (.int .i64 t569) := (blk_cell BK575.out 1).trans rfl; have hfz30_0 := blk_frozen BK575.out 0; have hfz30_1 := blk_frozen BK575.out 1; have hcz31_0 : w23.cell? ⟨gb576, 0, none⟩ = some (.int .i64 t570) := (blk_cell BK576.out 0).trans rfl; have hcz31_1 : w23.cell? ⟨gb576, 1, none⟩ = some (.int .i64 t571) := (blk_cell BK576.out 1).trans rfl; have hfz31_0 := blk_frozen BK576.out 0; have hfz31_1 := blk_frozen BK576.out 1; have hcz32_0 : w23.cell? ⟨gb577, 0, none⟩ = some (.int .i64 t572) := (blk_cell BK577.out 0).trans rfl; have hcz32_1 : w23.cell? ⟨gb577, 1, none⟩ = some (.int .i64 t573) := (blk_cell BK577.out 1).trans rfl; have hfz32_0 := blk_frozen BK577.out 0; have hfz32_1 := blk_frozen BK577.out 1) | ((with_reducible refine gate_callee (f := 17) rfl ?_); refine goesL_ (some 45) rfl rfl Try.func17 (by kernel_rfl) rfl #[.agg #[.int .i64 t566, .int .i64 t567], .agg #[.int .i64 t568, .int .i64 t569], .agg #[.int .i64 t570, .int .i64 t571], .agg #[.int .i64 t572, .int .i64 t573]] rfl al ?_; (with_reducible refine (spec_CrossOf.calls k t566 t567 t568 t569 t570 t571 t572 t573 t582 t583 t584 _ A5.out).mono ?_); rintro e w33 ⟨rfl, hb⟩; refine ⟨_, rfl, ?_⟩; have n0_ := Aside0.mk (blk_below (bf BK574.out) hb); have n1_ := Aside0.mk (blk_below (bf BK575.out) hb); have n2_ := Aside0.mk (blk_below (bf BK576.out) hb); have n3_ := Aside0.mk (blk_below (bf BK577.out) hb); have n4_ := Aside0.mk (blk_below (g := gb581) (o := .cells #[.int .i64 t578, .int .i64 t579] 29 (0, 0)) (by (with_reducible repeat (first | refine blk_drewN ?_ _ | refine blk_drew ?_ | refine blk_alloc ?_ _)); refine blk_put (cs := #[.int .i64 t578, .int .i64 0]) ?_ 1 _ rfl; (with_reducible repeat (first | refine blk_drewN ?_ _ | refine blk_drew ?_ | refine blk_alloc ?_ _)); refine blk_put (cs := #[.int .i64 0, .int .i64 0]) ?_ 0 _ rfl; (with_reducible repeat (first | refine blk_drewN ?_ _ | refine blk_drew ?_ | refine blk_alloc ?_ _)); exact BK581.out) hb); have n5_ := Aside0.mk (below_step (lb HB.out) hb); clear BK574; clear BK575; clear BK576; clear BK577; clear BK581; clear HB; have BK574 := n0_; have BK575 := n1_; have BK576 := n2_; have BK577 := n3_; have BK581 := n4_; have HB := n5_; clear n0_ n1_ n2_ n3_ n4_ n5_; (try clear hb); (try clear hb2); (try clear hk); (try clear hi)) | ((with_reducible refine gate_dst (N := 9) rfl ?_); refine box_event ?hg (N := 9) ?hd (cs := #[.int .i64 0, .int .i64 0]) (t := 29) ?hr ?_; (case hd => rfl); (case hg => rfl); (case hr => first | (go_simp; done) | (go_simp; rfl)); intro gb585 hg w34 hbox hb; have n0_ := Aside0.mk (blk_below (bf BK574.out) hb); have n1_ := Aside0.mk (blk_below (bf BK575.out) hb); have n2_ := Aside0.mk (blk_below (bf BK576.out) hb); have n3_ := Aside0.mk (blk_below (bf BK577.out) hb); have n4_ := Aside0.mk (blk_below (bf BK581.out) hb); have n5_ := Aside0.mk (below_step (lb HB.out) hb); have n6_ := Aside0.mk (hbox); have n7_ := Aside0.mk ((by rw [hg]; exact (below_size (lb HB.out)) : w.heap.size ≤ gb585)); have n8_ := Aside0.mk ((by rw [hg]; exact (below_size (lb HB.out)) : w.heap.size ≤ gb585)); have n9_ := Aside0.mk ((by rw [hg]; exact Nat.ne_of_lt (blk_lt (bf BK574.out)) : gb574 ≠ gb585)); have n10_ := Aside0.mk ((by rw [hg]; exact Nat.ne_of_gt (blk_lt (bf BK574.out)) : gb585 ≠ gb574)); have n11_ := Aside0.mk ((by rw [hg]; exact Nat.ne_of_lt (blk_lt (bf BK575.out)) : gb575 ≠ gb585)); have n12_ := Aside0.mk ((by rw [hg]; exact Nat.ne_of_gt (blk_lt (bf BK575.out)) : gb585 ≠ gb575)); have n13_ := Aside0.mk ((by rw [hg]; exact Nat.ne_of_lt (blk_lt (bf BK576.out)) : gb576 ≠ gb585)); have n14_ := Aside0.mk ((by rw [hg]; exact Nat.ne_of_gt (blk_lt (bf BK576.out)) : gb585 ≠ gb576)); have n15_ := Aside0.mk ((by rw [hg]; exact Nat.ne_of_lt (blk_lt (bf BK577.out)) : gb577 ≠ gb585)); have n16_ := Aside0.mk ((by rw [hg]; exact Nat.ne_of_gt (blk_lt (bf BK577.out)) : gb585 ≠ gb577)); have n17_ := Aside0.mk ((by rw [hg]; exact Nat.ne_of_lt (blk_lt (bf BK581.out)) : gb581 ≠ gb585)); have n18_ := Aside0.mk ((by rw [hg]; exact Nat.ne_of_gt (blk_lt (bf BK581.out)) : gb585 ≠ gb581)); clear BK574; clear BK575; clear BK576; clear BK577; clear BK581; clear HB; have BK574 := n0_; have BK575 := n1_; have BK576 := n2_; have BK577 := n3_; have BK581 := n4_; have HB := n5_; have BK585 := n6_; have GW585 := n7_; have GE585 := n8_; have NB574_585 := n9_; have NB585_574 := n10_; have NB575_585 := n11_; have NB585_575 := n12_; have NB576_585 := n13_; have NB585_576 := n14_; have NB577_585 := n15_; have NB585_577 := n16_; have NB581_585 := n17_; have NB585_581 := n18_; clear n0_ n1_ n2_ n3_ n4_ n5_ n6_ n7_ n8_ n9_ n10_ n11_ n12_ n13_ n14_ n15_ n16_ n17_ n18_; clear hb hbox hg; have hnb35 := NB585_574.out; have hnc35 := NB574_585.out; have hnb36 := NB585_575.out; have hnc36 := NB575_585.out; have hnb37 := NB585_576.out; have hnc37 := NB576_585.out; have hnb38 := NB585_577.out; have hnc38 := NB577_585.out; have hnb39 := NB585_581.out; have hnc39 := NB581_585.out; have hcz40_0 : w34.cell? ⟨gb585, 0, none⟩ = some (.int .i64 0) := (blk_cell BK585.out 0).trans rfl; have hcz40_1 : w34.cell? ⟨gb585, 1, none⟩ = some (.int .i64 0) := (blk_cell BK585.out 1).trans rfl; have hfz40_0 := blk_frozen BK585.out 0; have hfz40_1 := blk_frozen BK585.out 1))
    (try simp only [Act.put, List.setIfInBounds_toArray, List.set_cons_zero, List.set_cons_succ])
    go_cut [59] (fun v59 wc => ∃ (kq : Nat) (x59_5 : Bool), v59 = .bool x59_5 ∧ Aside0 (laws_FnCrossOf.j0 kq t580 t584 x59_5 t566 t567 t568 t569 t570 t571 t572 t573 t578 t579 t582 t583 = some r) ∧ Aside0 (kq ≤ k) ∧ Aside0 (wc.heap[gb574]? = some (.cells #[.int .i64 t566, .int .i64 t567] 25 (0, 0))) ∧ Aside0 (wc.heap[gb575]? = some (.cells #[.int .i64 t568, .int .i64 t569] 25 (0, 0))) ∧ Aside0 (wc.heap[gb576]? = some (.cells #[.int .i64 t570, .int .i64 t571] 25 (0, 0))) ∧ Aside0 (wc.heap[gb577]? = some (.cells #[.int .i64 t572, .int .i64 t573] 25 (0, 0))) ∧ Aside0 (wc.heap[gb581]? = some (.cells #[.int .i64 t578, .int .i64 t579] 29 (0, 0))) ∧ Aside0 (wc.heap[gb585]? = some (.cells #[.int .i64 t582, .int .i64 t583] 29 (0, 0))) ∧ Aside0 (Below w.heap.size w wc))
    case first =>
      have H := HC6.out
      clear HC6
      by_cases c41 : (t580 != t584) = true
      · rw [if_pos c41] at H
        have c41b0 : (t580 != t584) = true := c41
        (try (have c41b1 : decide (t580 = t584) = false := by simpa using c41))
        (try (have c41b2 : (t580 == t584) = false := by simpa using c41))
        (try (have c41b3 : ¬ (t580 = t584) := by simpa using c41))
        clear c41
        (first | rw [c41b0] | (simp only [i64_w, i32_w]; rw [c41b0]) | skip)
        have H' := Aside0.mk H
        clear H
        go_wp2
        go_meet
        case rel => exact ⟨_, (true), (by first | rfl | (simp; done) | (simp [*]; done)), H', ⟨by first | omega | exact Nat.le_refl _⟩, ⟨by (with_reducible repeat (first | refine blk_drewN ?_ _ | refine blk_drew ?_ | refine blk_alloc ?_ _)); refine blk_far ?_ NB574_585.out _; (with_reducible repeat (first | refine blk_drewN ?_ _ | refine blk_drew ?_ | refine blk_alloc ?_ _)); refine blk_far ?_ NB574_585.out _; (with_reducible repeat (first | refine blk_drewN ?_ _ | refine blk_drew ?_ | refine blk_alloc ?_ _)); exact BK574.out⟩, ⟨by (with_reducible repeat (first | refine blk_drewN ?_ _ | refine blk_drew ?_ | refine blk_alloc ?_ _)); refine blk_far ?_ NB575_585.out _; (with_reducible repeat (first | refine blk_drewN ?_ _ | refine blk_drew ?_ | refine blk_alloc ?_ _)); refine blk_far ?_ NB575_585.out _; (with_reducible repeat (first | refine blk_drewN ?_ _ | refine blk_drew ?_ | refine blk_alloc ?_ _)); exact BK575.out⟩, ⟨by (with_reducible repeat (first | refine blk_drewN ?_ _ | refine blk_drew ?_ | refine blk_alloc ?_ _)); refine blk_far ?_ NB576_585.out _; (with_reducible repeat (first | refine blk_drewN ?_ _ | refine blk_drew ?_ | refine blk_alloc ?_ _)); refine blk_far ?_ NB576_585.out _; (with_reducible repeat (first | refine blk_drewN ?_ _ | refine blk_drew ?_ | refine blk_alloc ?_ _)); exact BK576.out⟩, ⟨by (with_reducible repeat (first | refine blk_drewN ?_ _ | refine blk_drew ?_ | refine blk_alloc ?_ _)); refine blk_far ?_ NB577_585.out _; (with_reducible repeat (first | refine blk_drewN ?_ _ | refine blk_drew ?_ | refine blk_alloc ?_ _)); refine blk_far ?_ NB577_585.out _; (with_reducible repeat (first | refine blk_drewN ?_ _ | refine blk_drew ?_ | refine blk_alloc ?_ _)); exact BK577.out⟩, ⟨by (with_reducible repeat (first | refine blk_drewN ?_ _ | refine blk_drew ?_ | refine blk_alloc ?_ _)); refine blk_far ?_ NB581_585.out _; (with_reducible repeat (first | refine blk_drewN ?_ _ | refine blk_drew ?_ | refine blk_alloc ?_ _)); refine blk_far ?_ NB581_585.out _; (with_reducible repeat (first | refine blk_drewN ?_ _ | refine blk_drew ?_ | refine blk_alloc ?_ _)); exact BK581.out⟩, ⟨by (with_reducible repeat (first | refine blk_drewN ?_ _ | refine blk_drew ?_ | refine blk_alloc ?_ _)); refine blk_put (cs := #[.int .i64 t582, .int .i64 0]) ?_ 1 _ rfl; (with_reducible repeat (first | refine blk_drewN ?_ _ | refine blk_drew ?_ | refine blk_alloc ?_ _)); refine blk_put (cs := #[.int .i64 0, .int .i64 0]) ?_ 0 _ rfl; (with_reducible repeat (first | refine blk_drewN ?_ _ | refine blk_drew ?_ | refine blk_alloc ?_ _)); exact BK585.out⟩, ⟨lb HB.out⟩⟩
      · rw [if_neg c41] at H
        have c41b0 : (t580 != t584) = false := by simpa using c41
        (try (have c41b1 : decide (t580 = t584) = true := by simpa using c41))
        (try (have c41b2 : (t580 == t584) = true := by simpa using c41))
        clear c41
        (first | rw [c41b0] | (simp only [i64_w, i32_w]; rw [c41b0]) | skip)
        by_cases c42 : (!(t578 == t582) || (!(t579 == t583))) = true
        · rw [if_pos c42] at H
          have c42b0 : (!(t578 == t582) || (!(t579 == t583))) = true := c42
          clear c42
          have H' := Aside0.mk H
          clear H
          have hnb43 := NB581_574.out
          have hnc43 := NB574_581.out
          have hnb44 := NB581_575.out
          have hnc44 := NB575_581.out
          have hnb45 := NB581_576.out
          have hnc45 := NB576_581.out
          have hnb46 := NB581_577.out
          have hnc46 := NB577_581.out
          have hnb47 := NB581_585.out
          have hnc47 := NB585_581.out
          have hcz48_0 : w34.cell? ⟨gb581, 0, none⟩ = some (.int .i64 t578) := (blk_cell BK581.out 0).trans rfl
          have hcz48_1 : w34.cell? ⟨gb581, 1, none⟩ = some (.int .i64 t579) := (blk_cell BK581.out 1).trans rfl
          have hfz48_0 := blk_frozen BK581.out 0
          have hfz48_1 := blk_frozen BK581.out 1
          have hnb49 := NB585_574.out
          have hnc49 := NB574_585.out
          have hnb50 := NB585_575.out
          have hnc50 := NB575_585.out
          have hnb51 := NB585_576.out
          have hnc51 := NB576_585.out
          have hnb52 := NB585_577.out
          have hnc52 := NB577_585.out
          have hcz53_0 : w34.cell? ⟨gb585, 0, none⟩ = some (.int .i64 0) := (blk_cell BK585.out 0).trans rfl
          have hcz53_1 : w34.cell? ⟨gb585, 1, none⟩ = some (.int .i64 0) := (blk_cell BK585.out 1).trans rfl
          have hfz53_0 := blk_frozen BK585.out 0
          have hfz53_1 := blk_frozen BK585.out 1
          go_wp2
          go_meet
          case rel => exact ⟨_, (true), (by first | rfl | (simp; done) | (simp [*]; done)), H', ⟨by first | omega | exact Nat.le_refl _⟩, ⟨by (with_reducible repeat (first | refine blk_drewN ?_ _ | refine blk_drew ?_ | refine blk_alloc ?_ _)); refine blk_far ?_ NB574_585.out _; (with_reducible repeat (first | refine blk_drewN ?_ _ | refine blk_drew ?_ | refine blk_alloc ?_ _)); refine blk_far ?_ NB574_585.out _; (with_reducible repeat (first | refine blk_drewN ?_ _ | refine blk_drew ?_ | refine blk_alloc ?_ _)); exact BK574.out⟩, ⟨by (with_reducible repeat (first | refine blk_drewN ?_ _ | refine blk_drew ?_ | refine blk_alloc ?_ _)); refine blk_far ?_ NB575_585.out _; (with_reducible repeat (first | refine blk_drewN ?_ _ | refine blk_drew ?_ | refine blk_alloc ?_ _)); refine blk_far ?_ NB575_585.out _; (with_reducible repeat (first | refine blk_drewN ?_ _ | refine blk_drew ?_ | refine blk_alloc ?_ _)); exact BK575.out⟩, ⟨by (with_reducible repeat (first | refine blk_drewN ?_ _ | refine blk_drew ?_ | refine blk_alloc ?_ _)); refine blk_far ?_ NB576_585.out _; (with_reducible repeat (first | refine blk_drewN ?_ _ | refine blk_drew ?_ | refine blk_alloc ?_ _)); refine blk_far ?_ NB576_585.out _; (with_reducible repeat (first | refine blk_drewN ?_ _ | refine blk_drew ?_ | refine blk_alloc ?_ _)); exact BK576.out⟩, ⟨by (with_reducible repeat (first | refine blk_drewN ?_ _ | refine blk_drew ?_ | refine blk_alloc ?_ _)); refine blk_far ?_ NB577_585.out _; (with_reducible repeat (first | refine blk_drewN ?_ _ | refine blk_drew ?_ | refine blk_alloc ?_ _)); refine blk_far ?_ NB577_585.out _; (with_reducible repeat (first | refine blk_drewN ?_ _ | refine blk_drew ?_ | refine blk_alloc ?_ _)); exact BK577.out⟩, ⟨by (with_reducible repeat (first | refine blk_drewN ?_ _ | refine blk_drew ?_ | refine blk_alloc ?_ _)); refine blk_far ?_ NB581_585.out _; (with_reducible repeat (first | refine blk_drewN ?_ _ | refine blk_drew ?_ | refine blk_alloc ?_ _)); refine blk_far ?_ NB581_585.out _; (with_reducible repeat (first | refine blk_drewN ?_ _ | refine blk_drew ?_ | refine blk_alloc ?_ _)); exact BK581.out⟩, ⟨by (with_reducible repeat (first | refine blk_drewN ?_ _ | refine blk_drew ?_ | refine blk_alloc ?_ _)); refine blk_put (cs := #[.int .i64 t582, .int .i64 0]) ?_ 1 _ rfl; (with_reducible repeat (first | refine blk_drewN ?_ _ | refine blk_drew ?_ | refine blk_alloc ?_ _)); refine blk_put (cs := #[.int .i64 0, .int .i64 0]) ?_ 0 _ rfl; (with_reducible repeat (first | refine blk_drewN ?_ _ | refine blk_drew ?_ | refine blk_alloc ?_ _)); exact BK585.out⟩, ⟨lb HB.out⟩⟩
        · rw [if_neg c42] at H
          have c42b0 : (!(t578 == t582) || (!(t579 == t583))) = false := by simpa using c42
          clear c42
          have H' := Aside0.mk H
          clear H
          have hnb54 := NB581_574.out
          have hnc54 := NB574_581.out
          have hnb55 := NB581_575.out
          have hnc55 := NB575_581.out
          have hnb56 := NB581_576.out
          have hnc56 := NB576_581.out
          have hnb57 := NB581_577.out
          have hnc57 := NB577_581.out
          have hnb58 := NB581_585.out
          have hnc58 := NB585_581.out
          have hcz59_0 : w34.cell? ⟨gb581, 0, none⟩ = some (.int .i64 t578) := (blk_cell BK581.out 0).trans rfl
          have hcz59_1 : w34.cell? ⟨gb581, 1, none⟩ = some (.int .i64 t579) := (blk_cell BK581.out 1).trans rfl
          have hfz59_0 := blk_frozen BK581.out 0
          have hfz59_1 := blk_frozen BK581.out 1
          have hnb60 := NB585_574.out
          have hnc60 := NB574_585.out
          have hnb61 := NB585_575.out
          have hnc61 := NB575_585.out
          have hnb62 := NB585_576.out
          have hnc62 := NB576_585.out
          have hnb63 := NB585_577.out
          have hnc63 := NB577_585.out
          have hcz64_0 : w34.cell? ⟨gb585, 0, none⟩ = some (.int .i64 0) := (blk_cell BK585.out 0).trans rfl
          have hcz64_1 : w34.cell? ⟨gb585, 1, none⟩ = some (.int .i64 0) := (blk_cell BK585.out 1).trans rfl
          have hfz64_0 := blk_frozen BK585.out 0
          have hfz64_1 := blk_frozen BK585.out 1
          go_wp2
          go_meet
          case rel => exact ⟨_, (!t580), (by first | rfl | (simp; done) | (simp [*]; done)), H', ⟨by first | omega | exact Nat.le_refl _⟩, ⟨by (with_reducible repeat (first | refine blk_drewN ?_ _ | refine blk_drew ?_ | refine blk_alloc ?_ _)); refine blk_far ?_ NB574_585.out _; (with_reducible repeat (first | refine blk_drewN ?_ _ | refine blk_drew ?_ | refine blk_alloc ?_ _)); refine blk_far ?_ NB574_585.out _; (with_reducible repeat (first | refine blk_drewN ?_ _ | refine blk_drew ?_ | refine blk_alloc ?_ _)); exact BK574.out⟩, ⟨by (with_reducible repeat (first | refine blk_drewN ?_ _ | refine blk_drew ?_ | refine blk_alloc ?_ _)); refine blk_far ?_ NB575_585.out _; (with_reducible repeat (first | refine blk_drewN ?_ _ | refine blk_drew ?_ | refine blk_alloc ?_ _)); refine blk_far ?_ NB575_585.out _; (with_reducible repeat (first | refine blk_drewN ?_ _ | refine blk_drew ?_ | refine blk_alloc ?_ _)); exact BK575.out⟩, ⟨by (with_reducible repeat (first | refine blk_drewN ?_ _ | refine blk_drew ?_ | refine blk_alloc ?_ _)); refine blk_far ?_ NB576_585.out _; (with_reducible repeat (first | refine blk_drewN ?_ _ | refine blk_drew ?_ | refine blk_alloc ?_ _)); refine blk_far ?_ NB576_585.out _; (with_reducible repeat (first | refine blk_drewN ?_ _ | refine blk_drew ?_ | refine blk_alloc ?_ _)); exact BK576.out⟩, ⟨by (with_reducible repeat (first | refine blk_drewN ?_ _ | refine blk_drew ?_ | refine blk_alloc ?_ _)); refine blk_far ?_ NB577_585.out _; (with_reducible repeat (first | refine blk_drewN ?_ _ | refine blk_drew ?_ | refine blk_alloc ?_ _)); refine blk_far ?_ NB577_585.out _; (with_reducible repeat (first | refine blk_drewN ?_ _ | refine blk_drew ?_ | refine blk_alloc ?_ _)); exact BK577.out⟩, ⟨by (with_reducible repeat (first | refine blk_drewN ?_ _ | refine blk_drew ?_ | refine blk_alloc ?_ _)); refine blk_far ?_ NB581_585.out _; (with_reducible repeat (first | refine blk_drewN ?_ _ | refine blk_drew ?_ | refine blk_alloc ?_ _)); refine blk_far ?_ NB581_585.out _; (with_reducible repeat (first | refine blk_drewN ?_ _ | refine blk_drew ?_ | refine blk_alloc ?_ _)); exact BK581.out⟩, ⟨by (with_reducible repeat (first | refine blk_drewN ?_ _ | refine blk_drew ?_ | refine blk_alloc ?_ _)); refine blk_put (cs := #[.int .i64 t582, .int .i64 0]) ?_ 1 _ rfl; (with_reducible repeat (first | refine blk_drewN ?_ _ | refine blk_drew ?_ | refine blk_alloc ?_ _)); refine blk_put (cs := #[.int .i64 0, .int .i64 0]) ?_ 0 _ rfl; (with_reducible repeat (first | refine blk_drewN ?_ _ | refine blk_drew ?_ | refine blk_alloc ?_ _)); exact BK585.out⟩, ⟨lb HB.out⟩⟩
    case rest =>
      clear HC6
      try clear c1
      try clear c2
      try clear c2b0
      try clear c2b1
      try clear p2
      try clear c3
      try clear c4
      try clear c5
      try clear c6
      try clear c10
      try clear c12
      try clear c13
      try clear c14
      try clear c16
      try clear c17
      try clear c18
      try clear c19
      try clear c24
      try clear c25
      try clear c26
      try clear c27
      try clear c28
      try clear c35
      try clear c36
      try clear c37
      try clear c38
      try clear c39
      try clear c41
      try clear c41b0
      try clear c41b1
      try clear c41b2
      try clear c42
      try clear c42b0
      try clear c43
      try clear c44
      try clear c45
      try clear c46
      try clear c47
      try clear c49
      try clear c50
      try clear c51
      try clear c52
      try clear c54
      try clear c55
      try clear c56
      try clear c57
      try clear c58
      try clear c60
      try clear c61
      try clear c62
      try clear c63
      try clear hcz15_0
      try clear hcz15_1
      try clear hcz18_0
      try clear hcz18_1
      try clear hcz20_0
      try clear hcz20_1
      try clear hcz21_0
      try clear hcz21_1
      try clear hcz28_0
      try clear hcz28_1
      try clear hcz29_0
      try clear hcz29_1
      try clear hcz30_0
      try clear hcz30_1
      try clear hcz31_0
      try clear hcz31_1
      try clear hcz32_0
      try clear hcz32_1
      try clear hcz40_0
      try clear hcz40_1
      try clear hcz48_0
      try clear hcz48_1
      try clear hcz53_0
      try clear hcz53_1
      try clear hcz59_0
      try clear hcz59_1
      try clear hcz64_0
      try clear hcz64_1
      try clear hfz15_0
      try clear hfz15_1
      try clear hfz18_0
      try clear hfz18_1
      try clear hfz20_0
      try clear hfz20_1
      try clear hfz21_0
      try clear hfz21_1
      try clear hfz28_0
      try clear hfz28_1
      try clear hfz29_0
      try clear hfz29_1
      try clear hfz30_0
      try clear hfz30_1
      try clear hfz31_0
      try clear hfz31_1
      try clear hfz32_0
      try clear hfz32_1
      try clear hfz40_0
      try clear hfz40_1
      try clear hfz48_0
      try clear hfz48_1
      try clear hfz53_0
      try clear hfz53_1
      try clear hfz59_0
      try clear hfz59_1
      try clear hfz64_0
      try clear hfz64_1
      obtain ⟨kq, x59_5, rfl, HA, HJ5, BK574, BK575, BK576, BK577, BK581, BK585, HB⟩ := hcut
      cases kq with
      | zero => exact absurd HA.out (by simp [laws_FnCrossOf.j0])
      | succ kj5 =>
        have H := HA.out
        clear HA
        simp only [laws_FnCrossOf.j0] at H
        by_cases c65 : x59_5 = true
        · subst c65
          have H1 : (if (t580 == t584) = true then (some (t578 == t582 && (t579 == t583))) else (some false)) = some r := by rw [if_pos rfl] at H; exact H
          clear H
          have H := H1
          clear H1
          by_cases c66 : (t580 == t584) = true
          · rw [if_pos c66] at H
            have c66b0 : (t580 == t584) = true := c66
            (try (have c66b1 : decide (t580 = t584) = true := by simpa using c66))
            (try (have c66b2 : (t580 == t584) = true := by simpa using c66))
            clear c66
            obtain rfl := Option.some.inj H
            have hnb67 := NB581_574.out
            have hnc67 := NB574_581.out
            have hnb68 := NB581_575.out
            have hnc68 := NB575_581.out
            have hnb69 := NB581_576.out
            have hnc69 := NB576_581.out
            have hnb70 := NB581_577.out
            have hnc70 := NB577_581.out
            have hnb71 := NB581_585.out
            have hnc71 := NB585_581.out
            have hcz72_0 : wc.cell? ⟨gb581, 0, none⟩ = some (.int .i64 t578) := (blk_cell BK581.out 0).trans rfl
            have hcz72_1 : wc.cell? ⟨gb581, 1, none⟩ = some (.int .i64 t579) := (blk_cell BK581.out 1).trans rfl
            have hfz72_0 := blk_frozen BK581.out 0
            have hfz72_1 := blk_frozen BK581.out 1
            have hnb73 := NB585_574.out
            have hnc73 := NB574_585.out
            have hnb74 := NB585_575.out
            have hnc74 := NB575_585.out
            have hnb75 := NB585_576.out
            have hnc75 := NB576_585.out
            have hnb76 := NB585_577.out
            have hnc76 := NB577_585.out
            have hcz77_0 : wc.cell? ⟨gb585, 0, none⟩ = some (.int .i64 t582) := (blk_cell BK585.out 0).trans rfl
            have hcz77_1 : wc.cell? ⟨gb585, 1, none⟩ = some (.int .i64 t583) := (blk_cell BK585.out 1).trans rfl
            have hfz77_0 := blk_frozen BK585.out 0
            have hfz77_1 := blk_frozen BK585.out 1
            go_wp2
            go_ret
            exact ⟨er, lb HB.out⟩
          · rw [if_neg c66] at H
            have c66b0 : (t580 == t584) = false := by simpa using c66
            (try (have c66b1 : decide (t580 = t584) = false := by simpa using c66))
            (try (have c66b2 : (t580 == t584) = false := by simpa using c66))
            (try (have c66b3 : ¬ (t580 = t584) := by simpa using c66))
            clear c66
            obtain rfl := Option.some.inj H
            go_wp2
            go_ret
            exact ⟨er, lb HB.out⟩
        · replace c65 := Bool.eq_false_iff.mpr c65
          subst c65
          have H1 : ((impl_CrossOf.f kj5 t568 t569 t566 t567 t570 t571 t572 t573).bind fun bt586 => ((impl_QuoAdd.f kj5 t578 t579 bt586.1 bt586.2.1).bind fun bt590 => (if bt586.2.2 = true then (if bt590.2.2 = true then ((laws_whole.f 1).bind fun bt594 => (laws_FnCrossOf.j1 kj5 (!(bt590.1 == bt594.1) || (!(bt590.2.1 == bt594.2))) t566 t567 t568 t569 t570 t571 t572 t573 t578 t579)) else (laws_FnCrossOf.j1 kj5 false t566 t567 t568 t569 t570 t571 t572 t573 t578 t579)) else (laws_FnCrossOf.j1 kj5 false t566 t567 t568 t569 t570 t571 t572 t573 t578 t579)))) = some r := by rw [if_neg (show ¬ (false = true) by decide)] at H; exact H
          clear H
          have H := H1
          clear H1
          replace H := Option.bind_eq_some_iff.mp H
          obtain ⟨⟨t586, t587, t588⟩, A780, H⟩ := H
          replace H : ((impl_QuoAdd.f kj5 t578 t579 t586 t587).bind fun bt590 => (if t588 = true then (if bt590.2.2 = true then ((laws_whole.f 1).bind fun bt594 => (laws_FnCrossOf.j1 kj5 (!(bt590.1 == bt594.1) || (!(bt590.2.1 == bt594.2))) t566 t567 t568 t569 t570 t571 t572 t573 t578 t579)) else (laws_FnCrossOf.j1 kj5 false t566 t567 t568 t569 t570 t571 t572 t573 t578 t579)) else (laws_FnCrossOf.j1 kj5 false t566 t567 t568 t569 t570 t571 t572 t573 t578 t579))) = some r := H
          have A78 := Aside0.mk A780
          clear A780
          replace H := Option.bind_eq_some_iff.mp H
          obtain ⟨⟨t590, t591, t592⟩, A790, H⟩ := H
          replace H : (if t588 = true then (if t592 = true then ((laws_whole.f 1).bind fun bt594 => (laws_FnCrossOf.j1 kj5 (!(t590 == bt594.1) || (!(t591 == bt594.2))) t566 t567 t568 t569 t570 t571 t572 t573 t578 t579)) else (laws_FnCrossOf.j1 kj5 false t566 t567 t568 t569 t570 t571 t572 t573 t578 t579)) else (laws_FnCrossOf.j1 kj5 false t566 t567 t568 t569 t570 t571 t572 t573 t578 t579)) = some r := H
          have A79 := Aside0.mk A790
          clear A790
          have HC80 := Aside0.mk H
          clear H
          have hnb81 := NB575_574.out
          have hnc81 := NB574_575.out
          have hnb82 := NB575_576.out
          have hnc82 := NB576_575.out
          have hnb83 := NB575_577.out
          have hnc83 := NB577_575.out
          have hnb84 := NB575_581.out
          have hnc84 := NB581_575.out
          have hnb85 := NB575_585.out
          have hnc85 := NB585_575.out
          have hcz86_0 : wc.cell? ⟨gb575, 0, none⟩ = some (.int .i64 t568) := (blk_cell BK575.out 0).trans rfl
          have hcz86_1 : wc.cell? ⟨gb575, 1, none⟩ = some (.int .i64 t569) := (blk_cell BK575.out 1).trans rfl
          have hfz86_0 := blk_frozen BK575.out 0
          have hfz86_1 := blk_frozen BK575.out 1
          have hnb87 := NB574_576.out
          have hnc87 := NB576_574.out
          have hnb88 := NB574_577.out
          have hnc88 := NB577_574.out
          have hnb89 := NB574_581.out
          have hnc89 := NB581_574.out
          have hnb90 := NB574_585.out
          have hnc90 := NB585_574.out
          have hcz91_0 : wc.cell? ⟨gb574, 0, none⟩ = some (.int .i64 t566) := (blk_cell BK574.out 0).trans rfl
          have hcz91_1 : wc.cell? ⟨gb574, 1, none⟩ = some (.int .i64 t567) := (blk_cell BK574.out 1).trans rfl
          have hfz91_0 := blk_frozen BK574.out 0
          have hfz91_1 := blk_frozen BK574.out 1
          have hnb92 := NB576_577.out
          have hnc92 := NB577_576.out
          have hnb93 := NB576_581.out
          have hnc93 := NB581_576.out
          have hnb94 := NB576_585.out
          have hnc94 := NB585_576.out
          have hcz95_0 : wc.cell? ⟨gb576, 0, none⟩ = some (.int .i64 t570) := (blk_cell BK576.out 0).trans rfl
          have hcz95_1 : wc.cell? ⟨gb576, 1, none⟩ = some (.int .i64 t571) := (blk_cell BK576.out 1).trans rfl
          have hfz95_0 := blk_frozen BK576.out 0
          have hfz95_1 := blk_frozen BK576.out 1
          have hnb96 := NB577_581.out
          have hnc96 := NB581_577.out
          have hnb97 := NB577_585.out
          have hnc97 := NB585_577.out
          have hcz98_0 : wc.cell? ⟨gb577, 0, none⟩ = some (.int .i64 t572) := (blk_cell BK577.out 0).trans rfl
          have hcz98_1 : wc.cell? ⟨gb577, 1, none⟩ = some (.int .i64 t573) := (blk_cell BK577.out 1).trans rfl
          have hfz98_0 := blk_frozen BK577.out 0
          have hfz98_1 := blk_frozen BK577.out 1
          go_upto_region 10 with (first | ((with_reducible refine gate_callee (f := 18) rfl ?_); refine goesL_ (some 73) rfl rfl Try.func18 (by kernel_rfl) rfl #[.agg #[.int .i64 t568, .int .i64 t569], .agg #[.int .i64 t566, .int .i64 t567], .agg #[.int .i64 t570, .int .i64 t571], .agg #[.int .i64 t572, .int .i64 t573]] rfl al ?_; (with_reducible refine (impl_CrossOf.calls kj5 t568 t569 t566 t567 t570 t571 t572 t573 t586 t587 t588 _ A78.out).mono ?_); rintro e w99 ⟨rfl, hb⟩; refine ⟨_, rfl, ?_⟩; have n0_ := Aside0.mk (blk_below (bf BK574.out) hb); have n1_ := Aside0.mk (blk_below (bf BK575.out) hb); have n2_ := Aside0.mk (blk_below (bf BK576.out) hb); have n3_ := Aside0.mk (blk_below (bf BK577.out) hb); have n4_ := Aside0.mk (blk_below (bf BK581.out) hb); have n5_ := Aside0.mk (blk_below (bf BK585.out) hb); have n6_ := Aside0.mk (below_step (lb HB.out) hb); clear BK574; clear BK575; clear BK576; clear BK577; clear BK581; clear BK585; clear HB; have BK574 := n0_; have BK575 := n1_; have BK576 := n2_; have BK577 := n3_; have BK581 := n4_; have BK585 := n5_; have HB := n6_; clear n0_ n1_ n2_ n3_ n4_ n5_ n6_; (try clear hb); (try clear hb2); (try clear hk); (try clear hi)) | ((with_reducible refine gate_dst (N := 11) rfl ?_); refine box_event ?hg (N := 11) ?hd (cs := #[.int .i64 0, .int .i64 0]) (t := 29) ?hr ?_; (case hd => rfl); (case hg => rfl); (case hr => first | (go_simp; done) | (go_simp; rfl)); intro gb589 hg w100 hbox hb; have n0_ := Aside0.mk (blk_below (bf BK574.out) hb); have n1_ := Aside0.mk (blk_below (bf BK575.out) hb); have n2_ := Aside0.mk (blk_below (bf BK576.out) hb); have n3_ := Aside0.mk (blk_below (bf BK577.out) hb); have n4_ := Aside0.mk (blk_below (bf BK581.out) hb); have n5_ := Aside0.mk (blk_below (bf BK585.out) hb); have n6_ := Aside0.mk (below_step (lb HB.out) hb); have n7_ := Aside0.mk (hbox); have n8_ := Aside0.mk ((by rw [hg]; exact (below_size (lb HB.out)) : w.heap.size ≤ gb589)); have n9_ := Aside0.mk ((by rw [hg]; exact (below_size (lb HB.out)) : w.heap.size ≤ gb589)); have n10_ := Aside0.mk ((by rw [hg]; exact Nat.ne_of_lt (blk_lt (bf BK574.out)) : gb574 ≠ gb589)); have n11_ := Aside0.mk ((by rw [hg]; exact Nat.ne_of_gt (blk_lt (bf BK574.out)) : gb589 ≠ gb574)); have n12_ := Aside0.mk ((by rw [hg]; exact Nat.ne_of_lt (blk_lt (bf BK575.out)) : gb575 ≠ gb589)); have n13_ := Aside0.mk ((by rw [hg]; exact Nat.ne_of_gt (blk_lt (bf BK575.out)) : gb589 ≠ gb575)); have n14_ := Aside0.mk ((by rw [hg]; exact Nat.ne_of_lt (blk_lt (bf BK576.out)) : gb576 ≠ gb589)); have n15_ := Aside0.mk ((by rw [hg]; exact Nat.ne_of_gt (blk_lt (bf BK576.out)) : gb589 ≠ gb576)); have n16_ := Aside0.mk ((by rw [hg]; exact Nat.ne_of_lt (blk_lt (bf BK577.out)) : gb577 ≠ gb589)); have n17_ := Aside0.mk ((by rw [hg]; exact Nat.ne_of_gt (blk_lt (bf BK577.out)) : gb589 ≠ gb577)); have n18_ := Aside0.mk ((by rw [hg]; exact Nat.ne_of_lt (blk_lt (bf BK581.out)) : gb581 ≠ gb589)); have n19_ := Aside0.mk ((by rw [hg]; exact Nat.ne_of_gt (blk_lt (bf BK581.out)) : gb589 ≠ gb581)); have n20_ := Aside0.mk ((by rw [hg]; exact Nat.ne_of_lt (blk_lt (bf BK585.out)) : gb585 ≠ gb589)); have n21_ := Aside0.mk ((by rw [hg]; exact Nat.ne_of_gt (blk_lt (bf BK585.out)) : gb589 ≠ gb585)); clear BK574; clear BK575; clear BK576; clear BK577; clear BK581; clear BK585; clear HB; have BK574 := n0_; have BK575 := n1_; have BK576 := n2_; have BK577 := n3_; have BK581 := n4_; have BK585 := n5_; have HB := n6_; have BK589 := n7_; have GW589 := n8_; have GE589 := n9_; have NB574_589 := n10_; have NB589_574 := n11_; have NB575_589 := n12_; have NB589_575 := n13_; have NB576_589 := n14_; have NB589_576 := n15_; have NB577_589 := n16_; have NB589_577 := n17_; have NB581_589 := n18_; have NB589_581 := n19_; have NB585_589 := n20_; have NB589_585 := n21_; clear n0_ n1_ n2_ n3_ n4_ n5_ n6_ n7_ n8_ n9_ n10_ n11_ n12_ n13_ n14_ n15_ n16_ n17_ n18_ n19_ n20_ n21_; clear hb hbox hg; have hnb101 := NB589_574.out; have hnc101 := NB574_589.out; have hnb102 := NB589_575.out; have hnc102 := NB575_589.out; have hnb103 := NB589_576.out; have hnc103 := NB576_589.out; have hnb104 := NB589_577.out; have hnc104 := NB577_589.out; have hnb105 := NB589_581.out; have hnc105 := NB581_589.out; have hnb106 := NB589_585.out; have hnc106 := NB585_589.out; have hcz107_0 : w100.cell? ⟨gb589, 0, none⟩ = some (.int .i64 0) := (blk_cell BK589.out 0).trans rfl; have hcz107_1 : w100.cell? ⟨gb589, 1, none⟩ = some (.int .i64 0) := (blk_cell BK589.out 1).trans rfl; have hfz107_0 := blk_frozen BK589.out 0; have hfz107_1 := blk_frozen BK589.out 1; have hnb108 := NB581_585.out; have hnc108 := NB585_581.out; have hcz109_0 : w100.cell? ⟨gb581, 0, none⟩ = some (.int .i64 t578) := (blk_cell BK581.out 0).trans rfl; have hcz109_1 : w100.cell? ⟨gb581, 1, none⟩ = some (.int .i64 t579) := (blk_cell BK581.out 1).trans rfl; have hfz109_0 := blk_frozen BK581.out 0; have hfz109_1 := blk_frozen BK581.out 1) | ((with_reducible refine gate_callee (f := 29) rfl ?_); refine goesL_ (some 79) rfl rfl Try.func29 (by kernel_rfl) rfl #[.agg #[.int .i64 t578, .int .i64 t579], .agg #[.int .i64 t586, .int .i64 t587]] rfl al ?_; (with_reducible refine (impl_QuoAdd.calls kj5 t578 t579 t586 t587 t590 t591 t592 _ A79.out).mono ?_); rintro e w110 ⟨rfl, hb⟩; refine ⟨_, rfl, ?_⟩; have n0_ := Aside0.mk (blk_below (bf BK574.out) hb); have n1_ := Aside0.mk (blk_below (bf BK575.out) hb); have n2_ := Aside0.mk (blk_below (bf BK576.out) hb); have n3_ := Aside0.mk (blk_below (bf BK577.out) hb); have n4_ := Aside0.mk (blk_below (bf BK581.out) hb); have n5_ := Aside0.mk (blk_below (bf BK585.out) hb); have n6_ := Aside0.mk (blk_below (g := gb589) (o := .cells #[.int .i64 t586, .int .i64 t587] 29 (0, 0)) (by (with_reducible repeat (first | refine blk_drewN ?_ _ | refine blk_drew ?_ | refine blk_alloc ?_ _)); refine blk_put (cs := #[.int .i64 t586, .int .i64 0]) ?_ 1 _ rfl; (with_reducible repeat (first | refine blk_drewN ?_ _ | refine blk_drew ?_ | refine blk_alloc ?_ _)); refine blk_put (cs := #[.int .i64 0, .int .i64 0]) ?_ 0 _ rfl; (with_reducible repeat (first | refine blk_drewN ?_ _ | refine blk_drew ?_ | refine blk_alloc ?_ _)); exact BK589.out) hb); have n7_ := Aside0.mk (below_step (lb HB.out) hb); clear BK574; clear BK575; clear BK576; clear BK577; clear BK581; clear BK585; clear BK589; clear HB; have BK574 := n0_; have BK575 := n1_; have BK576 := n2_; have BK577 := n3_; have BK581 := n4_; have BK585 := n5_; have BK589 := n6_; have HB := n7_; clear n0_ n1_ n2_ n3_ n4_ n5_ n6_ n7_; (try clear hb); (try clear hb2); (try clear hk); (try clear hi)) | ((with_reducible refine gate_dst (N := 13) rfl ?_); refine box_event ?hg (N := 13) ?hd (cs := #[.int .i64 0, .int .i64 0]) (t := 29) ?hr ?_; (case hd => rfl); (case hg => rfl); (case hr => first | (go_simp; done) | (go_simp; rfl)); intro gb593 hg w111 hbox hb; have n0_ := Aside0.mk (blk_below (bf BK574.out) hb); have n1_ := Aside0.mk (blk_below (bf BK575.out) hb); have n2_ := Aside0.mk (blk_below (bf BK576.out) hb); have n3_ := Aside0.mk (blk_below (bf BK577.out) hb); have n4_ := Aside0.mk (blk_below (bf BK581.out) hb); have n5_ := Aside0.mk (blk_below (bf BK585.out) hb); have n6_ := Aside0.mk (blk_below (bf BK589.out) hb); have n7_ := Aside0.mk (below_step (lb HB.out) hb); have n8_ := Aside0.mk (hbox); have n9_ := Aside0.mk ((by rw [hg]; exact (below_size (lb HB.out)) : w.heap.size ≤ gb593)); have n10_ := Aside0.mk ((by rw [hg]; exact (below_size (lb HB.out)) : w.heap.size ≤ gb593)); have n11_ := Aside0.mk ((by rw [hg]; exact Nat.ne_of_lt (blk_lt (bf BK574.out)) : gb574 ≠ gb593)); have n12_ := Aside0.mk ((by rw [hg]; exact Nat.ne_of_gt (blk_lt (bf BK574.out)) : gb593 ≠ gb574)); have n13_ := Aside0.mk ((by rw [hg]; exact Nat.ne_of_lt (blk_lt (bf BK575.out)) : gb575 ≠ gb593)); have n14_ := Aside0.mk ((by rw [hg]; exact Nat.ne_of_gt (blk_lt (bf BK575.out)) : gb593 ≠ gb575)); have n15_ := Aside0.mk ((by rw [hg]; exact Nat.ne_of_lt (blk_lt (bf BK576.out)) : gb576 ≠ gb593)); have n16_ := Aside0.mk ((by rw [hg]; exact Nat.ne_of_gt (blk_lt (bf BK576.out)) : gb593 ≠ gb576)); have n17_ := Aside0.mk ((by rw [hg]; exact Nat.ne_of_lt (blk_lt (bf BK577.out)) : gb577 ≠ gb593)); have n18_ := Aside0.mk ((by rw [hg]; exact Nat.ne_of_gt (blk_lt (bf BK577.out)) : gb593 ≠ gb577)); have n19_ := Aside0.mk ((by rw [hg]; exact Nat.ne_of_lt (blk_lt (bf BK581.out)) : gb581 ≠ gb593)); have n20_ := Aside0.mk ((by rw [hg]; exact Nat.ne_of_gt (blk_lt (bf BK581.out)) : gb593 ≠ gb581)); have n21_ := Aside0.mk ((by rw [hg]; exact Nat.ne_of_lt (blk_lt (bf BK585.out)) : gb585 ≠ gb593)); have n22_ := Aside0.mk ((by rw [hg]; exact Nat.ne_of_gt (blk_lt (bf BK585.out)) : gb593 ≠ gb585)); have n23_ := Aside0.mk ((by rw [hg]; exact Nat.ne_of_lt (blk_lt (bf BK589.out)) : gb589 ≠ gb593)); have n24_ := Aside0.mk ((by rw [hg]; exact Nat.ne_of_gt (blk_lt (bf BK589.out)) : gb593 ≠ gb589)); clear BK574; clear BK575; clear BK576; clear BK577; clear BK581; clear BK585; clear BK589; clear HB; have BK574 := n0_; have BK575 := n1_; have BK576 := n2_; have BK577 := n3_; have BK581 := n4_; have BK585 := n5_; have BK589 := n6_; have HB := n7_; have BK593 := n8_; have GW593 := n9_; have GE593 := n10_; have NB574_593 := n11_; have NB593_574 := n12_; have NB575_593 := n13_; have NB593_575 := n14_; have NB576_593 := n15_; have NB593_576 := n16_; have NB577_593 := n17_; have NB593_577 := n18_; have NB581_593 := n19_; have NB593_581 := n20_; have NB585_593 := n21_; have NB593_585 := n22_; have NB589_593 := n23_; have NB593_589 := n24_; clear n0_ n1_ n2_ n3_ n4_ n5_ n6_ n7_ n8_ n9_ n10_ n11_ n12_ n13_ n14_ n15_ n16_ n17_ n18_ n19_ n20_ n21_ n22_ n23_ n24_; clear hb hbox hg; have hnb112 := NB593_574.out; have hnc112 := NB574_593.out; have hnb113 := NB593_575.out; have hnc113 := NB575_593.out; have hnb114 := NB593_576.out; have hnc114 := NB576_593.out; have hnb115 := NB593_577.out; have hnc115 := NB577_593.out; have hnb116 := NB593_581.out; have hnc116 := NB581_593.out; have hnb117 := NB593_585.out; have hnc117 := NB585_593.out; have hnb118 := NB593_589.out; have hnc118 := NB589_593.out; have hcz119_0 : w111.cell? ⟨gb593, 0, none⟩ = some (.int .i64 0) := (blk_cell BK593.out 0).trans rfl; have hcz119_1 : w111.cell? ⟨gb593, 1, none⟩ = some (.int .i64 0) := (blk_cell BK593.out 1).trans rfl; have hfz119_0 := blk_frozen BK593.out 0; have hfz119_1 := blk_frozen BK593.out 1))
          (try simp only [Act.put, List.setIfInBounds_toArray, List.set_cons_zero, List.set_cons_succ])
          go_cut [90] (fun v90 wc => ∃ (kq : Nat) (x90_79 : Bool), v90 = .bool x90_79 ∧ Aside0 (laws_FnCrossOf.j1 kq x90_79 t566 t567 t568 t569 t570 t571 t572 t573 t578 t579 = some r) ∧ Aside0 (kq ≤ kj5) ∧ Aside0 (wc.heap[gb574]? = some (.cells #[.int .i64 t566, .int .i64 t567] 25 (0, 0))) ∧ Aside0 (wc.heap[gb575]? = some (.cells #[.int .i64 t568, .int .i64 t569] 25 (0, 0))) ∧ Aside0 (wc.heap[gb576]? = some (.cells #[.int .i64 t570, .int .i64 t571] 25 (0, 0))) ∧ Aside0 (wc.heap[gb577]? = some (.cells #[.int .i64 t572, .int .i64 t573] 25 (0, 0))) ∧ Aside0 (wc.heap[gb581]? = some (.cells #[.int .i64 t578, .int .i64 t579] 29 (0, 0))) ∧ Aside0 (wc.heap[gb585]? = some (.cells #[.int .i64 t582, .int .i64 t583] 29 (0, 0))) ∧ Aside0 (wc.heap[gb589]? = some (.cells #[.int .i64 t586, .int .i64 t587] 29 (0, 0))) ∧ Aside0 (wc.heap[gb593]? = some (.cells #[.int .i64 t590, .int .i64 t591] 29 (0, 0))) ∧ Aside0 (Below w.heap.size w wc))
          case first =>
            have H := HC80.out
            clear HC80
            by_cases c120 : t588 = true
            · subst c120
              have H1 : (if t592 = true then ((laws_whole.f 1).bind fun bt594 => (laws_FnCrossOf.j1 kj5 (!(t590 == bt594.1) || (!(t591 == bt594.2))) t566 t567 t568 t569 t570 t571 t572 t573 t578 t579)) else (laws_FnCrossOf.j1 kj5 false t566 t567 t568 t569 t570 t571 t572 t573 t578 t579)) = some r := by rw [if_pos rfl] at H; exact H
              clear H
              have H := H1
              clear H1
              by_cases c121 : t592 = true
              · subst c121
                have H1 : ((laws_whole.f 1).bind fun bt594 => (laws_FnCrossOf.j1 kj5 (!(t590 == bt594.1) || (!(t591 == bt594.2))) t566 t567 t568 t569 t570 t571 t572 t573 t578 t579)) = some r := by rw [if_pos rfl] at H; exact H
                clear H
                have H := H1
                clear H1
                replace H := Option.bind_eq_some_iff.mp H
                obtain ⟨⟨t594, t595⟩, A1220, H⟩ := H
                replace H : (laws_FnCrossOf.j1 kj5 (!(t590 == t594) || (!(t591 == t595))) t566 t567 t568 t569 t570 t571 t572 t573 t578 t579) = some r := H
                have A122 := Aside0.mk A1220
                clear A1220
                have H' := Aside0.mk H
                clear H
                try go_wp2
                have n0_ : Aside0 (((w111.setCell ⟨gb593, 0, none⟩ (.int .i64 t590)).setCell ⟨gb593, 1, none⟩ (.int .i64 t591)).heap[gb574]? = some (.cells #[.int .i64 t566, .int .i64 t567] 25 (0, 0))) := ⟨by (with_reducible repeat (first | refine blk_drewN ?_ _ | refine blk_drew ?_ | refine blk_alloc ?_ _)); refine blk_far ?_ NB574_593.out _; (with_reducible repeat (first | refine blk_drewN ?_ _ | refine blk_drew ?_ | refine blk_alloc ?_ _)); refine blk_far ?_ NB574_593.out _; (with_reducible repeat (first | refine blk_drewN ?_ _ | refine blk_drew ?_ | refine blk_alloc ?_ _)); exact BK574.out⟩
                have n1_ : Aside0 (((w111.setCell ⟨gb593, 0, none⟩ (.int .i64 t590)).setCell ⟨gb593, 1, none⟩ (.int .i64 t591)).heap[gb575]? = some (.cells #[.int .i64 t568, .int .i64 t569] 25 (0, 0))) := ⟨by (with_reducible repeat (first | refine blk_drewN ?_ _ | refine blk_drew ?_ | refine blk_alloc ?_ _)); refine blk_far ?_ NB575_593.out _; (with_reducible repeat (first | refine blk_drewN ?_ _ | refine blk_drew ?_ | refine blk_alloc ?_ _)); refine blk_far ?_ NB575_593.out _; (with_reducible repeat (first | refine blk_drewN ?_ _ | refine blk_drew ?_ | refine blk_alloc ?_ _)); exact BK575.out⟩
                have n2_ : Aside0 (((w111.setCell ⟨gb593, 0, none⟩ (.int .i64 t590)).setCell ⟨gb593, 1, none⟩ (.int .i64 t591)).heap[gb576]? = some (.cells #[.int .i64 t570, .int .i64 t571] 25 (0, 0))) := ⟨by (with_reducible repeat (first | refine blk_drewN ?_ _ | refine blk_drew ?_ | refine blk_alloc ?_ _)); refine blk_far ?_ NB576_593.out _; (with_reducible repeat (first | refine blk_drewN ?_ _ | refine blk_drew ?_ | refine blk_alloc ?_ _)); refine blk_far ?_ NB576_593.out _; (with_reducible repeat (first | refine blk_drewN ?_ _ | refine blk_drew ?_ | refine blk_alloc ?_ _)); exact BK576.out⟩
                have n3_ : Aside0 (((w111.setCell ⟨gb593, 0, none⟩ (.int .i64 t590)).setCell ⟨gb593, 1, none⟩ (.int .i64 t591)).heap[gb577]? = some (.cells #[.int .i64 t572, .int .i64 t573] 25 (0, 0))) := ⟨by (with_reducible repeat (first | refine blk_drewN ?_ _ | refine blk_drew ?_ | refine blk_alloc ?_ _)); refine blk_far ?_ NB577_593.out _; (with_reducible repeat (first | refine blk_drewN ?_ _ | refine blk_drew ?_ | refine blk_alloc ?_ _)); refine blk_far ?_ NB577_593.out _; (with_reducible repeat (first | refine blk_drewN ?_ _ | refine blk_drew ?_ | refine blk_alloc ?_ _)); exact BK577.out⟩
                have n4_ : Aside0 (((w111.setCell ⟨gb593, 0, none⟩ (.int .i64 t590)).setCell ⟨gb593, 1, none⟩ (.int .i64 t591)).heap[gb581]? = some (.cells #[.int .i64 t578, .int .i64 t579] 29 (0, 0))) := ⟨by (with_reducible repeat (first | refine blk_drewN ?_ _ | refine blk_drew ?_ | refine blk_alloc ?_ _)); refine blk_far ?_ NB581_593.out _; (with_reducible repeat (first | refine blk_drewN ?_ _ | refine blk_drew ?_ | refine blk_alloc ?_ _)); refine blk_far ?_ NB581_593.out _; (with_reducible repeat (first | refine blk_drewN ?_ _ | refine blk_drew ?_ | refine blk_alloc ?_ _)); exact BK581.out⟩
                have n5_ : Aside0 (((w111.setCell ⟨gb593, 0, none⟩ (.int .i64 t590)).setCell ⟨gb593, 1, none⟩ (.int .i64 t591)).heap[gb585]? = some (.cells #[.int .i64 t582, .int .i64 t583] 29 (0, 0))) := ⟨by (with_reducible repeat (first | refine blk_drewN ?_ _ | refine blk_drew ?_ | refine blk_alloc ?_ _)); refine blk_far ?_ NB585_593.out _; (with_reducible repeat (first | refine blk_drewN ?_ _ | refine blk_drew ?_ | refine blk_alloc ?_ _)); refine blk_far ?_ NB585_593.out _; (with_reducible repeat (first | refine blk_drewN ?_ _ | refine blk_drew ?_ | refine blk_alloc ?_ _)); exact BK585.out⟩
                have n6_ : Aside0 (((w111.setCell ⟨gb593, 0, none⟩ (.int .i64 t590)).setCell ⟨gb593, 1, none⟩ (.int .i64 t591)).heap[gb589]? = some (.cells #[.int .i64 t586, .int .i64 t587] 29 (0, 0))) := ⟨by (with_reducible repeat (first | refine blk_drewN ?_ _ | refine blk_drew ?_ | refine blk_alloc ?_ _)); refine blk_far ?_ NB589_593.out _; (with_reducible repeat (first | refine blk_drewN ?_ _ | refine blk_drew ?_ | refine blk_alloc ?_ _)); refine blk_far ?_ NB589_593.out _; (with_reducible repeat (first | refine blk_drewN ?_ _ | refine blk_drew ?_ | refine blk_alloc ?_ _)); exact BK589.out⟩
                have n7_ : Aside0 (((w111.setCell ⟨gb593, 0, none⟩ (.int .i64 t590)).setCell ⟨gb593, 1, none⟩ (.int .i64 t591)).heap[gb593]? = some (.cells #[.int .i64 t590, .int .i64 t591] 29 (0, 0))) := ⟨by (with_reducible repeat (first | refine blk_drewN ?_ _ | refine blk_drew ?_ | refine blk_alloc ?_ _)); refine blk_put (cs := #[.int .i64 t590, .int .i64 0]) ?_ 1 _ rfl; (with_reducible repeat (first | refine blk_drewN ?_ _ | refine blk_drew ?_ | refine blk_alloc ?_ _)); refine blk_put (cs := #[.int .i64 0, .int .i64 0]) ?_ 0 _ rfl; (with_reducible repeat (first | refine blk_drewN ?_ _ | refine blk_drew ?_ | refine blk_alloc ?_ _)); exact BK593.out⟩
                have n8_ : Aside0 (Below w.heap.size w ((w111.setCell ⟨gb593, 0, none⟩ (.int .i64 t590)).setCell ⟨gb593, 1, none⟩ (.int .i64 t591))) := ⟨lb HB.out⟩
                (try clear BK574)
                (try clear BK575)
                (try clear BK576)
                (try clear BK577)
                (try clear BK581)
                (try clear BK585)
                (try clear BK589)
                (try clear BK593)
                (try clear HB)
                generalize ((w111.setCell ⟨gb593, 0, none⟩ (.int .i64 t590)).setCell ⟨gb593, 1, none⟩ (.int .i64 t591)) = w123 at n0_ n1_ n2_ n3_ n4_ n5_ n6_ n7_ n8_ ⊢
                have BK574 := n0_
                have BK575 := n1_
                have BK576 := n2_
                have BK577 := n3_
                have BK581 := n4_
                have BK585 := n5_
                have BK589 := n6_
                have BK593 := n7_
                have HB := n8_
                clear n0_ n1_ n2_ n3_ n4_ n5_ n6_ n7_ n8_
                have n0_ := Aside0.mk (blk_drew BK574.out)
                have n1_ := Aside0.mk (blk_drew BK575.out)
                have n2_ := Aside0.mk (blk_drew BK576.out)
                have n3_ := Aside0.mk (blk_drew BK577.out)
                have n4_ := Aside0.mk (blk_drew BK581.out)
                have n5_ := Aside0.mk (blk_drew BK585.out)
                have n6_ := Aside0.mk (blk_drew BK589.out)
                have n7_ := Aside0.mk (blk_drew BK593.out)
                have n8_ := Aside0.mk (below_drew1 HB.out)
                clear BK574
                clear BK575
                clear BK576
                clear BK577
                clear BK581
                clear BK585
                clear BK589
                clear BK593
                clear HB
                have BK574 := n0_
                have BK575 := n1_
                have BK576 := n2_
                have BK577 := n3_
                have BK581 := n4_
                have BK585 := n5_
                have BK589 := n6_
                have BK593 := n7_
                have HB := n8_
                clear n0_ n1_ n2_ n3_ n4_ n5_ n6_ n7_ n8_
                refine start_ (n := 9) (S := fun w' => w'.cell? ⟨gb593, 0, none⟩ = some (.int .i64 t590) ∧ w'.cell? ⟨gb593, 1, none⟩ = some (.int .i64 t591)) (ds := []) #[false, false, false, false, false, false, false, false, false] (by kernel_rfl) rfl rfl ⟨(blk_cell BK593.out 0).trans rfl, (blk_cell BK593.out 1).trans rfl⟩ (fun hHeld => ?_); refine with_tabW laws_FnCrossOf.tab10 laws_FnCrossOf.bits10 (fun HT_ HW_ => ?_)
                generalize w123.drew = w124 at BK574 BK575 BK576 BK577 BK581 BK585 BK589 BK593 HB hHeld ⊢
                refine pure_ (i := 0) (N := some 82) (v := ?_) (a' := ?_) #[true, false, false, false, false, false, false, false, false] rfl rfl (any_of HT_.out (by kernel_rfl)) (fun _ _ _ h => h) (Or.inl ⟨by rfl, ?_⟩) ?_ ?_
                rotate_left
                · intro w'
                  go_simp
                  with_reducible rfl
                rotate_left
                · simp only [Act.put, List.setIfInBounds_toArray, List.set_cons_zero, List.set_cons_succ, i64_w, i32_w]
                  rfl
                refine pure_ (i := 1) (N := some 83) (v := ?_) (a' := ?_) #[true, true, false, false, false, false, false, false, false] rfl rfl (any_of HT_.out (by kernel_rfl)) (fun _ _ _ h => h) (Or.inl ⟨by rfl, ?_⟩) ?_ ?_
                rotate_left
                · intro w'
                  go_simp
                  with_reducible rfl
                rotate_left
                · simp only [Act.put, List.setIfInBounds_toArray, List.set_cons_zero, List.set_cons_succ, i64_w, i32_w]
                  rfl
                refine pure_ (i := 2) (N := some 84) (v := ?_) (a' := ?_) #[true, true, true, false, false, false, false, false, false] rfl rfl (any_of HT_.out (by kernel_rfl)) (fun _ _ _ h => h) (Or.inl ⟨by rfl, ?_⟩) ?_ ?_
                rotate_left
                · intro w'
                  go_simp
                  with_reducible rfl
                rotate_left
                · simp only [Act.put, List.setIfInBounds_toArray, List.set_cons_zero, List.set_cons_succ, i64_w, i32_w]
                  rfl
                refine pure_ (i := 3) (N := some 85) (v := ?_) (a' := ?_) #[true, true, true, true, false, false, false, false, false] rfl rfl (any_of HT_.out (by kernel_rfl)) (fun _ _ _ h => h) (Or.inl ⟨by rfl, ?_⟩) ?_ ?_
                rotate_left
                · intro w'
                  go_simp
                  with_reducible rfl
                rotate_left
                · simp only [Act.put, List.setIfInBounds_toArray, List.set_cons_zero, List.set_cons_succ, i64_w, i32_w]
                  rfl
                refine pure_ (i := 4) (N := some 86) (v := ?_) (a' := ?_) #[true, true, true, true, true, false, false, false, false] rfl rfl (any_of HT_.out (by kernel_rfl)) (fun _ _ _ h => h) (Or.inl ⟨by rfl, ?_⟩) ?_ ?_
                rotate_left
                · intro w'
                  go_simp
                  with_reducible rfl
                rotate_left
                · simp only [Act.put, List.setIfInBounds_toArray, List.set_cons_zero, List.set_cons_succ, i64_w, i32_w]
                  rfl
                refine take_ (i := 5) (N := some 87) (v := ?_) (a' := ?_) #[true, true, true, true, true, true, false, false, false] rfl rfl (take_ofW HT_.out HW_.out (by kernel_rfl)) (fun _ _ _ h => h) (Or.inl ⟨by rfl, ?_⟩) hHeld ?_ ?_
                rotate_left
                · rintro w' ⟨s0, s1⟩
                  go_simp
                  with_reducible rfl
                rotate_left
                · simp only [Act.put, List.setIfInBounds_toArray, List.set_cons_zero, List.set_cons_succ, i64_w, i32_w]
                  rfl
                refine one_ (i := 6) (N := some 88) #[true, true, true, true, true, true, true, false, false] rfl rfl (one_of HT_.out (by kernel_rfl)) (by decide) (fun K hK => ?_)
                refine goes_ Try.func24 (by kernel_rfl) rfl #[.int .i64 1] (by rfl) rfl rfl al ?_
                with_reducible refine (laws_whole.calls 1 t594 t595 _ A122.out).mono ?_
                rintro e w125 ⟨rfl, hb⟩
                refine ⟨_, rfl, ?_⟩
                have n0_ := Aside0.mk (blk_below (bf BK574.out) hb)
                have n1_ := Aside0.mk (blk_below (bf BK575.out) hb)
                have n2_ := Aside0.mk (blk_below (bf BK576.out) hb)
                have n3_ := Aside0.mk (blk_below (bf BK577.out) hb)
                have n4_ := Aside0.mk (blk_below (bf BK581.out) hb)
                have n5_ := Aside0.mk (blk_below (bf BK585.out) hb)
                have n6_ := Aside0.mk (blk_below (bf BK589.out) hb)
                have n7_ := Aside0.mk (blk_below (bf BK593.out) hb)
                have n8_ := Aside0.mk (below_step (lb HB.out) hb)
                clear BK574
                clear BK575
                clear BK576
                clear BK577
                clear BK581
                clear BK585
                clear BK589
                clear BK593
                clear HB
                have BK574 := n0_
                have BK575 := n1_
                have BK576 := n2_
                have BK577 := n3_
                have BK581 := n4_
                have BK585 := n5_
                have BK589 := n6_
                have BK593 := n7_
                have HB := n8_
                clear n0_ n1_ n2_ n3_ n4_ n5_ n6_ n7_ n8_
                (try clear hb)
                (try clear hb2)
                (try clear hk)
                (try clear hi)
                refine hK.out _ _ ⟨(blk_cell BK593.out 0).trans rfl, (blk_cell BK593.out 1).trans rfl⟩ (fun hHeld => ?_)
                clear hK K
                refine norm_ (a' := ?_) ?_ ?_
                rotate_left
                · show Act.put _ (some 88) _ = _
                  simp only [Act.put, List.setIfInBounds_toArray, List.set_cons_zero, List.set_cons_succ, i64_w, i32_w]
                  rfl
                refine pure_ (i := 7) (N := some 89) (v := ?_) (a' := ?_) #[true, true, true, true, true, true, true, true, false] rfl rfl (any_of HT_.out (by kernel_rfl)) (fun _ _ _ h => h) (Or.inl ⟨by rfl, ?_⟩) ?_ ?_
                rotate_left
                · intro w'
                  go_simp
                  with_reducible rfl
                rotate_left
                · simp only [Act.put, List.setIfInBounds_toArray, List.set_cons_zero, List.set_cons_succ, i64_w, i32_w]
                  rfl
                refine pure_ (i := 8) (N := some 90) (v := ?_) (a' := ?_) #[true, true, true, true, true, true, true, true, true] rfl rfl (any_of HT_.out (by kernel_rfl)) (fun _ _ _ h => h) (Or.inl ⟨by rfl, ?_⟩) ?_ ?_
                rotate_left
                · intro w'
                  go_simp
                  with_reducible rfl
                rotate_left
                · simp only [Act.put, List.setIfInBounds_toArray, List.set_cons_zero, List.set_cons_succ, i64_w, i32_w]
                  rfl
                refine done_ (done_of HT_.out (by kernel_rfl)) ?_
                try go_wp2
                go_meet
                case rel => exact ⟨_, ((!(t590 == t594) || (!(t591 == t595)))), (by first | rfl | (simp; done) | (simp [*]; done)), H', ⟨by have := HJ5.out; first | omega | exact Nat.le_refl _⟩, ⟨by (with_reducible repeat (first | refine blk_drewN ?_ _ | refine blk_drew ?_ | refine blk_alloc ?_ _)); exact BK574.out⟩, ⟨by (with_reducible repeat (first | refine blk_drewN ?_ _ | refine blk_drew ?_ | refine blk_alloc ?_ _)); exact BK575.out⟩, ⟨by (with_reducible repeat (first | refine blk_drewN ?_ _ | refine blk_drew ?_ | refine blk_alloc ?_ _)); exact BK576.out⟩, ⟨by (with_reducible repeat (first | refine blk_drewN ?_ _ | refine blk_drew ?_ | refine blk_alloc ?_ _)); exact BK577.out⟩, ⟨by (with_reducible repeat (first | refine blk_drewN ?_ _ | refine blk_drew ?_ | refine blk_alloc ?_ _)); exact BK581.out⟩, ⟨by (with_reducible repeat (first | refine blk_drewN ?_ _ | refine blk_drew ?_ | refine blk_alloc ?_ _)); exact BK585.out⟩, ⟨by (with_reducible repeat (first | refine blk_drewN ?_ _ | refine blk_drew ?_ | refine blk_alloc ?_ _)); exact BK589.out⟩, ⟨by (with_reducible repeat (first | refine blk_drewN ?_ _ | refine blk_drew ?_ | refine blk_alloc ?_ _)); exact BK593.out⟩, ⟨lb HB.out⟩⟩
              · replace c121 := Bool.eq_false_iff.mpr c121
                subst c121
                have H1 : (laws_FnCrossOf.j1 kj5 false t566 t567 t568 t569 t570 t571 t572 t573 t578 t579) = some r := by rw [if_neg (show ¬ (false = true) by decide)] at H; exact H
                clear H
                have H := H1
                clear H1
                have H' := Aside0.mk H
                clear H
                try go_wp2
                have n0_ : Aside0 (((w111.setCell ⟨gb593, 0, none⟩ (.int .i64 t590)).setCell ⟨gb593, 1, none⟩ (.int .i64 t591)).heap[gb574]? = some (.cells #[.int .i64 t566, .int .i64 t567] 25 (0, 0))) := ⟨by (with_reducible repeat (first | refine blk_drewN ?_ _ | refine blk_drew ?_ | refine blk_alloc ?_ _)); refine blk_far ?_ NB574_593.out _; (with_reducible repeat (first | refine blk_drewN ?_ _ | refine blk_drew ?_ | refine blk_alloc ?_ _)); refine blk_far ?_ NB574_593.out _; (with_reducible repeat (first | refine blk_drewN ?_ _ | refine blk_drew ?_ | refine blk_alloc ?_ _)); exact BK574.out⟩
                have n1_ : Aside0 (((w111.setCell ⟨gb593, 0, none⟩ (.int .i64 t590)).setCell ⟨gb593, 1, none⟩ (.int .i64 t591)).heap[gb575]? = some (.cells #[.int .i64 t568, .int .i64 t569] 25 (0, 0))) := ⟨by (with_reducible repeat (first | refine blk_drewN ?_ _ | refine blk_drew ?_ | refine blk_alloc ?_ _)); refine blk_far ?_ NB575_593.out _; (with_reducible repeat (first | refine blk_drewN ?_ _ | refine blk_drew ?_ | refine blk_alloc ?_ _)); refine blk_far ?_ NB575_593.out _; (with_reducible repeat (first | refine blk_drewN ?_ _ | refine blk_drew ?_ | refine blk_alloc ?_ _)); exact BK575.out⟩
                have n2_ : Aside0 (((w111.setCell ⟨gb593, 0, none⟩ (.int .i64 t590)).setCell ⟨gb593, 1, none⟩ (.int .i64 t591)).heap[gb576]? = some (.cells #[.int .i64 t570, .int .i64 t571] 25 (0, 0))) := ⟨by (with_reducible repeat (first | refine blk_drewN ?_ _ | refine blk_drew ?_ | refine blk_alloc ?_ _)); refine blk_far ?_ NB576_593.out _; (with_reducible repeat (first | refine blk_drewN ?_ _ | refine blk_drew ?_ | refine blk_alloc ?_ _)); refine blk_far ?_ NB576_593.out _; (with_reducible repeat (first | refine blk_drewN ?_ _ | refine blk_drew ?_ | refine blk_alloc ?_ _)); exact BK576.out⟩
                have n3_ : Aside0 (((w111.setCell ⟨gb593, 0, none⟩ (.int .i64 t590)).setCell ⟨gb593, 1, none⟩ (.int .i64 t591)).heap[gb577]? = some (.cells #[.int .i64 t572, .int .i64 t573] 25 (0, 0))) := ⟨by (with_reducible repeat (first | refine blk_drewN ?_ _ | refine blk_drew ?_ | refine blk_alloc ?_ _)); refine blk_far ?_ NB577_593.out _; (with_reducible repeat (first | refine blk_drewN ?_ _ | refine blk_drew ?_ | refine blk_alloc ?_ _)); refine blk_far ?_ NB577_593.out _; (with_reducible repeat (first | refine blk_drewN ?_ _ | refine blk_drew ?_ | refine blk_alloc ?_ _)); exact BK577.out⟩
                have n4_ : Aside0 (((w111.setCell ⟨gb593, 0, none⟩ (.int .i64 t590)).setCell ⟨gb593, 1, none⟩ (.int .i64 t591)).heap[gb581]? = some (.cells #[.int .i64 t578, .int .i64 t579] 29 (0, 0))) := ⟨by (with_reducible repeat (first | refine blk_drewN ?_ _ | refine blk_drew ?_ | refine blk_alloc ?_ _)); refine blk_far ?_ NB581_593.out _; (with_reducible repeat (first | refine blk_drewN ?_ _ | refine blk_drew ?_ | refine blk_alloc ?_ _)); refine blk_far ?_ NB581_593.out _; (with_reducible repeat (first | refine blk_drewN ?_ _ | refine blk_drew ?_ | refine blk_alloc ?_ _)); exact BK581.out⟩
                have n5_ : Aside0 (((w111.setCell ⟨gb593, 0, none⟩ (.int .i64 t590)).setCell ⟨gb593, 1, none⟩ (.int .i64 t591)).heap[gb585]? = some (.cells #[.int .i64 t582, .int .i64 t583] 29 (0, 0))) := ⟨by (with_reducible repeat (first | refine blk_drewN ?_ _ | refine blk_drew ?_ | refine blk_alloc ?_ _)); refine blk_far ?_ NB585_593.out _; (with_reducible repeat (first | refine blk_drewN ?_ _ | refine blk_drew ?_ | refine blk_alloc ?_ _)); refine blk_far ?_ NB585_593.out _; (with_reducible repeat (first | refine blk_drewN ?_ _ | refine blk_drew ?_ | refine blk_alloc ?_ _)); exact BK585.out⟩
                have n6_ : Aside0 (((w111.setCell ⟨gb593, 0, none⟩ (.int .i64 t590)).setCell ⟨gb593, 1, none⟩ (.int .i64 t591)).heap[gb589]? = some (.cells #[.int .i64 t586, .int .i64 t587] 29 (0, 0))) := ⟨by (with_reducible repeat (first | refine blk_drewN ?_ _ | refine blk_drew ?_ | refine blk_alloc ?_ _)); refine blk_far ?_ NB589_593.out _; (with_reducible repeat (first | refine blk_drewN ?_ _ | refine blk_drew ?_ | refine blk_alloc ?_ _)); refine blk_far ?_ NB589_593.out _; (with_reducible repeat (first | refine blk_drewN ?_ _ | refine blk_drew ?_ | refine blk_alloc ?_ _)); exact BK589.out⟩
                have n7_ : Aside0 (((w111.setCell ⟨gb593, 0, none⟩ (.int .i64 t590)).setCell ⟨gb593, 1, none⟩ (.int .i64 t591)).heap[gb593]? = some (.cells #[.int .i64 t590, .int .i64 t591] 29 (0, 0))) := ⟨by (with_reducible repeat (first | refine blk_drewN ?_ _ | refine blk_drew ?_ | refine blk_alloc ?_ _)); refine blk_put (cs := #[.int .i64 t590, .int .i64 0]) ?_ 1 _ rfl; (with_reducible repeat (first | refine blk_drewN ?_ _ | refine blk_drew ?_ | refine blk_alloc ?_ _)); refine blk_put (cs := #[.int .i64 0, .int .i64 0]) ?_ 0 _ rfl; (with_reducible repeat (first | refine blk_drewN ?_ _ | refine blk_drew ?_ | refine blk_alloc ?_ _)); exact BK593.out⟩
                have n8_ : Aside0 (Below w.heap.size w ((w111.setCell ⟨gb593, 0, none⟩ (.int .i64 t590)).setCell ⟨gb593, 1, none⟩ (.int .i64 t591))) := ⟨lb HB.out⟩
                (try clear BK574)
                (try clear BK575)
                (try clear BK576)
                (try clear BK577)
                (try clear BK581)
                (try clear BK585)
                (try clear BK589)
                (try clear BK593)
                (try clear HB)
                generalize ((w111.setCell ⟨gb593, 0, none⟩ (.int .i64 t590)).setCell ⟨gb593, 1, none⟩ (.int .i64 t591)) = w126 at n0_ n1_ n2_ n3_ n4_ n5_ n6_ n7_ n8_ ⊢
                have BK574 := n0_
                have BK575 := n1_
                have BK576 := n2_
                have BK577 := n3_
                have BK581 := n4_
                have BK585 := n5_
                have BK589 := n6_
                have BK593 := n7_
                have HB := n8_
                clear n0_ n1_ n2_ n3_ n4_ n5_ n6_ n7_ n8_
                have n0_ := Aside0.mk (blk_drew BK574.out)
                have n1_ := Aside0.mk (blk_drew BK575.out)
                have n2_ := Aside0.mk (blk_drew BK576.out)
                have n3_ := Aside0.mk (blk_drew BK577.out)
                have n4_ := Aside0.mk (blk_drew BK581.out)
                have n5_ := Aside0.mk (blk_drew BK585.out)
                have n6_ := Aside0.mk (blk_drew BK589.out)
                have n7_ := Aside0.mk (blk_drew BK593.out)
                have n8_ := Aside0.mk (below_drew1 HB.out)
                clear BK574
                clear BK575
                clear BK576
                clear BK577
                clear BK581
                clear BK585
                clear BK589
                clear BK593
                clear HB
                have BK574 := n0_
                have BK575 := n1_
                have BK576 := n2_
                have BK577 := n3_
                have BK581 := n4_
                have BK585 := n5_
                have BK589 := n6_
                have BK593 := n7_
                have HB := n8_
                clear n0_ n1_ n2_ n3_ n4_ n5_ n6_ n7_ n8_
                refine start_ (n := 9) (S := fun w' => True) (ds := []) #[false, false, false, false, false, false, false, false, false] (by kernel_rfl) rfl rfl trivial (fun hHeld => ?_); refine with_tabW laws_FnCrossOf.tab10 laws_FnCrossOf.bits10 (fun HT_ HW_ => ?_)
                generalize w126.drew = w127 at BK574 BK575 BK576 BK577 BK581 BK585 BK589 BK593 HB hHeld ⊢
                refine pure_ (i := 0) (N := some 82) (v := ?_) (a' := ?_) #[true, false, false, false, false, false, false, false, false] rfl rfl (any_of HT_.out (by kernel_rfl)) (fun _ _ _ h => h) (Or.inl ⟨by rfl, ?_⟩) ?_ ?_
                rotate_left
                · intro w'
                  go_simp
                  with_reducible rfl
                rotate_left
                · simp only [Act.put, List.setIfInBounds_toArray, List.set_cons_zero, List.set_cons_succ, i64_w, i32_w]
                  rfl
                refine pure_ (i := 1) (N := some 83) (v := ?_) (a' := ?_) #[true, true, false, false, false, false, false, false, false] rfl rfl (any_of HT_.out (by kernel_rfl)) (fun _ _ _ h => h) (Or.inl ⟨by rfl, ?_⟩) ?_ ?_
                rotate_left
                · intro w'
                  go_simp
                  with_reducible rfl
                rotate_left
                · simp only [Act.put, List.setIfInBounds_toArray, List.set_cons_zero, List.set_cons_succ, i64_w, i32_w]
                  rfl
                refine pure_ (i := 2) (N := some 84) (v := ?_) (a' := ?_) #[true, true, true, false, false, false, false, false, false] rfl rfl (any_of HT_.out (by kernel_rfl)) (fun _ _ _ h => h) (Or.inl ⟨by rfl, ?_⟩) ?_ ?_
                rotate_left
                · intro w'
                  go_simp
                  with_reducible rfl
                rotate_left
                · simp only [Act.put, List.setIfInBounds_toArray, List.set_cons_zero, List.set_cons_succ, i64_w, i32_w]
                  rfl
                refine pure_ (i := 3) (N := some 85) (v := ?_) (a' := ?_) #[true, true, true, true, false, false, false, false, false] rfl rfl (any_of HT_.out (by kernel_rfl)) (fun _ _ _ h => h) (Or.inl ⟨by rfl, ?_⟩) ?_ ?_
                rotate_left
                · intro w'
                  go_simp
                  with_reducible rfl
                rotate_left
                · simp only [Act.put, List.setIfInBounds_toArray, List.set_cons_zero, List.set_cons_succ, i64_w, i32_w]
                  rfl
                refine pure_ (i := 4) (N := some 86) (v := ?_) (a' := ?_) #[true, true, true, true, true, false, false, false, false] rfl rfl (any_of HT_.out (by kernel_rfl)) (fun _ _ _ h => h) (Or.inl ⟨by rfl, ?_⟩) ?_ ?_
                rotate_left
                · intro w'
                  go_simp
                  with_reducible rfl
                rotate_left
                · simp only [Act.put, List.setIfInBounds_toArray, List.set_cons_zero, List.set_cons_succ, i64_w, i32_w]
                  rfl
                refine pure_ (i := 5) (N := some 87) (v := undef) (a' := ?_) #[true, true, true, true, true, true, false, false, false] rfl rfl (any_of HT_.out (by kernel_rfl)) (fun _ _ _ h => h) (Or.inr ⟨by rfl, rfl⟩) ?_ ?_
                rotate_left
                · simp only [Act.put, List.setIfInBounds_toArray, List.set_cons_zero, List.set_cons_succ, i64_w, i32_w]
                  rfl
                refine pure_ (i := 6) (N := some 88) (v := undef) (a' := ?_) #[true, true, true, true, true, true, true, false, false] rfl rfl (any_of HT_.out (by kernel_rfl)) (fun _ _ _ h => h) (Or.inr ⟨by rfl, rfl⟩) ?_ ?_
                rotate_left
                · simp only [Act.put, List.setIfInBounds_toArray, List.set_cons_zero, List.set_cons_succ, i64_w, i32_w]
                  rfl
                refine pure_ (i := 7) (N := some 89) (v := undef) (a' := ?_) #[true, true, true, true, true, true, true, true, false] rfl rfl (any_of HT_.out (by kernel_rfl)) (fun _ _ _ h => h) (Or.inr ⟨by rfl, rfl⟩) ?_ ?_
                rotate_left
                · simp only [Act.put, List.setIfInBounds_toArray, List.set_cons_zero, List.set_cons_succ, i64_w, i32_w]
                  rfl
                refine pure_ (i := 8) (N := some 90) (v := ?_) (a' := ?_) #[true, true, true, true, true, true, true, true, true] rfl rfl (any_of HT_.out (by kernel_rfl)) (fun _ _ _ h => h) (Or.inl ⟨by rfl, ?_⟩) ?_ ?_
                rotate_left
                · intro w'
                  go_simp
                  with_reducible rfl
                rotate_left
                · simp only [Act.put, List.setIfInBounds_toArray, List.set_cons_zero, List.set_cons_succ, i64_w, i32_w]
                  rfl
                refine done_ (done_of HT_.out (by kernel_rfl)) ?_
                try go_wp2
                go_meet
                case rel => exact ⟨_, (false), (by first | rfl | (simp; done) | (simp [*]; done)), H', ⟨by have := HJ5.out; first | omega | exact Nat.le_refl _⟩, ⟨by (with_reducible repeat (first | refine blk_drewN ?_ _ | refine blk_drew ?_ | refine blk_alloc ?_ _)); exact BK574.out⟩, ⟨by (with_reducible repeat (first | refine blk_drewN ?_ _ | refine blk_drew ?_ | refine blk_alloc ?_ _)); exact BK575.out⟩, ⟨by (with_reducible repeat (first | refine blk_drewN ?_ _ | refine blk_drew ?_ | refine blk_alloc ?_ _)); exact BK576.out⟩, ⟨by (with_reducible repeat (first | refine blk_drewN ?_ _ | refine blk_drew ?_ | refine blk_alloc ?_ _)); exact BK577.out⟩, ⟨by (with_reducible repeat (first | refine blk_drewN ?_ _ | refine blk_drew ?_ | refine blk_alloc ?_ _)); exact BK581.out⟩, ⟨by (with_reducible repeat (first | refine blk_drewN ?_ _ | refine blk_drew ?_ | refine blk_alloc ?_ _)); exact BK585.out⟩, ⟨by (with_reducible repeat (first | refine blk_drewN ?_ _ | refine blk_drew ?_ | refine blk_alloc ?_ _)); exact BK589.out⟩, ⟨by (with_reducible repeat (first | refine blk_drewN ?_ _ | refine blk_drew ?_ | refine blk_alloc ?_ _)); exact BK593.out⟩, ⟨lb HB.out⟩⟩
            · replace c120 := Bool.eq_false_iff.mpr c120
              subst c120
              have H1 : (laws_FnCrossOf.j1 kj5 false t566 t567 t568 t569 t570 t571 t572 t573 t578 t579) = some r := by rw [if_neg (show ¬ (false = true) by decide)] at H; exact H
              clear H
              have H := H1
              clear H1
              have H' := Aside0.mk H
              clear H
              try go_wp2
              have n0_ : Aside0 (((w111.setCell ⟨gb593, 0, none⟩ (.int .i64 t590)).setCell ⟨gb593, 1, none⟩ (.int .i64 t591)).heap[gb574]? = some (.cells #[.int .i64 t566, .int .i64 t567] 25 (0, 0))) := ⟨by (with_reducible repeat (first | refine blk_drewN ?_ _ | refine blk_drew ?_ | refine blk_alloc ?_ _)); refine blk_far ?_ NB574_593.out _; (with_reducible repeat (first | refine blk_drewN ?_ _ | refine blk_drew ?_ | refine blk_alloc ?_ _)); refine blk_far ?_ NB574_593.out _; (with_reducible repeat (first | refine blk_drewN ?_ _ | refine blk_drew ?_ | refine blk_alloc ?_ _)); exact BK574.out⟩
              have n1_ : Aside0 (((w111.setCell ⟨gb593, 0, none⟩ (.int .i64 t590)).setCell ⟨gb593, 1, none⟩ (.int .i64 t591)).heap[gb575]? = some (.cells #[.int .i64 t568, .int .i64 t569] 25 (0, 0))) := ⟨by (with_reducible repeat (first | refine blk_drewN ?_ _ | refine blk_drew ?_ | refine blk_alloc ?_ _)); refine blk_far ?_ NB575_593.out _; (with_reducible repeat (first | refine blk_drewN ?_ _ | refine blk_drew ?_ | refine blk_alloc ?_ _)); refine blk_far ?_ NB575_593.out _; (with_reducible repeat (first | refine blk_drewN ?_ _ | refine blk_drew ?_ | refine blk_alloc ?_ _)); exact BK575.out⟩
              have n2_ : Aside0 (((w111.setCell ⟨gb593, 0, none⟩ (.int .i64 t590)).setCell ⟨gb593, 1, none⟩ (.int .i64 t591)).heap[gb576]? = some (.cells #[.int .i64 t570, .int .i64 t571] 25 (0, 0))) := ⟨by (with_reducible repeat (first | refine blk_drewN ?_ _ | refine blk_drew ?_ | refine blk_alloc ?_ _)); refine blk_far ?_ NB576_593.out _; (with_reducible repeat (first | refine blk_drewN ?_ _ | refine blk_drew ?_ | refine blk_alloc ?_ _)); refine blk_far ?_ NB576_593.out _; (with_reducible repeat (first | refine blk_drewN ?_ _ | refine blk_drew ?_ | refine blk_alloc ?_ _)); exact BK576.out⟩
              have n3_ : Aside0 (((w111.setCell ⟨gb593, 0, none⟩ (.int .i64 t590)).setCell ⟨gb593, 1, none⟩ (.int .i64 t591)).heap[gb577]? = some (.cells #[.int .i64 t572, .int .i64 t573] 25 (0, 0))) := ⟨by (with_reducible repeat (first | refine blk_drewN ?_ _ | refine blk_drew ?_ | refine blk_alloc ?_ _)); refine blk_far ?_ NB577_593.out _; (with_reducible repeat (first | refine blk_drewN ?_ _ | refine blk_drew ?_ | refine blk_alloc ?_ _)); refine blk_far ?_ NB577_593.out _; (with_reducible repeat (first | refine blk_drewN ?_ _ | refine blk_drew ?_ | refine blk_alloc ?_ _)); exact BK577.out⟩
              have n4_ : Aside0 (((w111.setCell ⟨gb593, 0, none⟩ (.int .i64 t590)).setCell ⟨gb593, 1, none⟩ (.int .i64 t591)).heap[gb581]? = some (.cells #[.int .i64 t578, .int .i64 t579] 29 (0, 0))) := ⟨by (with_reducible repeat (first | refine blk_drewN ?_ _ | refine blk_drew ?_ | refine blk_alloc ?_ _)); refine blk_far ?_ NB581_593.out _; (with_reducible repeat (first | refine blk_drewN ?_ _ | refine blk_drew ?_ | refine blk_alloc ?_ _)); refine blk_far ?_ NB581_593.out _; (with_reducible repeat (first | refine blk_drewN ?_ _ | refine blk_drew ?_ | refine blk_alloc ?_ _)); exact BK581.out⟩
              have n5_ : Aside0 (((w111.setCell ⟨gb593, 0, none⟩ (.int .i64 t590)).setCell ⟨gb593, 1, none⟩ (.int .i64 t591)).heap[gb585]? = some (.cells #[.int .i64 t582, .int .i64 t583] 29 (0, 0))) := ⟨by (with_reducible repeat (first | refine blk_drewN ?_ _ | refine blk_drew ?_ | refine blk_alloc ?_ _)); refine blk_far ?_ NB585_593.out _; (with_reducible repeat (first | refine blk_drewN ?_ _ | refine blk_drew ?_ | refine blk_alloc ?_ _)); refine blk_far ?_ NB585_593.out _; (with_reducible repeat (first | refine blk_drewN ?_ _ | refine blk_drew ?_ | refine blk_alloc ?_ _)); exact BK585.out⟩
              have n6_ : Aside0 (((w111.setCell ⟨gb593, 0, none⟩ (.int .i64 t590)).setCell ⟨gb593, 1, none⟩ (.int .i64 t591)).heap[gb589]? = some (.cells #[.int .i64 t586, .int .i64 t587] 29 (0, 0))) := ⟨by (with_reducible repeat (first | refine blk_drewN ?_ _ | refine blk_drew ?_ | refine blk_alloc ?_ _)); refine blk_far ?_ NB589_593.out _; (with_reducible repeat (first | refine blk_drewN ?_ _ | refine blk_drew ?_ | refine blk_alloc ?_ _)); refine blk_far ?_ NB589_593.out _; (with_reducible repeat (first | refine blk_drewN ?_ _ | refine blk_drew ?_ | refine blk_alloc ?_ _)); exact BK589.out⟩
              have n7_ : Aside0 (((w111.setCell ⟨gb593, 0, none⟩ (.int .i64 t590)).setCell ⟨gb593, 1, none⟩ (.int .i64 t591)).heap[gb593]? = some (.cells #[.int .i64 t590, .int .i64 t591] 29 (0, 0))) := ⟨by (with_reducible repeat (first | refine blk_drewN ?_ _ | refine blk_drew ?_ | refine blk_alloc ?_ _)); refine blk_put (cs := #[.int .i64 t590, .int .i64 0]) ?_ 1 _ rfl; (with_reducible repeat (first | refine blk_drewN ?_ _ | refine blk_drew ?_ | refine blk_alloc ?_ _)); refine blk_put (cs := #[.int .i64 0, .int .i64 0]) ?_ 0 _ rfl; (with_reducible repeat (first | refine blk_drewN ?_ _ | refine blk_drew ?_ | refine blk_alloc ?_ _)); exact BK593.out⟩
              have n8_ : Aside0 (Below w.heap.size w ((w111.setCell ⟨gb593, 0, none⟩ (.int .i64 t590)).setCell ⟨gb593, 1, none⟩ (.int .i64 t591))) := ⟨lb HB.out⟩
              (try clear BK574)
              (try clear BK575)
              (try clear BK576)
              (try clear BK577)
              (try clear BK581)
              (try clear BK585)
              (try clear BK589)
              (try clear BK593)
              (try clear HB)
              generalize ((w111.setCell ⟨gb593, 0, none⟩ (.int .i64 t590)).setCell ⟨gb593, 1, none⟩ (.int .i64 t591)) = w128 at n0_ n1_ n2_ n3_ n4_ n5_ n6_ n7_ n8_ ⊢
              have BK574 := n0_
              have BK575 := n1_
              have BK576 := n2_
              have BK577 := n3_
              have BK581 := n4_
              have BK585 := n5_
              have BK589 := n6_
              have BK593 := n7_
              have HB := n8_
              clear n0_ n1_ n2_ n3_ n4_ n5_ n6_ n7_ n8_
              have n0_ := Aside0.mk (blk_drew BK574.out)
              have n1_ := Aside0.mk (blk_drew BK575.out)
              have n2_ := Aside0.mk (blk_drew BK576.out)
              have n3_ := Aside0.mk (blk_drew BK577.out)
              have n4_ := Aside0.mk (blk_drew BK581.out)
              have n5_ := Aside0.mk (blk_drew BK585.out)
              have n6_ := Aside0.mk (blk_drew BK589.out)
              have n7_ := Aside0.mk (blk_drew BK593.out)
              have n8_ := Aside0.mk (below_drew1 HB.out)
              clear BK574
              clear BK575
              clear BK576
              clear BK577
              clear BK581
              clear BK585
              clear BK589
              clear BK593
              clear HB
              have BK574 := n0_
              have BK575 := n1_
              have BK576 := n2_
              have BK577 := n3_
              have BK581 := n4_
              have BK585 := n5_
              have BK589 := n6_
              have BK593 := n7_
              have HB := n8_
              clear n0_ n1_ n2_ n3_ n4_ n5_ n6_ n7_ n8_
              refine start_ (n := 9) (S := fun w' => True) (ds := []) #[false, false, false, false, false, false, false, false, false] (by kernel_rfl) rfl rfl trivial (fun hHeld => ?_); refine with_tabW laws_FnCrossOf.tab10 laws_FnCrossOf.bits10 (fun HT_ HW_ => ?_)
              generalize w128.drew = w129 at BK574 BK575 BK576 BK577 BK581 BK585 BK589 BK593 HB hHeld ⊢
              refine pure_ (i := 0) (N := some 82) (v := ?_) (a' := ?_) #[true, false, false, false, false, false, false, false, false] rfl rfl (any_of HT_.out (by kernel_rfl)) (fun _ _ _ h => h) (Or.inl ⟨by rfl, ?_⟩) ?_ ?_
              rotate_left
              · intro w'
                go_simp
                with_reducible rfl
              rotate_left
              · simp only [Act.put, List.setIfInBounds_toArray, List.set_cons_zero, List.set_cons_succ, i64_w, i32_w]
                rfl
              refine pure_ (i := 1) (N := some 83) (v := ?_) (a' := ?_) #[true, true, false, false, false, false, false, false, false] rfl rfl (any_of HT_.out (by kernel_rfl)) (fun _ _ _ h => h) (Or.inl ⟨by rfl, ?_⟩) ?_ ?_
              rotate_left
              · intro w'
                go_simp
                with_reducible rfl
              rotate_left
              · simp only [Act.put, List.setIfInBounds_toArray, List.set_cons_zero, List.set_cons_succ, i64_w, i32_w]
                rfl
              refine pure_ (i := 2) (N := some 84) (v := undef) (a' := ?_) #[true, true, true, false, false, false, false, false, false] rfl rfl (any_of HT_.out (by kernel_rfl)) (fun _ _ _ h => h) (Or.inr ⟨by rfl, rfl⟩) ?_ ?_
              rotate_left
              · simp only [Act.put, List.setIfInBounds_toArray, List.set_cons_zero, List.set_cons_succ, i64_w, i32_w]
                rfl
              refine pure_ (i := 3) (N := some 85) (v := ?_) (a' := ?_) #[true, true, true, true, false, false, false, false, false] rfl rfl (any_of HT_.out (by kernel_rfl)) (fun _ _ _ h => h) (Or.inl ⟨by rfl, ?_⟩) ?_ ?_
              rotate_left
              · intro w'
                go_simp
                with_reducible rfl
              rotate_left
              · simp only [Act.put, List.setIfInBounds_toArray, List.set_cons_zero, List.set_cons_succ, i64_w, i32_w]
                rfl
              refine pure_ (i := 4) (N := some 86) (v := ?_) (a' := ?_) #[true, true, true, true, true, false, false, false, false] rfl rfl (any_of HT_.out (by kernel_rfl)) (fun _ _ _ h => h) (Or.inl ⟨by rfl, ?_⟩) ?_ ?_
              rotate_left
              · intro w'
                go_simp
                with_reducible rfl
              rotate_left
              · simp only [Act.put, List.setIfInBounds_toArray, List.set_cons_zero, List.set_cons_succ, i64_w, i32_w]
                rfl
              refine pure_ (i := 5) (N := some 87) (v := undef) (a' := ?_) #[true, true, true, true, true, true, false, false, false] rfl rfl (any_of HT_.out (by kernel_rfl)) (fun _ _ _ h => h) (Or.inr ⟨by rfl, rfl⟩) ?_ ?_
              rotate_left
              · simp only [Act.put, List.setIfInBounds_toArray, List.set_cons_zero, List.set_cons_succ, i64_w, i32_w]
                rfl
              refine pure_ (i := 6) (N := some 88) (v := undef) (a' := ?_) #[true, true, true, true, true, true, true, false, false] rfl rfl (any_of HT_.out (by kernel_rfl)) (fun _ _ _ h => h) (Or.inr ⟨by rfl, rfl⟩) ?_ ?_
              rotate_left
              · simp only [Act.put, List.setIfInBounds_toArray, List.set_cons_zero, List.set_cons_succ, i64_w, i32_w]
                rfl
              refine pure_ (i := 7) (N := some 89) (v := undef) (a' := ?_) #[true, true, true, true, true, true, true, true, false] rfl rfl (any_of HT_.out (by kernel_rfl)) (fun _ _ _ h => h) (Or.inr ⟨by rfl, rfl⟩) ?_ ?_
              rotate_left
              · simp only [Act.put, List.setIfInBounds_toArray, List.set_cons_zero, List.set_cons_succ, i64_w, i32_w]
                rfl
              refine pure_ (i := 8) (N := some 90) (v := ?_) (a' := ?_) #[true, true, true, true, true, true, true, true, true] rfl rfl (any_of HT_.out (by kernel_rfl)) (fun _ _ _ h => h) (Or.inl ⟨by rfl, ?_⟩) ?_ ?_
              rotate_left
              · intro w'
                go_simp
                with_reducible rfl
              rotate_left
              · simp only [Act.put, List.setIfInBounds_toArray, List.set_cons_zero, List.set_cons_succ, i64_w, i32_w]
                rfl
              refine done_ (done_of HT_.out (by kernel_rfl)) ?_
              try go_wp2
              go_meet
              case rel => exact ⟨_, (false), (by first | rfl | (simp; done) | (simp [*]; done)), H', ⟨by have := HJ5.out; first | omega | exact Nat.le_refl _⟩, ⟨by (with_reducible repeat (first | refine blk_drewN ?_ _ | refine blk_drew ?_ | refine blk_alloc ?_ _)); exact BK574.out⟩, ⟨by (with_reducible repeat (first | refine blk_drewN ?_ _ | refine blk_drew ?_ | refine blk_alloc ?_ _)); exact BK575.out⟩, ⟨by (with_reducible repeat (first | refine blk_drewN ?_ _ | refine blk_drew ?_ | refine blk_alloc ?_ _)); exact BK576.out⟩, ⟨by (with_reducible repeat (first | refine blk_drewN ?_ _ | refine blk_drew ?_ | refine blk_alloc ?_ _)); exact BK577.out⟩, ⟨by (with_reducible repeat (first | refine blk_drewN ?_ _ | refine blk_drew ?_ | refine blk_alloc ?_ _)); exact BK581.out⟩, ⟨by (with_reducible repeat (first | refine blk_drewN ?_ _ | refine blk_drew ?_ | refine blk_alloc ?_ _)); exact BK585.out⟩, ⟨by (with_reducible repeat (first | refine blk_drewN ?_ _ | refine blk_drew ?_ | refine blk_alloc ?_ _)); exact BK589.out⟩, ⟨by (with_reducible repeat (first | refine blk_drewN ?_ _ | refine blk_drew ?_ | refine blk_alloc ?_ _)); exact BK593.out⟩, ⟨lb HB.out⟩⟩
          case rest =>
            clear HC80
            try clear c1
            try clear c2
            try clear p2
            try clear c6
            try clear c7
            try clear c8
            try clear c9
            try clear c10
            try clear c11
            try clear c12
            try clear c18
            try clear c24
            try clear c29
            try clear c65
            try clear c66
            try clear c66b0
            try clear c66b1
            try clear c66b2
            try clear c67
            try clear c68
            try clear c69
            try clear c70
            try clear c71
            try clear c73
            try clear c74
            try clear c75
            try clear c76
            try clear c81
            try clear c82
            try clear c83
            try clear c84
            try clear c85
            try clear c87
            try clear c88
            try clear c89
            try clear c90
            try clear c92
            try clear c93
            try clear c94
            try clear c96
            try clear c97
            try clear c101
            try clear c102
            try clear c103
            try clear c104
            try clear c105
            try clear c106
            try clear c108
            try clear c112
            try clear c113
            try clear c114
            try clear c115
            try clear c116
            try clear c117
            try clear c118
            try clear c120
            try clear c121
            try clear hcz107_0
            try clear hcz107_1
            try clear hcz109_0
            try clear hcz109_1
            try clear hcz119_0
            try clear hcz119_1
            try clear hcz72_0
            try clear hcz72_1
            try clear hcz77_0
            try clear hcz77_1
            try clear hcz86_0
            try clear hcz86_1
            try clear hcz91_0
            try clear hcz91_1
            try clear hcz95_0
            try clear hcz95_1
            try clear hcz98_0
            try clear hcz98_1
            try clear hfz107_0
            try clear hfz107_1
            try clear hfz109_0
            try clear hfz109_1
            try clear hfz119_0
            try clear hfz119_1
            try clear hfz28_0
            try clear hfz28_1
            try clear hfz29_0
            try clear hfz29_1
            try clear hfz30_0
            try clear hfz30_1
            try clear hfz31_0
            try clear hfz31_1
            try clear hfz32_0
            try clear hfz32_1
            try clear hfz40_0
            try clear hfz40_1
            try clear hfz48_0
            try clear hfz48_1
            try clear hfz53_0
            try clear hfz53_1
            try clear hfz59_0
            try clear hfz59_1
            try clear hfz64_0
            try clear hfz64_1
            try clear hfz72_0
            try clear hfz72_1
            try clear hfz77_0
            try clear hfz77_1
            try clear hfz86_0
            try clear hfz86_1
            try clear hfz91_0
            try clear hfz91_1
            try clear hfz95_0
            try clear hfz95_1
            try clear hfz98_0
            try clear hfz98_1
            obtain ⟨kq, x90_79, rfl, HA, HJ79, BK574, BK575, BK576, BK577, BK581, BK585, BK589, BK593, HB⟩ := hcut
            cases kq with
            | zero => exact absurd HA.out (by simp [laws_FnCrossOf.j1])
            | succ kj79 =>
              have H := HA.out
              clear HA
              simp only [laws_FnCrossOf.j1] at H
              by_cases c130 : x90_79 = true
              · subst c130
                have H1 : (some false) = some r := by rw [if_pos rfl] at H; exact H
                clear H
                have H := H1
                clear H1
                obtain rfl := Option.some.inj H
                go_wp2
                go_ret
                exact ⟨er, lb HB.out⟩
              · replace c130 := Bool.eq_false_iff.mpr c130
                subst c130
                have H1 : ((impl_CrossAt.f kj79 t566 t567 t568 t569 t570 t571 t572 t573).bind fun bt596 => ((laws_whole.f (wrap64 (t568 - t566))).bind fun bt603 => ((impl_QuoTimes.f kj79 t578 t579 bt603.1 bt603.2).bind fun bt605 => ((laws_whole.f t566).bind fun bt609 => ((impl_QuoAdd.f kj79 bt605.1 bt605.2.1 bt609.1 bt609.2).bind fun bt611 => (if bt596.2.2.2.2 = true then (if bt605.2.2 = true then (if bt611.2.2 = true then (some (bt596.1 == bt611.1 && (bt596.2.1 == bt611.2.1))) else (some true)) else (some true)) else (some true))))))) = some r := by rw [if_neg (show ¬ (false = true) by decide)] at H; exact H
                clear H
                have H := H1
                clear H1
                replace H := Option.bind_eq_some_iff.mp H
                obtain ⟨⟨t596, t597, t598, t599, t600⟩, A1310, H⟩ := H
                replace H : ((laws_whole.f (wrap64 (t568 - t566))).bind fun bt603 => ((impl_QuoTimes.f kj79 t578 t579 bt603.1 bt603.2).bind fun bt605 => ((laws_whole.f t566).bind fun bt609 => ((impl_QuoAdd.f kj79 bt605.1 bt605.2.1 bt609.1 bt609.2).bind fun bt611 => (if t600 = true then (if bt605.2.2 = true then (if bt611.2.2 = true then (some (t596 == bt611.1 && (t597 == bt611.2.1))) else (some true)) else (some true)) else (some true)))))) = some r := H
                have A131 := Aside0.mk A1310
                clear A1310
                replace H := Option.bind_eq_some_iff.mp H
                obtain ⟨⟨t603, t604⟩, A1320, H⟩ := H
                replace H : ((impl_QuoTimes.f kj79 t578 t579 t603 t604).bind fun bt605 => ((laws_whole.f t566).bind fun bt609 => ((impl_QuoAdd.f kj79 bt605.1 bt605.2.1 bt609.1 bt609.2).bind fun bt611 => (if t600 = true then (if bt605.2.2 = true then (if bt611.2.2 = true then (some (t596 == bt611.1 && (t597 == bt611.2.1))) else (some true)) else (some true)) else (some true))))) = some r := H
                have A132 := Aside0.mk A1320
                clear A1320
                replace H := Option.bind_eq_some_iff.mp H
                obtain ⟨⟨t605, t606, t607⟩, A1330, H⟩ := H
                replace H : ((laws_whole.f t566).bind fun bt609 => ((impl_QuoAdd.f kj79 t605 t606 bt609.1 bt609.2).bind fun bt611 => (if t600 = true then (if t607 = true then (if bt611.2.2 = true then (some (t596 == bt611.1 && (t597 == bt611.2.1))) else (some true)) else (some true)) else (some true)))) = some r := H
                have A133 := Aside0.mk A1330
                clear A1330
                replace H := Option.bind_eq_some_iff.mp H
                obtain ⟨⟨t609, t610⟩, A1340, H⟩ := H
                replace H : ((impl_QuoAdd.f kj79 t605 t606 t609 t610).bind fun bt611 => (if t600 = true then (if t607 = true then (if bt611.2.2 = true then (some (t596 == bt611.1 && (t597 == bt611.2.1))) else (some true)) else (some true)) else (some true))) = some r := H
                have A134 := Aside0.mk A1340
                clear A1340
                replace H := Option.bind_eq_some_iff.mp H
                obtain ⟨⟨t611, t612, t613⟩, A1350, H⟩ := H
                replace H : (if t600 = true then (if t607 = true then (if t613 = true then (some (t596 == t611 && (t597 == t612))) else (some true)) else (some true)) else (some true)) = some r := H
                have A135 := Aside0.mk A1350
                clear A1350
                have hnb345 := NB574_575.out
                have hnc345 := NB575_574.out
                have hnb346 := NB574_576.out
                have hnc346 := NB576_574.out
                have hnb347 := NB574_577.out
                have hnc347 := NB577_574.out
                have hnb348 := NB574_581.out
                have hnc348 := NB581_574.out
                have hnb349 := NB574_585.out
                have hnc349 := NB585_574.out
                have hnb350 := NB574_589.out
                have hnc350 := NB589_574.out
                have hnb351 := NB574_593.out
                have hnc351 := NB593_574.out
                have hcz352_0 : wc.cell? ⟨gb574, 0, none⟩ = some (.int .i64 t566) := (blk_cell BK574.out 0).trans rfl
                have hcz352_1 : wc.cell? ⟨gb574, 1, none⟩ = some (.int .i64 t567) := (blk_cell BK574.out 1).trans rfl
                have hfz352_0 := blk_frozen BK574.out 0
                have hfz352_1 := blk_frozen BK574.out 1
                have hnb353 := NB575_576.out
                have hnc353 := NB576_575.out
                have hnb354 := NB575_577.out
                have hnc354 := NB577_575.out
                have hnb355 := NB575_581.out
                have hnc355 := NB581_575.out
                have hnb356 := NB575_585.out
                have hnc356 := NB585_575.out
                have hnb357 := NB575_589.out
                have hnc357 := NB589_575.out
                have hnb358 := NB575_593.out
                have hnc358 := NB593_575.out
                have hcz359_0 : wc.cell? ⟨gb575, 0, none⟩ = some (.int .i64 t568) := (blk_cell BK575.out 0).trans rfl
                have hcz359_1 : wc.cell? ⟨gb575, 1, none⟩ = some (.int .i64 t569) := (blk_cell BK575.out 1).trans rfl
                have hfz359_0 := blk_frozen BK575.out 0
                have hfz359_1 := blk_frozen BK575.out 1
                have hnb360 := NB576_577.out
                have hnc360 := NB577_576.out
                have hnb361 := NB576_581.out
                have hnc361 := NB581_576.out
                have hnb362 := NB576_585.out
                have hnc362 := NB585_576.out
                have hnb363 := NB576_589.out
                have hnc363 := NB589_576.out
                have hnb364 := NB576_593.out
                have hnc364 := NB593_576.out
                have hcz365_0 : wc.cell? ⟨gb576, 0, none⟩ = some (.int .i64 t570) := (blk_cell BK576.out 0).trans rfl
                have hcz365_1 : wc.cell? ⟨gb576, 1, none⟩ = some (.int .i64 t571) := (blk_cell BK576.out 1).trans rfl
                have hfz365_0 := blk_frozen BK576.out 0
                have hfz365_1 := blk_frozen BK576.out 1
                have hnb366 := NB577_581.out
                have hnc366 := NB581_577.out
                have hnb367 := NB577_585.out
                have hnc367 := NB585_577.out
                have hnb368 := NB577_589.out
                have hnc368 := NB589_577.out
                have hnb369 := NB577_593.out
                have hnc369 := NB593_577.out
                have hcz370_0 : wc.cell? ⟨gb577, 0, none⟩ = some (.int .i64 t572) := (blk_cell BK577.out 0).trans rfl
                have hcz370_1 : wc.cell? ⟨gb577, 1, none⟩ = some (.int .i64 t573) := (blk_cell BK577.out 1).trans rfl
                have hfz370_0 := blk_frozen BK577.out 0
                have hfz370_1 := blk_frozen BK577.out 1
                try go_wp2_with (first | ((with_reducible refine gate_callee (f := 21) rfl ?_); refine goesL_ (some 96) rfl rfl Try.func21 (by kernel_rfl) rfl #[.agg #[.int .i64 t566, .int .i64 t567], .agg #[.int .i64 t568, .int .i64 t569], .agg #[.int .i64 t570, .int .i64 t571], .agg #[.int .i64 t572, .int .i64 t573]] rfl al ?_; (with_reducible refine (impl_CrossAt.calls kj79 t566 t567 t568 t569 t570 t571 t572 t573 t596 t597 t598 t599 t600 _ A131.out).mono ?_); rintro e w371 ⟨rfl, hb⟩; refine ⟨_, rfl, ?_⟩; have n0_ := Aside0.mk (blk_below (bf BK574.out) hb); have n1_ := Aside0.mk (blk_below (bf BK575.out) hb); have n2_ := Aside0.mk (blk_below (bf BK576.out) hb); have n3_ := Aside0.mk (blk_below (bf BK577.out) hb); have n4_ := Aside0.mk (blk_below (bf BK581.out) hb); have n5_ := Aside0.mk (blk_below (bf BK585.out) hb); have n6_ := Aside0.mk (blk_below (bf BK589.out) hb); have n7_ := Aside0.mk (blk_below (bf BK593.out) hb); have n8_ := Aside0.mk (below_step (lb HB.out) hb); clear BK574; clear BK575; clear BK576; clear BK577; clear BK581; clear BK585; clear BK589; clear BK593; clear HB; have BK574 := n0_; have BK575 := n1_; have BK576 := n2_; have BK577 := n3_; have BK581 := n4_; have BK585 := n5_; have BK589 := n6_; have BK593 := n7_; have HB := n8_; clear n0_ n1_ n2_ n3_ n4_ n5_ n6_ n7_ n8_; (try clear hb); (try clear hb2); (try clear hk); (try clear hi)) | ((with_reducible refine gate_dst (N := 15) rfl ?_); refine box_event ?hg (N := 15) ?hd (cs := #[.int .i64 0, .int .i64 0]) (t := 29) ?hr ?_; (case hd => rfl); (case hg => rfl); (case hr => first | (go_simp; done) | (go_simp; rfl)); intro gb601 hg w372 hbox hb; have n0_ := Aside0.mk (blk_below (bf BK574.out) hb); have n1_ := Aside0.mk (blk_below (bf BK575.out) hb); have n2_ := Aside0.mk (blk_below (bf BK576.out) hb); have n3_ := Aside0.mk (blk_below (bf BK577.out) hb); have n4_ := Aside0.mk (blk_below (bf BK581.out) hb); have n5_ := Aside0.mk (blk_below (bf BK585.out) hb); have n6_ := Aside0.mk (blk_below (bf BK589.out) hb); have n7_ := Aside0.mk (blk_below (bf BK593.out) hb); have n8_ := Aside0.mk (below_step (lb HB.out) hb); have n9_ := Aside0.mk (hbox); have n10_ := Aside0.mk ((by rw [hg]; exact (below_size (lb HB.out)) : w.heap.size ≤ gb601)); have n11_ := Aside0.mk ((by rw [hg]; exact (below_size (lb HB.out)) : w.heap.size ≤ gb601)); have n12_ := Aside0.mk ((by rw [hg]; exact Nat.ne_of_lt (blk_lt (bf BK574.out)) : gb574 ≠ gb601)); have n13_ := Aside0.mk ((by rw [hg]; exact Nat.ne_of_gt (blk_lt (bf BK574.out)) : gb601 ≠ gb574)); have n14_ := Aside0.mk ((by rw [hg]; exact Nat.ne_of_lt (blk_lt (bf BK575.out)) : gb575 ≠ gb601)); have n15_ := Aside0.mk ((by rw [hg]; exact Nat.ne_of_gt (blk_lt (bf BK575.out)) : gb601 ≠ gb575)); have n16_ := Aside0.mk ((by rw [hg]; exact Nat.ne_of_lt (blk_lt (bf BK576.out)) : gb576 ≠ gb601)); have n17_ := Aside0.mk ((by rw [hg]; exact Nat.ne_of_gt (blk_lt (bf BK576.out)) : gb601 ≠ gb576)); have n18_ := Aside0.mk ((by rw [hg]; exact Nat.ne_of_lt (blk_lt (bf BK577.out)) : gb577 ≠ gb601)); have n19_ := Aside0.mk ((by rw [hg]; exact Nat.ne_of_gt (blk_lt (bf BK577.out)) : gb601 ≠ gb577)); have n20_ := Aside0.mk ((by rw [hg]; exact Nat.ne_of_lt (blk_lt (bf BK581.out)) : gb581 ≠ gb601)); have n21_ := Aside0.mk ((by rw [hg]; exact Nat.ne_of_gt (blk_lt (bf BK581.out)) : gb601 ≠ gb581)); have n22_ := Aside0.mk ((by rw [hg]; exact Nat.ne_of_lt (blk_lt (bf BK585.out)) : gb585 ≠ gb601)); have n23_ := Aside0.mk ((by rw [hg]; exact Nat.ne_of_gt (blk_lt (bf BK585.out)) : gb601 ≠ gb585)); have n24_ := Aside0.mk ((by rw [hg]; exact Nat.ne_of_lt (blk_lt (bf BK589.out)) : gb589 ≠ gb601)); have n25_ := Aside0.mk ((by rw [hg]; exact Nat.ne_of_gt (blk_lt (bf BK589.out)) : gb601 ≠ gb589)); have n26_ := Aside0.mk ((by rw [hg]; exact Nat.ne_of_lt (blk_lt (bf BK593.out)) : gb593 ≠ gb601)); have n27_ := Aside0.mk ((by rw [hg]; exact Nat.ne_of_gt (blk_lt (bf BK593.out)) : gb601 ≠ gb593)); clear BK574; clear BK575; clear BK576; clear BK577; clear BK581; clear BK585; clear BK589; clear BK593; clear HB; have BK574 := n0_; have BK575 := n1_; have BK576 := n2_; have BK577 := n3_; have BK581 := n4_; have BK585 := n5_; have BK589 := n6_; have BK593 := n7_; have HB := n8_; have BK601 := n9_; have GW601 := n10_; have GE601 := n11_; have NB574_601 := n12_; have NB601_574 := n13_; have NB575_601 := n14_; have NB601_575 := n15_; have NB576_601 := n16_; have NB601_576 := n17_; have NB577_601 := n18_; have NB601_577 := n19_; have NB581_601 := n20_; have NB601_581 := n21_; have NB585_601 := n22_; have NB601_585 := n23_; have NB589_601 := n24_; have NB601_589 := n25_; have NB593_601 := n26_; have NB601_593 := n27_; clear n0_ n1_ n2_ n3_ n4_ n5_ n6_ n7_ n8_ n9_ n10_ n11_ n12_ n13_ n14_ n15_ n16_ n17_ n18_ n19_ n20_ n21_ n22_ n23_ n24_ n25_ n26_ n27_; clear hb hbox hg) | ((with_reducible refine gate_dst (N := 16) rfl ?_); refine box_event ?hg (N := 16) ?hd (cs := #[.int .i64 0, .int .i64 0]) (t := 29) ?hr ?_; (case hd => rfl); (case hg => rfl); (case hr => first | (go_simp; done) | (go_simp; rfl)); intro gb602 hg w373 hbox hb; have n0_ := Aside0.mk (blk_below (bf BK574.out) hb); have n1_ := Aside0.mk (blk_below (bf BK575.out) hb); have n2_ := Aside0.mk (blk_below (bf BK576.out) hb); have n3_ := Aside0.mk (blk_below (bf BK577.out) hb); have n4_ := Aside0.mk (blk_below (bf BK581.out) hb); have n5_ := Aside0.mk (blk_below (bf BK585.out) hb); have n6_ := Aside0.mk (blk_below (bf BK589.out) hb); have n7_ := Aside0.mk (blk_below (bf BK593.out) hb); have n8_ := Aside0.mk (blk_below (bf BK601.out) hb); have n9_ := Aside0.mk (below_step (lb HB.out) hb); have n10_ := Aside0.mk (hbox); have n11_ := Aside0.mk ((by rw [hg]; exact (below_size (lb HB.out)) : w.heap.size ≤ gb602)); have n12_ := Aside0.mk ((by rw [hg]; exact (below_size (lb HB.out)) : w.heap.size ≤ gb602)); have n13_ := Aside0.mk ((by rw [hg]; exact Nat.ne_of_lt (blk_lt (bf BK574.out)) : gb574 ≠ gb602)); have n14_ := Aside0.mk ((by rw [hg]; exact Nat.ne_of_gt (blk_lt (bf BK574.out)) : gb602 ≠ gb574)); have n15_ := Aside0.mk ((by rw [hg]; exact Nat.ne_of_lt (blk_lt (bf BK575.out)) : gb575 ≠ gb602)); have n16_ := Aside0.mk ((by rw [hg]; exact Nat.ne_of_gt (blk_lt (bf BK575.out)) : gb602 ≠ gb575)); have n17_ := Aside0.mk ((by rw [hg]; exact Nat.ne_of_lt (blk_lt (bf BK576.out)) : gb576 ≠ gb602)); have n18_ := Aside0.mk ((by rw [hg]; exact Nat.ne_of_gt (blk_lt (bf BK576.out)) : gb602 ≠ gb576)); have n19_ := Aside0.mk ((by rw [hg]; exact Nat.ne_of_lt (blk_lt (bf BK577.out)) : gb577 ≠ gb602)); have n20_ := Aside0.mk ((by rw [hg]; exact Nat.ne_of_gt (blk_lt (bf BK577.out)) : gb602 ≠ gb577)); have n21_ := Aside0.mk ((by rw [hg]; exact Nat.ne_of_lt (blk_lt (bf BK581.out)) : gb581 ≠ gb602)); have n22_ := Aside0.mk ((by rw [hg]; exact Nat.ne_of_gt (blk_lt (bf BK581.out)) : gb602 ≠ gb581)); have n23_ := Aside0.mk ((by rw [hg]; exact Nat.ne_of_lt (blk_lt (bf BK585.out)) : gb585 ≠ gb602)); have n24_ := Aside0.mk ((by rw [hg]; exact Nat.ne_of_gt (blk_lt (bf BK585.out)) : gb602 ≠ gb585)); have n25_ := Aside0.mk ((by rw [hg]; exact Nat.ne_of_lt (blk_lt (bf BK589.out)) : gb589 ≠ gb602)); have n26_ := Aside0.mk ((by rw [hg]; exact Nat.ne_of_gt (blk_lt (bf BK589.out)) : gb602 ≠ gb589)); have n27_ := Aside0.mk ((by rw [hg]; exact Nat.ne_of_lt (blk_lt (bf BK593.out)) : gb593 ≠ gb602)); have n28_ := Aside0.mk ((by rw [hg]; exact Nat.ne_of_gt (blk_lt (bf BK593.out)) : gb602 ≠ gb593)); have n29_ := Aside0.mk ((by rw [hg]; exact Nat.ne_of_lt (blk_lt (bf BK601.out)) : gb601 ≠ gb602)); have n30_ := Aside0.mk ((by rw [hg]; exact Nat.ne_of_gt (blk_lt (bf BK601.out)) : gb602 ≠ gb601)); clear BK574; clear BK575; clear BK576; clear BK577; clear BK581; clear BK585; clear BK589; clear BK593; clear BK601; clear HB; have BK574 := n0_; have BK575 := n1_; have BK576 := n2_; have BK577 := n3_; have BK581 := n4_; have BK585 := n5_; have BK589 := n6_; have BK593 := n7_; have BK601 := n8_; have HB := n9_; have BK602 := n10_; have GW602 := n11_; have GE602 := n12_; have NB574_602 := n13_; have NB602_574 := n14_; have NB575_602 := n15_; have NB602_575 := n16_; have NB576_602 := n17_; have NB602_576 := n18_; have NB577_602 := n19_; have NB602_577 := n20_; have NB581_602 := n21_; have NB602_581 := n22_; have NB585_602 := n23_; have NB602_585 := n24_; have NB589_602 := n25_; have NB602_589 := n26_; have NB593_602 := n27_; have NB602_593 := n28_; have NB601_602 := n29_; have NB602_601 := n30_; clear n0_ n1_ n2_ n3_ n4_ n5_ n6_ n7_ n8_ n9_ n10_ n11_ n12_ n13_ n14_ n15_ n16_ n17_ n18_ n19_ n20_ n21_ n22_ n23_ n24_ n25_ n26_ n27_ n28_ n29_ n30_; clear hb hbox hg; have hnb374 := NB601_574.out; have hnc374 := NB574_601.out; have hnb375 := NB601_575.out; have hnc375 := NB575_601.out; have hnb376 := NB601_576.out; have hnc376 := NB576_601.out; have hnb377 := NB601_577.out; have hnc377 := NB577_601.out; have hnb378 := NB601_581.out; have hnc378 := NB581_601.out; have hnb379 := NB601_585.out; have hnc379 := NB585_601.out; have hnb380 := NB601_589.out; have hnc380 := NB589_601.out; have hnb381 := NB601_593.out; have hnc381 := NB593_601.out; have hnb382 := NB601_602.out; have hnc382 := NB602_601.out; have hcz383_0 : w373.cell? ⟨gb601, 0, none⟩ = some (.int .i64 0) := (blk_cell BK601.out 0).trans rfl; have hcz383_1 : w373.cell? ⟨gb601, 1, none⟩ = some (.int .i64 0) := (blk_cell BK601.out 1).trans rfl; have hfz383_0 := blk_frozen BK601.out 0; have hfz383_1 := blk_frozen BK601.out 1; have hnb384 := NB602_574.out; have hnc384 := NB574_602.out; have hnb385 := NB602_575.out; have hnc385 := NB575_602.out; have hnb386 := NB602_576.out; have hnc386 := NB576_602.out; have hnb387 := NB602_577.out; have hnc387 := NB577_602.out; have hnb388 := NB602_581.out; have hnc388 := NB581_602.out; have hnb389 := NB602_585.out; have hnc389 := NB585_602.out; have hnb390 := NB602_589.out; have hnc390 := NB589_602.out; have hnb391 := NB602_593.out; have hnc391 := NB593_602.out; have hcz392_0 : w373.cell? ⟨gb602, 0, none⟩ = some (.int .i64 0) := (blk_cell BK602.out 0).trans rfl; have hcz392_1 : w373.cell? ⟨gb602, 1, none⟩ = some (.int .i64 0) := (blk_cell BK602.out 1).trans rfl; have hfz392_0 := blk_frozen BK602.out 0; have hfz392_1 := blk_frozen BK602.out 1))
                have n0_ : Aside0 (((((w373.setCell ⟨gb601, 0, none⟩ (.int .i64 t596)).setCell ⟨gb601, 1, none⟩ (.int .i64 t597)).setCell ⟨gb602, 0, none⟩ (.int .i64 t598)).setCell ⟨gb602, 1, none⟩ (.int .i64 t599)).heap[gb574]? = some (.cells #[.int .i64 t566, .int .i64 t567] 25 (0, 0))) := ⟨by (with_reducible repeat (first | refine blk_drewN ?_ _ | refine blk_drew ?_ | refine blk_alloc ?_ _)); refine blk_far ?_ NB574_602.out _; (with_reducible repeat (first | refine blk_drewN ?_ _ | refine blk_drew ?_ | refine blk_alloc ?_ _)); refine blk_far ?_ NB574_602.out _; (with_reducible repeat (first | refine blk_drewN ?_ _ | refine blk_drew ?_ | refine blk_alloc ?_ _)); refine blk_far ?_ NB574_601.out _; (with_reducible repeat (first | refine blk_drewN ?_ _ | refine blk_drew ?_ | refine blk_alloc ?_ _)); refine blk_far ?_ NB574_601.out _; (with_reducible repeat (first | refine blk_drewN ?_ _ | refine blk_drew ?_ | refine blk_alloc ?_ _)); exact BK574.out⟩
                have n1_ : Aside0 (((((w373.setCell ⟨gb601, 0, none⟩ (.int .i64 t596)).setCell ⟨gb601, 1, none⟩ (.int .i64 t597)).setCell ⟨gb602, 0, none⟩ (.int .i64 t598)).setCell ⟨gb602, 1, none⟩ (.int .i64 t599)).heap[gb575]? = some (.cells #[.int .i64 t568, .int .i64 t569] 25 (0, 0))) := ⟨by (with_reducible repeat (first | refine blk_drewN ?_ _ | refine blk_drew ?_ | refine blk_alloc ?_ _)); refine blk_far ?_ NB575_602.out _; (with_reducible repeat (first | refine blk_drewN ?_ _ | refine blk_drew ?_ | refine blk_alloc ?_ _)); refine blk_far ?_ NB575_602.out _; (with_reducible repeat (first | refine blk_drewN ?_ _ | refine blk_drew ?_ | refine blk_alloc ?_ _)); refine blk_far ?_ NB575_601.out _; (with_reducible repeat (first | refine blk_drewN ?_ _ | refine blk_drew ?_ | refine blk_alloc ?_ _)); refine blk_far ?_ NB575_601.out _; (with_reducible repeat (first | refine blk_drewN ?_ _ | refine blk_drew ?_ | refine blk_alloc ?_ _)); exact BK575.out⟩
                have n2_ : Aside0 (((((w373.setCell ⟨gb601, 0, none⟩ (.int .i64 t596)).setCell ⟨gb601, 1, none⟩ (.int .i64 t597)).setCell ⟨gb602, 0, none⟩ (.int .i64 t598)).setCell ⟨gb602, 1, none⟩ (.int .i64 t599)).heap[gb576]? = some (.cells #[.int .i64 t570, .int .i64 t571] 25 (0, 0))) := ⟨by (with_reducible repeat (first | refine blk_drewN ?_ _ | refine blk_drew ?_ | refine blk_alloc ?_ _)); refine blk_far ?_ NB576_602.out _; (with_reducible repeat (first | refine blk_drewN ?_ _ | refine blk_drew ?_ | refine blk_alloc ?_ _)); refine blk_far ?_ NB576_602.out _; (with_reducible repeat (first | refine blk_drewN ?_ _ | refine blk_drew ?_ | refine blk_alloc ?_ _)); refine blk_far ?_ NB576_601.out _; (with_reducible repeat (first | refine blk_drewN ?_ _ | refine blk_drew ?_ | refine blk_alloc ?_ _)); refine blk_far ?_ NB576_601.out _; (with_reducible repeat (first | refine blk_drewN ?_ _ | refine blk_drew ?_ | refine blk_alloc ?_ _)); exact BK576.out⟩
                have n3_ : Aside0 (((((w373.setCell ⟨gb601, 0, none⟩ (.int .i64 t596)).setCell ⟨gb601, 1, none⟩ (.int .i64 t597)).setCell ⟨gb602, 0, none⟩ (.int .i64 t598)).setCell ⟨gb602, 1, none⟩ (.int .i64 t599)).heap[gb577]? = some (.cells #[.int .i64 t572, .int .i64 t573] 25 (0, 0))) := ⟨by (with_reducible repeat (first | refine blk_drewN ?_ _ | refine blk_drew ?_ | refine blk_alloc ?_ _)); refine blk_far ?_ NB577_602.out _; (with_reducible repeat (first | refine blk_drewN ?_ _ | refine blk_drew ?_ | refine blk_alloc ?_ _)); refine blk_far ?_ NB577_602.out _; (with_reducible repeat (first | refine blk_drewN ?_ _ | refine blk_drew ?_ | refine blk_alloc ?_ _)); refine blk_far ?_ NB577_601.out _; (with_reducible repeat (first | refine blk_drewN ?_ _ | refine blk_drew ?_ | refine blk_alloc ?_ _)); refine blk_far ?_ NB577_601.out _; (with_reducible repeat (first | refine blk_drewN ?_ _ | refine blk_drew ?_ | refine blk_alloc ?_ _)); exact BK577.out⟩
                have n4_ : Aside0 (((((w373.setCell ⟨gb601, 0, none⟩ (.int .i64 t596)).setCell ⟨gb601, 1, none⟩ (.int .i64 t597)).setCell ⟨gb602, 0, none⟩ (.int .i64 t598)).setCell ⟨gb602, 1, none⟩ (.int .i64 t599)).heap[gb581]? = some (.cells #[.int .i64 t578, .int .i64 t579] 29 (0, 0))) := ⟨by (with_reducible repeat (first | refine blk_drewN ?_ _ | refine blk_drew ?_ | refine blk_alloc ?_ _)); refine blk_far ?_ NB581_602.out _; (with_reducible repeat (first | refine blk_drewN ?_ _ | refine blk_drew ?_ | refine blk_alloc ?_ _)); refine blk_far ?_ NB581_602.out _; (with_reducible repeat (first | refine blk_drewN ?_ _ | refine blk_drew ?_ | refine blk_alloc ?_ _)); refine blk_far ?_ NB581_601.out _; (with_reducible repeat (first | refine blk_drewN ?_ _ | refine blk_drew ?_ | refine blk_alloc ?_ _)); refine blk_far ?_ NB581_601.out _; (with_reducible repeat (first | refine blk_drewN ?_ _ | refine blk_drew ?_ | refine blk_alloc ?_ _)); exact BK581.out⟩
                have n5_ : Aside0 (((((w373.setCell ⟨gb601, 0, none⟩ (.int .i64 t596)).setCell ⟨gb601, 1, none⟩ (.int .i64 t597)).setCell ⟨gb602, 0, none⟩ (.int .i64 t598)).setCell ⟨gb602, 1, none⟩ (.int .i64 t599)).heap[gb585]? = some (.cells #[.int .i64 t582, .int .i64 t583] 29 (0, 0))) := ⟨by (with_reducible repeat (first | refine blk_drewN ?_ _ | refine blk_drew ?_ | refine blk_alloc ?_ _)); refine blk_far ?_ NB585_602.out _; (with_reducible repeat (first | refine blk_drewN ?_ _ | refine blk_drew ?_ | refine blk_alloc ?_ _)); refine blk_far ?_ NB585_602.out _; (with_reducible repeat (first | refine blk_drewN ?_ _ | refine blk_drew ?_ | refine blk_alloc ?_ _)); refine blk_far ?_ NB585_601.out _; (with_reducible repeat (first | refine blk_drewN ?_ _ | refine blk_drew ?_ | refine blk_alloc ?_ _)); refine blk_far ?_ NB585_601.out _; (with_reducible repeat (first | refine blk_drewN ?_ _ | refine blk_drew ?_ | refine blk_alloc ?_ _)); exact BK585.out⟩
                have n6_ : Aside0 (((((w373.setCell ⟨gb601, 0, none⟩ (.int .i64 t596)).setCell ⟨gb601, 1, none⟩ (.int .i64 t597)).setCell ⟨gb602, 0, none⟩ (.int .i64 t598)).setCell ⟨gb602, 1, none⟩ (.int .i64 t599)).heap[gb589]? = some (.cells #[.int .i64 t586, .int .i64 t587] 29 (0, 0))) := ⟨by (with_reducible repeat (first | refine blk_drewN ?_ _ | refine blk_drew ?_ | refine blk_alloc ?_ _)); refine blk_far ?_ NB589_602.out _; (with_reducible repeat (first | refine blk_drewN ?_ _ | refine blk_drew ?_ | refine blk_alloc ?_ _)); refine blk_far ?_ NB589_602.out _; (with_reducible repeat (first | refine blk_drewN ?_ _ | refine blk_drew ?_ | refine blk_alloc ?_ _)); refine blk_far ?_ NB589_601.out _; (with_reducible repeat (first | refine blk_drewN ?_ _ | refine blk_drew ?_ | refine blk_alloc ?_ _)); refine blk_far ?_ NB589_601.out _; (with_reducible repeat (first | refine blk_drewN ?_ _ | refine blk_drew ?_ | refine blk_alloc ?_ _)); exact BK589.out⟩
                have n7_ : Aside0 (((((w373.setCell ⟨gb601, 0, none⟩ (.int .i64 t596)).setCell ⟨gb601, 1, none⟩ (.int .i64 t597)).setCell ⟨gb602, 0, none⟩ (.int .i64 t598)).setCell ⟨gb602, 1, none⟩ (.int .i64 t599)).heap[gb593]? = some (.cells #[.int .i64 t590, .int .i64 t591] 29 (0, 0))) := ⟨by (with_reducible repeat (first | refine blk_drewN ?_ _ | refine blk_drew ?_ | refine blk_alloc ?_ _)); refine blk_far ?_ NB593_602.out _; (with_reducible repeat (first | refine blk_drewN ?_ _ | refine blk_drew ?_ | refine blk_alloc ?_ _)); refine blk_far ?_ NB593_602.out _; (with_reducible repeat (first | refine blk_drewN ?_ _ | refine blk_drew ?_ | refine blk_alloc ?_ _)); refine blk_far ?_ NB593_601.out _; (with_reducible repeat (first | refine blk_drewN ?_ _ | refine blk_drew ?_ | refine blk_alloc ?_ _)); refine blk_far ?_ NB593_601.out _; (with_reducible repeat (first | refine blk_drewN ?_ _ | refine blk_drew ?_ | refine blk_alloc ?_ _)); exact BK593.out⟩
                have n8_ : Aside0 (((((w373.setCell ⟨gb601, 0, none⟩ (.int .i64 t596)).setCell ⟨gb601, 1, none⟩ (.int .i64 t597)).setCell ⟨gb602, 0, none⟩ (.int .i64 t598)).setCell ⟨gb602, 1, none⟩ (.int .i64 t599)).heap[gb601]? = some (.cells #[.int .i64 t596, .int .i64 t597] 29 (0, 0))) := ⟨by (with_reducible repeat (first | refine blk_drewN ?_ _ | refine blk_drew ?_ | refine blk_alloc ?_ _)); refine blk_far ?_ NB601_602.out _; (with_reducible repeat (first | refine blk_drewN ?_ _ | refine blk_drew ?_ | refine blk_alloc ?_ _)); refine blk_far ?_ NB601_602.out _; (with_reducible repeat (first | refine blk_drewN ?_ _ | refine blk_drew ?_ | refine blk_alloc ?_ _)); refine blk_put (cs := #[.int .i64 t596, .int .i64 0]) ?_ 1 _ rfl; (with_reducible repeat (first | refine blk_drewN ?_ _ | refine blk_drew ?_ | refine blk_alloc ?_ _)); refine blk_put (cs := #[.int .i64 0, .int .i64 0]) ?_ 0 _ rfl; (with_reducible repeat (first | refine blk_drewN ?_ _ | refine blk_drew ?_ | refine blk_alloc ?_ _)); exact BK601.out⟩
                have n9_ : Aside0 (((((w373.setCell ⟨gb601, 0, none⟩ (.int .i64 t596)).setCell ⟨gb601, 1, none⟩ (.int .i64 t597)).setCell ⟨gb602, 0, none⟩ (.int .i64 t598)).setCell ⟨gb602, 1, none⟩ (.int .i64 t599)).heap[gb602]? = some (.cells #[.int .i64 t598, .int .i64 t599] 29 (0, 0))) := ⟨by (with_reducible repeat (first | refine blk_drewN ?_ _ | refine blk_drew ?_ | refine blk_alloc ?_ _)); refine blk_put (cs := #[.int .i64 t598, .int .i64 0]) ?_ 1 _ rfl; (with_reducible repeat (first | refine blk_drewN ?_ _ | refine blk_drew ?_ | refine blk_alloc ?_ _)); refine blk_put (cs := #[.int .i64 0, .int .i64 0]) ?_ 0 _ rfl; (with_reducible repeat (first | refine blk_drewN ?_ _ | refine blk_drew ?_ | refine blk_alloc ?_ _)); refine blk_far ?_ NB602_601.out _; (with_reducible repeat (first | refine blk_drewN ?_ _ | refine blk_drew ?_ | refine blk_alloc ?_ _)); refine blk_far ?_ NB602_601.out _; (with_reducible repeat (first | refine blk_drewN ?_ _ | refine blk_drew ?_ | refine blk_alloc ?_ _)); exact BK602.out⟩
                have n10_ : Aside0 (Below w.heap.size w ((((w373.setCell ⟨gb601, 0, none⟩ (.int .i64 t596)).setCell ⟨gb601, 1, none⟩ (.int .i64 t597)).setCell ⟨gb602, 0, none⟩ (.int .i64 t598)).setCell ⟨gb602, 1, none⟩ (.int .i64 t599))) := ⟨lb HB.out⟩
                (try clear BK574)
                (try clear BK575)
                (try clear BK576)
                (try clear BK577)
                (try clear BK581)
                (try clear BK585)
                (try clear BK589)
                (try clear BK593)
                (try clear BK601)
                (try clear BK602)
                (try clear HB)
                generalize ((((w373.setCell ⟨gb601, 0, none⟩ (.int .i64 t596)).setCell ⟨gb601, 1, none⟩ (.int .i64 t597)).setCell ⟨gb602, 0, none⟩ (.int .i64 t598)).setCell ⟨gb602, 1, none⟩ (.int .i64 t599)) = w393 at n0_ n1_ n2_ n3_ n4_ n5_ n6_ n7_ n8_ n9_ n10_ ⊢
                have BK574 := n0_
                have BK575 := n1_
                have BK576 := n2_
                have BK577 := n3_
                have BK581 := n4_
                have BK585 := n5_
                have BK589 := n6_
                have BK593 := n7_
                have BK601 := n8_
                have BK602 := n9_
                have HB := n10_
                clear n0_ n1_ n2_ n3_ n4_ n5_ n6_ n7_ n8_ n9_ n10_
                have n0_ := Aside0.mk (blk_drew BK574.out)
                have n1_ := Aside0.mk (blk_drew BK575.out)
                have n2_ := Aside0.mk (blk_drew BK576.out)
                have n3_ := Aside0.mk (blk_drew BK577.out)
                have n4_ := Aside0.mk (blk_drew BK581.out)
                have n5_ := Aside0.mk (blk_drew BK585.out)
                have n6_ := Aside0.mk (blk_drew BK589.out)
                have n7_ := Aside0.mk (blk_drew BK593.out)
                have n8_ := Aside0.mk (blk_drew BK601.out)
                have n9_ := Aside0.mk (blk_drew BK602.out)
                have n10_ := Aside0.mk (below_drew1 HB.out)
                clear BK574
                clear BK575
                clear BK576
                clear BK577
                clear BK581
                clear BK585
                clear BK589
                clear BK593
                clear BK601
                clear BK602
                clear HB
                have BK574 := n0_
                have BK575 := n1_
                have BK576 := n2_
                have BK577 := n3_
                have BK581 := n4_
                have BK585 := n5_
                have BK589 := n6_
                have BK593 := n7_
                have BK601 := n8_
                have BK602 := n9_
                have HB := n10_
                clear n0_ n1_ n2_ n3_ n4_ n5_ n6_ n7_ n8_ n9_ n10_
                refine start_ (n := 14) (S := fun w' => w'.cell? ⟨gb581, 0, none⟩ = some (.int .i64 t578) ∧ w'.cell? ⟨gb581, 1, none⟩ = some (.int .i64 t579) ∧ w'.cell? ⟨gb575, 0, none⟩ = some (.int .i64 t568) ∧ w'.cell? ⟨gb575, 1, none⟩ = some (.int .i64 t569) ∧ w'.cell? ⟨gb574, 0, none⟩ = some (.int .i64 t566) ∧ w'.cell? ⟨gb574, 1, none⟩ = some (.int .i64 t567)) (ds := []) #[false, false, false, false, false, false, false, false, false, false, false, false, false, false] (by kernel_rfl) rfl rfl ⟨(blk_cell BK581.out 0).trans rfl, (blk_cell BK581.out 1).trans rfl, (blk_cell BK575.out 0).trans rfl, (blk_cell BK575.out 1).trans rfl, (blk_cell BK574.out 0).trans rfl, (blk_cell BK574.out 1).trans rfl⟩ (fun hHeld => ?_); refine with_tabW laws_FnCrossOf.tab13 laws_FnCrossOf.bits13 (fun HT_ HW_ => ?_)
                generalize w393.drew = w394 at BK574 BK575 BK576 BK577 BK581 BK585 BK589 BK593 BK601 BK602 HB hHeld ⊢
                refine pure_ (i := 1) (N := some 102) (v := ?_) (a' := ?_) #[false, true, false, false, false, false, false, false, false, false, false, false, false, false] rfl rfl (any_of HT_.out (by kernel_rfl)) (fun _ _ _ h => h) (Or.inl ⟨by rfl, ?_⟩) ?_ ?_
                rotate_left
                · intro w'
                  go_simp
                  with_reducible rfl
                rotate_left
                · simp only [Act.put, List.setIfInBounds_toArray, List.set_cons_zero, List.set_cons_succ, i64_w, i32_w]
                  rfl
                refine pure_ (i := 3) (N := some 104) (v := ?_) (a' := ?_) #[false, true, false, true, false, false, false, false, false, false, false, false, false, false] rfl rfl (any_of HT_.out (by kernel_rfl)) (fun _ _ _ h => h) (Or.inl ⟨by rfl, ?_⟩) ?_ ?_
                rotate_left
                · intro w'
                  go_simp
                  with_reducible rfl
                rotate_left
                · simp only [Act.put, List.setIfInBounds_toArray, List.set_cons_zero, List.set_cons_succ, i64_w, i32_w]
                  rfl
                refine take_ (i := 0) (N := some 101) (v := ?_) (a' := ?_) #[true, true, false, true, false, false, false, false, false, false, false, false, false, false] rfl rfl (take_ofW HT_.out HW_.out (by kernel_rfl)) (fun _ _ _ h => h) (Or.inl ⟨by rfl, ?_⟩) hHeld ?_ ?_
                rotate_left
                · rintro w' ⟨s0, s1, s2, s3, s4, s5⟩
                  go_simp
                  with_reducible rfl
                rotate_left
                · simp only [Act.put, List.setIfInBounds_toArray, List.set_cons_zero, List.set_cons_succ, i64_w, i32_w]
                  rfl
                refine take_ (i := 2) (N := some 103) (v := ?_) (a' := ?_) #[true, true, true, true, false, false, false, false, false, false, false, false, false, false] rfl rfl (take_ofW HT_.out HW_.out (by kernel_rfl)) (fun _ _ _ h => h) (Or.inl ⟨by rfl, ?_⟩) hHeld ?_ ?_
                rotate_left
                · rintro w' ⟨s0, s1, s2, s3, s4, s5⟩
                  go_simp
                  with_reducible rfl
                rotate_left
                · simp only [Act.put, List.setIfInBounds_toArray, List.set_cons_zero, List.set_cons_succ, i64_w, i32_w]
                  rfl
                refine take_ (i := 4) (N := some 105) (v := ?_) (a' := ?_) #[true, true, true, true, true, false, false, false, false, false, false, false, false, false] rfl rfl (take_ofW HT_.out HW_.out (by kernel_rfl)) (fun _ _ _ h => h) (Or.inl ⟨by rfl, ?_⟩) hHeld ?_ ?_
                rotate_left
                · rintro w' ⟨s0, s1, s2, s3, s4, s5⟩
                  go_simp
                  with_reducible rfl
                rotate_left
                · simp only [Act.put, List.setIfInBounds_toArray, List.set_cons_zero, List.set_cons_succ, i64_w, i32_w]
                  rfl
                refine pure_ (i := 5) (N := some 106) (v := ?_) (a' := ?_) #[true, true, true, true, true, true, false, false, false, false, false, false, false, false] rfl rfl (any_of HT_.out (by kernel_rfl)) (fun _ _ _ h => h) (Or.inl ⟨by rfl, ?_⟩) ?_ ?_
                rotate_left
                · intro w'
                  go_simp
                  with_reducible rfl
                rotate_left
                · simp only [Act.put, List.setIfInBounds_toArray, List.set_cons_zero, List.set_cons_succ, i64_w, i32_w]
                  rfl
                refine join_ (σ := Nat) 2 #[true, true, true, true, true, true, true, true, true, true, true, true, false, false] (fun s_ => [(107, .agg #[.int .i64 t603, .int .i64 t604]), (108, .tuple #[.agg #[.int .i64 t605, .int .i64 t606], .bool t607]), (18, .pointer (some ⟨s_, 0, none⟩)), (100, .tuple #[.agg #[.int .i64 t605, .int .i64 t606], .bool t607]), (109, .agg #[.int .i64 t605, .int .i64 t606]), (110, .bool t607)]) (fun s_ w' => (w'.cell? ⟨gb581, 0, none⟩ = some (.int .i64 t578) ∧ w'.cell? ⟨gb581, 1, none⟩ = some (.int .i64 t579) ∧ w'.cell? ⟨gb575, 0, none⟩ = some (.int .i64 t568) ∧ w'.cell? ⟨gb575, 1, none⟩ = some (.int .i64 t569) ∧ w'.cell? ⟨gb574, 0, none⟩ = some (.int .i64 t566) ∧ w'.cell? ⟨gb574, 1, none⟩ = some (.int .i64 t567)) ∧ (w'.heap[gb574]? = some (.cells #[.int .i64 t566, .int .i64 t567] 25 (0, 0))) ∧ (w'.heap[gb575]? = some (.cells #[.int .i64 t568, .int .i64 t569] 25 (0, 0))) ∧ (w'.heap[gb576]? = some (.cells #[.int .i64 t570, .int .i64 t571] 25 (0, 0))) ∧ (w'.heap[gb577]? = some (.cells #[.int .i64 t572, .int .i64 t573] 25 (0, 0))) ∧ (w'.heap[gb581]? = some (.cells #[.int .i64 t578, .int .i64 t579] 29 (0, 0))) ∧ (w'.heap[gb585]? = some (.cells #[.int .i64 t582, .int .i64 t583] 29 (0, 0))) ∧ (w'.heap[gb589]? = some (.cells #[.int .i64 t586, .int .i64 t587] 29 (0, 0))) ∧ (w'.heap[gb593]? = some (.cells #[.int .i64 t590, .int .i64 t591] 29 (0, 0))) ∧ (w'.heap[gb601]? = some (.cells #[.int .i64 t596, .int .i64 t597] 29 (0, 0))) ∧ (w'.heap[gb602]? = some (.cells #[.int .i64 t598, .int .i64 t599] 29 (0, 0))) ∧ (w'.heap[s_]? = some (.cells #[.int .i64 0, .int .i64 0] 29 (0, 0))) ∧ (w.heap.size ≤ s_) ∧ (w.heap.size ≤ s_) ∧ (gb574 ≠ s_) ∧ (s_ ≠ gb574) ∧ (gb575 ≠ s_) ∧ (s_ ≠ gb575) ∧ (gb576 ≠ s_) ∧ (s_ ≠ gb576) ∧ (gb577 ≠ s_) ∧ (s_ ≠ gb577) ∧ (gb581 ≠ s_) ∧ (s_ ≠ gb581) ∧ (gb585 ≠ s_) ∧ (s_ ≠ gb585) ∧ (gb589 ≠ s_) ∧ (s_ ≠ gb589) ∧ (gb593 ≠ s_) ∧ (s_ ≠ gb593) ∧ (gb601 ≠ s_) ∧ (s_ ≠ gb601) ∧ (gb602 ≠ s_) ∧ (s_ ≠ gb602) ∧ (Below w.heap.size w w')) ?_ ?_
                rotate_left
                · intro hCont
                  refine two_ (i := 6) (j := 11) (Ni := some 107) (Nj := some 18) #[true, true, true, true, true, true, true, false, false, false, false, false, false, false] #[true, true, true, true, true, true, false, false, false, false, false, true, false, false] rfl rfl rfl rfl (two_of HT_.out (by kernel_rfl)) (by decide) (by decide) (fun K hK => ?_) (fun K hK => ?_)
                  · skip
                    refine goes_ Try.func24 (by kernel_rfl) rfl #[.int .i64 (wrap64 (t568 - t566))] (by rfl) rfl rfl al ?_
                    with_reducible refine (laws_whole.calls (wrap64 (t568 - t566)) t603 t604 _ A132.out).mono ?_
                    rintro e w395 ⟨rfl, hb⟩
                    refine ⟨_, rfl, ?_⟩
                    have n0_ := Aside0.mk (blk_below (bf BK574.out) hb)
                    have n1_ := Aside0.mk (blk_below (bf BK575.out) hb)
                    have n2_ := Aside0.mk (blk_below (bf BK576.out) hb)
                    have n3_ := Aside0.mk (blk_below (bf BK577.out) hb)
                    have n4_ := Aside0.mk (blk_below (bf BK581.out) hb)
                    have n5_ := Aside0.mk (blk_below (bf BK585.out) hb)
                    have n6_ := Aside0.mk (blk_below (bf BK589.out) hb)
                    have n7_ := Aside0.mk (blk_below (bf BK593.out) hb)
                    have n8_ := Aside0.mk (blk_below (bf BK601.out) hb)
                    have n9_ := Aside0.mk (blk_below (bf BK602.out) hb)
                    have n10_ := Aside0.mk (below_step (lb HB.out) hb)
                    clear BK574
                    clear BK575
                    clear BK576
                    clear BK577
                    clear BK581
                    clear BK585
                    clear BK589
                    clear BK593
                    clear BK601
                    clear BK602
                    clear HB
                    have BK574 := n0_
                    have BK575 := n1_
                    have BK576 := n2_
                    have BK577 := n3_
                    have BK581 := n4_
                    have BK585 := n5_
                    have BK589 := n6_
                    have BK593 := n7_
                    have BK601 := n8_
                    have BK602 := n9_
                    have HB := n10_
                    clear n0_ n1_ n2_ n3_ n4_ n5_ n6_ n7_ n8_ n9_ n10_
                    (try clear hb)
                    (try clear hb2)
                    (try clear hk)
                    (try clear hi)
                    refine hK.out _ _ ⟨(blk_cell BK581.out 0).trans rfl, (blk_cell BK581.out 1).trans rfl, (blk_cell BK575.out 0).trans rfl, (blk_cell BK575.out 1).trans rfl, (blk_cell BK574.out 0).trans rfl, (blk_cell BK574.out 1).trans rfl⟩ (fun hHeld => ?_)
                    clear hK K
                    refine norm_ (a' := ?_) ?_ ?_
                    rotate_left
                    · show Act.put _ (some 107) _ = _
                      simp only [Act.put, List.setIfInBounds_toArray, List.set_cons_zero, List.set_cons_succ, i64_w, i32_w]
                      rfl
                    refine two_ (i := 7) (j := 11) (Ni := some 108) (Nj := some 18) #[true, true, true, true, true, true, true, true, false, false, false, false, false, false] #[true, true, true, true, true, true, true, false, false, false, false, true, false, false] rfl rfl rfl rfl (two_of HT_.out (by kernel_rfl)) (by decide) (by decide) (fun K hK => ?_) (fun K hK => ?_)
                    · skip
                      refine goes_ Try.func30 (by kernel_rfl) rfl #[.agg #[.int .i64 t578, .int .i64 t579], .agg #[.int .i64 t603, .int .i64 t604]] (by rfl) rfl rfl al ?_
                      with_reducible refine (impl_QuoTimes.calls kj79 t578 t579 t603 t604 t605 t606 t607 _ A133.out).mono ?_
                      rintro e w396 ⟨rfl, hb⟩
                      refine ⟨_, rfl, ?_⟩
                      have n0_ := Aside0.mk (blk_below (bf BK574.out) hb)
                      have n1_ := Aside0.mk (blk_below (bf BK575.out) hb)
                      have n2_ := Aside0.mk (blk_below (bf BK576.out) hb)
                      have n3_ := Aside0.mk (blk_below (bf BK577.out) hb)
                      have n4_ := Aside0.mk (blk_below (bf BK581.out) hb)
                      have n5_ := Aside0.mk (blk_below (bf BK585.out) hb)
                      have n6_ := Aside0.mk (blk_below (bf BK589.out) hb)
                      have n7_ := Aside0.mk (blk_below (bf BK593.out) hb)
                      have n8_ := Aside0.mk (blk_below (bf BK601.out) hb)
                      have n9_ := Aside0.mk (blk_below (bf BK602.out) hb)
                      have n10_ := Aside0.mk (below_step (lb HB.out) hb)
                      clear BK574
                      clear BK575
                      clear BK576
                      clear BK577
                      clear BK581
                      clear BK585
                      clear BK589
                      clear BK593
                      clear BK601
                      clear BK602
                      clear HB
                      have BK574 := n0_
                      have BK575 := n1_
                      have BK576 := n2_
                      have BK577 := n3_
                      have BK581 := n4_
                      have BK585 := n5_
                      have BK589 := n6_
                      have BK593 := n7_
                      have BK601 := n8_
                      have BK602 := n9_
                      have HB := n10_
                      clear n0_ n1_ n2_ n3_ n4_ n5_ n6_ n7_ n8_ n9_ n10_
                      (try clear hb)
                      (try clear hb2)
                      (try clear hk)
                      (try clear hi)
                      refine hK.out _ _ ⟨(blk_cell BK581.out 0).trans rfl, (blk_cell BK581.out 1).trans rfl, (blk_cell BK575.out 0).trans rfl, (blk_cell BK575.out 1).trans rfl, (blk_cell BK574.out 0).trans rfl, (blk_cell BK574.out 1).trans rfl⟩ (fun hHeld => ?_)
                      clear hK K
                      refine norm_ (a' := ?_) ?_ ?_
                      rotate_left
                      · show Act.put _ (some 108) _ = _
                        simp only [Act.put, List.setIfInBounds_toArray, List.set_cons_zero, List.set_cons_succ, i64_w, i32_w]
                        rfl
                      refine pure_ (i := 8) (N := some 100) (v := ?_) (a' := ?_) #[true, true, true, true, true, true, true, true, true, false, false, false, false, false] rfl rfl (any_of HT_.out (by kernel_rfl)) (fun _ _ _ h => h) (Or.inl ⟨by rfl, ?_⟩) ?_ ?_
                      rotate_left
                      · intro w'
                        go_simp
                        with_reducible rfl
                      rotate_left
                      · simp only [Act.put, List.setIfInBounds_toArray, List.set_cons_zero, List.set_cons_succ, i64_w, i32_w]
                        rfl
                      refine pure_ (i := 9) (N := some 109) (v := ?_) (a' := ?_) #[true, true, true, true, true, true, true, true, true, true, false, false, false, false] rfl rfl (any_of HT_.out (by kernel_rfl)) (fun _ _ _ h => h) (Or.inl ⟨by rfl, ?_⟩) ?_ ?_
                      rotate_left
                      · intro w'
                        go_simp
                        with_reducible rfl
                      rotate_left
                      · simp only [Act.put, List.setIfInBounds_toArray, List.set_cons_zero, List.set_cons_succ, i64_w, i32_w]
                        rfl
                      refine pure_ (i := 10) (N := some 110) (v := ?_) (a' := ?_) #[true, true, true, true, true, true, true, true, true, true, true, false, false, false] rfl rfl (any_of HT_.out (by kernel_rfl)) (fun _ _ _ h => h) (Or.inl ⟨by rfl, ?_⟩) ?_ ?_
                      rotate_left
                      · intro w'
                        go_simp
                        with_reducible rfl
                      rotate_left
                      · simp only [Act.put, List.setIfInBounds_toArray, List.set_cons_zero, List.set_cons_succ, i64_w, i32_w]
                        rfl
                      refine one_ (i := 11) (N := some 18) #[true, true, true, true, true, true, true, true, true, true, true, true, false, false] rfl rfl (one_of HT_.out (by kernel_rfl)) (by decide) (fun K hK => ?_)
                      refine box_step ?hg (N := 18) ?hd (cs := #[.int .i64 0, .int .i64 0]) (t := 29) ?hr ?_; (case hd => rfl); (case hg => rfl); (case hr => first | (go_simp; done) | (go_simp; rfl))
                      intro gb608 hg w397 hbox hb
                      have n0_ := Aside0.mk (blk_below (bf BK574.out) hb)
                      have n1_ := Aside0.mk (blk_below (bf BK575.out) hb)
                      have n2_ := Aside0.mk (blk_below (bf BK576.out) hb)
                      have n3_ := Aside0.mk (blk_below (bf BK577.out) hb)
                      have n4_ := Aside0.mk (blk_below (bf BK581.out) hb)
                      have n5_ := Aside0.mk (blk_below (bf BK585.out) hb)
                      have n6_ := Aside0.mk (blk_below (bf BK589.out) hb)
                      have n7_ := Aside0.mk (blk_below (bf BK593.out) hb)
                      have n8_ := Aside0.mk (blk_below (bf BK601.out) hb)
                      have n9_ := Aside0.mk (blk_below (bf BK602.out) hb)
                      have n10_ := Aside0.mk (below_step (lb HB.out) hb)
                      have n11_ := Aside0.mk (hbox)
                      have n12_ := Aside0.mk ((by rw [hg]; exact (below_size (lb HB.out)) : w.heap.size ≤ gb608))
                      have n13_ := Aside0.mk ((by rw [hg]; exact (below_size (lb HB.out)) : w.heap.size ≤ gb608))
                      have n14_ := Aside0.mk ((by rw [hg]; exact Nat.ne_of_lt (blk_lt (bf BK574.out)) : gb574 ≠ gb608))
                      have n15_ := Aside0.mk ((by rw [hg]; exact Nat.ne_of_gt (blk_lt (bf BK574.out)) : gb608 ≠ gb574))
                      have n16_ := Aside0.mk ((by rw [hg]; exact Nat.ne_of_lt (blk_lt (bf BK575.out)) : gb575 ≠ gb608))
                      have n17_ := Aside0.mk ((by rw [hg]; exact Nat.ne_of_gt (blk_lt (bf BK575.out)) : gb608 ≠ gb575))
                      have n18_ := Aside0.mk ((by rw [hg]; exact Nat.ne_of_lt (blk_lt (bf BK576.out)) : gb576 ≠ gb608))
                      have n19_ := Aside0.mk ((by rw [hg]; exact Nat.ne_of_gt (blk_lt (bf BK576.out)) : gb608 ≠ gb576))
                      have n20_ := Aside0.mk ((by rw [hg]; exact Nat.ne_of_lt (blk_lt (bf BK577.out)) : gb577 ≠ gb608))
                      have n21_ := Aside0.mk ((by rw [hg]; exact Nat.ne_of_gt (blk_lt (bf BK577.out)) : gb608 ≠ gb577))
                      have n22_ := Aside0.mk ((by rw [hg]; exact Nat.ne_of_lt (blk_lt (bf BK581.out)) : gb581 ≠ gb608))
                      have n23_ := Aside0.mk ((by rw [hg]; exact Nat.ne_of_gt (blk_lt (bf BK581.out)) : gb608 ≠ gb581))
                      have n24_ := Aside0.mk ((by rw [hg]; exact Nat.ne_of_lt (blk_lt (bf BK585.out)) : gb585 ≠ gb608))
                      have n25_ := Aside0.mk ((by rw [hg]; exact Nat.ne_of_gt (blk_lt (bf BK585.out)) : gb608 ≠ gb585))
                      have n26_ := Aside0.mk ((by rw [hg]; exact Nat.ne_of_lt (blk_lt (bf BK589.out)) : gb589 ≠ gb608))
                      have n27_ := Aside0.mk ((by rw [hg]; exact Nat.ne_of_gt (blk_lt (bf BK589.out)) : gb608 ≠ gb589))
                      have n28_ := Aside0.mk ((by rw [hg]; exact Nat.ne_of_lt (blk_lt (bf BK593.out)) : gb593 ≠ gb608))
                      have n29_ := Aside0.mk ((by rw [hg]; exact Nat.ne_of_gt (blk_lt (bf BK593.out)) : gb608 ≠ gb593))
                      have n30_ := Aside0.mk ((by rw [hg]; exact Nat.ne_of_lt (blk_lt (bf BK601.out)) : gb601 ≠ gb608))
                      have n31_ := Aside0.mk ((by rw [hg]; exact Nat.ne_of_gt (blk_lt (bf BK601.out)) : gb608 ≠ gb601))
                      have n32_ := Aside0.mk ((by rw [hg]; exact Nat.ne_of_lt (blk_lt (bf BK602.out)) : gb602 ≠ gb608))
                      have n33_ := Aside0.mk ((by rw [hg]; exact Nat.ne_of_gt (blk_lt (bf BK602.out)) : gb608 ≠ gb602))
                      clear BK574
                      clear BK575
                      clear BK576
                      clear BK577
                      clear BK581
                      clear BK585
                      clear BK589
                      clear BK593
                      clear BK601
                      clear BK602
                      clear HB
                      have BK574 := n0_
                      have BK575 := n1_
                      have BK576 := n2_
                      have BK577 := n3_
                      have BK581 := n4_
                      have BK585 := n5_
                      have BK589 := n6_
                      have BK593 := n7_
                      have BK601 := n8_
                      have BK602 := n9_
                      have HB := n10_
                      have BK608 := n11_
                      have GW608 := n12_
                      have GE608 := n13_
                      have NB574_608 := n14_
                      have NB608_574 := n15_
                      have NB575_608 := n16_
                      have NB608_575 := n17_
                      have NB576_608 := n18_
                      have NB608_576 := n19_
                      have NB577_608 := n20_
                      have NB608_577 := n21_
                      have NB581_608 := n22_
                      have NB608_581 := n23_
                      have NB585_608 := n24_
                      have NB608_585 := n25_
                      have NB589_608 := n26_
                      have NB608_589 := n27_
                      have NB593_608 := n28_
                      have NB608_593 := n29_
                      have NB601_608 := n30_
                      have NB608_601 := n31_
                      have NB602_608 := n32_
                      have NB608_602 := n33_
                      clear n0_ n1_ n2_ n3_ n4_ n5_ n6_ n7_ n8_ n9_ n10_ n11_ n12_ n13_ n14_ n15_ n16_ n17_ n18_ n19_ n20_ n21_ n22_ n23_ n24_ n25_ n26_ n27_ n28_ n29_ n30_ n31_ n32_ n33_
                      clear hb hbox hg
                      refine hK.out _ _ ⟨(blk_cell BK581.out 0).trans rfl, (blk_cell BK581.out 1).trans rfl, (blk_cell BK575.out 0).trans rfl, (blk_cell BK575.out 1).trans rfl, (blk_cell BK574.out 0).trans rfl, (blk_cell BK574.out 1).trans rfl⟩ (fun hHeld => ?_)
                      clear hK K
                      refine norm_ (a' := ?_) ?_ ?_
                      rotate_left
                      · show Act.put _ (some 18) _ = _
                        simp only [Act.put, List.setIfInBounds_toArray, List.set_cons_zero, List.set_cons_succ, i64_w, i32_w]
                        rfl
                      exact norm_ (by simp only [putAll, Act.put, List.setIfInBounds_toArray, List.set_cons_zero, List.set_cons_succ]) (hCont (gb608) _ ⟨hHeld, (bf BK574.out), (bf BK575.out), (bf BK576.out), (bf BK577.out), (bf BK581.out), (bf BK585.out), (bf BK589.out), (bf BK593.out), (bf BK601.out), (bf BK602.out), (bf BK608.out), GW608.out, GE608.out, NB574_608.out, NB608_574.out, NB575_608.out, NB608_575.out, NB576_608.out, NB608_576.out, NB577_608.out, NB608_577.out, NB581_608.out, NB608_581.out, NB585_608.out, NB608_585.out, NB589_608.out, NB608_589.out, NB593_608.out, NB608_593.out, NB601_608.out, NB608_601.out, NB602_608.out, NB608_602.out, (lb HB.out)⟩)
                    · skip
                      refine box_step ?hg (N := 18) ?hd (cs := #[.int .i64 0, .int .i64 0]) (t := 29) ?hr ?_; (case hd => rfl); (case hg => rfl); (case hr => first | (go_simp; done) | (go_simp; rfl))
                      intro gb608 hg w396 hbox hb
                      have n0_ := Aside0.mk (blk_below (bf BK574.out) hb)
                      have n1_ := Aside0.mk (blk_below (bf BK575.out) hb)
                      have n2_ := Aside0.mk (blk_below (bf BK576.out) hb)
                      have n3_ := Aside0.mk (blk_below (bf BK577.out) hb)
                      have n4_ := Aside0.mk (blk_below (bf BK581.out) hb)
                      have n5_ := Aside0.mk (blk_below (bf BK585.out) hb)
                      have n6_ := Aside0.mk (blk_below (bf BK589.out) hb)
                      have n7_ := Aside0.mk (blk_below (bf BK593.out) hb)
                      have n8_ := Aside0.mk (blk_below (bf BK601.out) hb)
                      have n9_ := Aside0.mk (blk_below (bf BK602.out) hb)
                      have n10_ := Aside0.mk (below_step (lb HB.out) hb)
                      have n11_ := Aside0.mk (hbox)
                      have n12_ := Aside0.mk ((by rw [hg]; exact (below_size (lb HB.out)) : w.heap.size ≤ gb608))
                      have n13_ := Aside0.mk ((by rw [hg]; exact (below_size (lb HB.out)) : w.heap.size ≤ gb608))
                      have n14_ := Aside0.mk ((by rw [hg]; exact Nat.ne_of_lt (blk_lt (bf BK574.out)) : gb574 ≠ gb608))
                      have n15_ := Aside0.mk ((by rw [hg]; exact Nat.ne_of_gt (blk_lt (bf BK574.out)) : gb608 ≠ gb574))
                      have n16_ := Aside0.mk ((by rw [hg]; exact Nat.ne_of_lt (blk_lt (bf BK575.out)) : gb575 ≠ gb608))
                      have n17_ := Aside0.mk ((by rw [hg]; exact Nat.ne_of_gt (blk_lt (bf BK575.out)) : gb608 ≠ gb575))
                      have n18_ := Aside0.mk ((by rw [hg]; exact Nat.ne_of_lt (blk_lt (bf BK576.out)) : gb576 ≠ gb608))
                      have n19_ := Aside0.mk ((by rw [hg]; exact Nat.ne_of_gt (blk_lt (bf BK576.out)) : gb608 ≠ gb576))
                      have n20_ := Aside0.mk ((by rw [hg]; exact Nat.ne_of_lt (blk_lt (bf BK577.out)) : gb577 ≠ gb608))
                      have n21_ := Aside0.mk ((by rw [hg]; exact Nat.ne_of_gt (blk_lt (bf BK577.out)) : gb608 ≠ gb577))
                      have n22_ := Aside0.mk ((by rw [hg]; exact Nat.ne_of_lt (blk_lt (bf BK581.out)) : gb581 ≠ gb608))
                      have n23_ := Aside0.mk ((by rw [hg]; exact Nat.ne_of_gt (blk_lt (bf BK581.out)) : gb608 ≠ gb581))
                      have n24_ := Aside0.mk ((by rw [hg]; exact Nat.ne_of_lt (blk_lt (bf BK585.out)) : gb585 ≠ gb608))
                      have n25_ := Aside0.mk ((by rw [hg]; exact Nat.ne_of_gt (blk_lt (bf BK585.out)) : gb608 ≠ gb585))
                      have n26_ := Aside0.mk ((by rw [hg]; exact Nat.ne_of_lt (blk_lt (bf BK589.out)) : gb589 ≠ gb608))
                      have n27_ := Aside0.mk ((by rw [hg]; exact Nat.ne_of_gt (blk_lt (bf BK589.out)) : gb608 ≠ gb589))
                      have n28_ := Aside0.mk ((by rw [hg]; exact Nat.ne_of_lt (blk_lt (bf BK593.out)) : gb593 ≠ gb608))
                      have n29_ := Aside0.mk ((by rw [hg]; exact Nat.ne_of_gt (blk_lt (bf BK593.out)) : gb608 ≠ gb593))
                      have n30_ := Aside0.mk ((by rw [hg]; exact Nat.ne_of_lt (blk_lt (bf BK601.out)) : gb601 ≠ gb608))
                      have n31_ := Aside0.mk ((by rw [hg]; exact Nat.ne_of_gt (blk_lt (bf BK601.out)) : gb608 ≠ gb601))
                      have n32_ := Aside0.mk ((by rw [hg]; exact Nat.ne_of_lt (blk_lt (bf BK602.out)) : gb602 ≠ gb608))
                      have n33_ := Aside0.mk ((by rw [hg]; exact Nat.ne_of_gt (blk_lt (bf BK602.out)) : gb608 ≠ gb602))
                      clear BK574
                      clear BK575
                      clear BK576
                      clear BK577
                      clear BK581
                      clear BK585
                      clear BK589
                      clear BK593
                      clear BK601
                      clear BK602
                      clear HB
                      have BK574 := n0_
                      have BK575 := n1_
                      have BK576 := n2_
                      have BK577 := n3_
                      have BK581 := n4_
                      have BK585 := n5_
                      have BK589 := n6_
                      have BK593 := n7_
                      have BK601 := n8_
                      have BK602 := n9_
                      have HB := n10_
                      have BK608 := n11_
                      have GW608 := n12_
                      have GE608 := n13_
                      have NB574_608 := n14_
                      have NB608_574 := n15_
                      have NB575_608 := n16_
                      have NB608_575 := n17_
                      have NB576_608 := n18_
                      have NB608_576 := n19_
                      have NB577_608 := n20_
                      have NB608_577 := n21_
                      have NB581_608 := n22_
                      have NB608_581 := n23_
                      have NB585_608 := n24_
                      have NB608_585 := n25_
                      have NB589_608 := n26_
                      have NB608_589 := n27_
                      have NB593_608 := n28_
                      have NB608_593 := n29_
                      have NB601_608 := n30_
                      have NB608_601 := n31_
                      have NB602_608 := n32_
                      have NB608_602 := n33_
                      clear n0_ n1_ n2_ n3_ n4_ n5_ n6_ n7_ n8_ n9_ n10_ n11_ n12_ n13_ n14_ n15_ n16_ n17_ n18_ n19_ n20_ n21_ n22_ n23_ n24_ n25_ n26_ n27_ n28_ n29_ n30_ n31_ n32_ n33_
                      clear hb hbox hg
                      refine hK.out _ _ ⟨(blk_cell BK581.out 0).trans rfl, (blk_cell BK581.out 1).trans rfl, (blk_cell BK575.out 0).trans rfl, (blk_cell BK575.out 1).trans rfl, (blk_cell BK574.out 0).trans rfl, (blk_cell BK574.out 1).trans rfl⟩ (fun hHeld => ?_)
                      clear hK K
                      refine norm_ (a' := ?_) ?_ ?_
                      rotate_left
                      · show Act.put _ (some 18) _ = _
                        simp only [Act.put, List.setIfInBounds_toArray, List.set_cons_zero, List.set_cons_succ, i64_w, i32_w]
                        rfl
                      refine one_ (i := 7) (N := some 108) #[true, true, true, true, true, true, true, true, false, false, false, true, false, false] rfl rfl (one_of HT_.out (by kernel_rfl)) (by decide) (fun K hK => ?_)
                      refine goes_ Try.func30 (by kernel_rfl) rfl #[.agg #[.int .i64 t578, .int .i64 t579], .agg #[.int .i64 t603, .int .i64 t604]] (by rfl) rfl rfl al ?_
                      with_reducible refine (impl_QuoTimes.calls kj79 t578 t579 t603 t604 t605 t606 t607 _ A133.out).mono ?_
                      rintro e w397 ⟨rfl, hb⟩
                      refine ⟨_, rfl, ?_⟩
                      have n0_ := Aside0.mk (blk_below (bf BK574.out) hb)
                      have n1_ := Aside0.mk (blk_below (bf BK575.out) hb)
                      have n2_ := Aside0.mk (blk_below (bf BK576.out) hb)
                      have n3_ := Aside0.mk (blk_below (bf BK577.out) hb)
                      have n4_ := Aside0.mk (blk_below (bf BK581.out) hb)
                      have n5_ := Aside0.mk (blk_below (bf BK585.out) hb)
                      have n6_ := Aside0.mk (blk_below (bf BK589.out) hb)
                      have n7_ := Aside0.mk (blk_below (bf BK593.out) hb)
                      have n8_ := Aside0.mk (blk_below (bf BK601.out) hb)
                      have n9_ := Aside0.mk (blk_below (bf BK602.out) hb)
                      have n10_ := Aside0.mk (blk_below (bf BK608.out) hb)
                      have n11_ := Aside0.mk (below_step (lb HB.out) hb)
                      clear BK574
                      clear BK575
                      clear BK576
                      clear BK577
                      clear BK581
                      clear BK585
                      clear BK589
                      clear BK593
                      clear BK601
                      clear BK602
                      clear BK608
                      clear HB
                      have BK574 := n0_
                      have BK575 := n1_
                      have BK576 := n2_
                      have BK577 := n3_
                      have BK581 := n4_
                      have BK585 := n5_
                      have BK589 := n6_
                      have BK593 := n7_
                      have BK601 := n8_
                      have BK602 := n9_
                      have BK608 := n10_
                      have HB := n11_
                      clear n0_ n1_ n2_ n3_ n4_ n5_ n6_ n7_ n8_ n9_ n10_ n11_
                      (try clear hb)
                      (try clear hb2)
                      (try clear hk)
                      (try clear hi)
                      refine hK.out _ _ ⟨(blk_cell BK581.out 0).trans rfl, (blk_cell BK581.out 1).trans rfl, (blk_cell BK575.out 0).trans rfl, (blk_cell BK575.out 1).trans rfl, (blk_cell BK574.out 0).trans rfl, (blk_cell BK574.out 1).trans rfl⟩ (fun hHeld => ?_)
                      clear hK K
                      refine norm_ (a' := ?_) ?_ ?_
                      rotate_left
                      · show Act.put _ (some 108) _ = _
                        simp only [Act.put, List.setIfInBounds_toArray, List.set_cons_zero, List.set_cons_succ, i64_w, i32_w]
                        rfl
                      refine pure_ (i := 8) (N := some 100) (v := ?_) (a' := ?_) #[true, true, true, true, true, true, true, true, true, false, false, true, false, false] rfl rfl (any_of HT_.out (by kernel_rfl)) (fun _ _ _ h => h) (Or.inl ⟨by rfl, ?_⟩) ?_ ?_
                      rotate_left
                      · intro w'
                        go_simp
                        with_reducible rfl
                      rotate_left
                      · simp only [Act.put, List.setIfInBounds_toArray, List.set_cons_zero, List.set_cons_succ, i64_w, i32_w]
                        rfl
                      refine pure_ (i := 9) (N := some 109) (v := ?_) (a' := ?_) #[true, true, true, true, true, true, true, true, true, true, false, true, false, false] rfl rfl (any_of HT_.out (by kernel_rfl)) (fun _ _ _ h => h) (Or.inl ⟨by rfl, ?_⟩) ?_ ?_
                      rotate_left
                      · intro w'
                        go_simp
                        with_reducible rfl
                      rotate_left
                      · simp only [Act.put, List.setIfInBounds_toArray, List.set_cons_zero, List.set_cons_succ, i64_w, i32_w]
                        rfl
                      refine pure_ (i := 10) (N := some 110) (v := ?_) (a' := ?_) #[true, true, true, true, true, true, true, true, true, true, true, true, false, false] rfl rfl (any_of HT_.out (by kernel_rfl)) (fun _ _ _ h => h) (Or.inl ⟨by rfl, ?_⟩) ?_ ?_
                      rotate_left
                      · intro w'
                        go_simp
                        with_reducible rfl
                      rotate_left
                      · simp only [Act.put, List.setIfInBounds_toArray, List.set_cons_zero, List.set_cons_succ, i64_w, i32_w]
                        rfl
                      exact norm_ (by simp only [putAll, Act.put, List.setIfInBounds_toArray, List.set_cons_zero, List.set_cons_succ]) (hCont (gb608) _ ⟨hHeld, (bf BK574.out), (bf BK575.out), (bf BK576.out), (bf BK577.out), (bf BK581.out), (bf BK585.out), (bf BK589.out), (bf BK593.out), (bf BK601.out), (bf BK602.out), (bf BK608.out), GW608.out, GE608.out, NB574_608.out, NB608_574.out, NB575_608.out, NB608_575.out, NB576_608.out, NB608_576.out, NB577_608.out, NB608_577.out, NB581_608.out, NB608_581.out, NB585_608.out, NB608_585.out, NB589_608.out, NB608_589.out, NB593_608.out, NB608_593.out, NB601_608.out, NB608_601.out, NB602_608.out, NB608_602.out, (lb HB.out)⟩)
                  · skip
                    refine box_step ?hg (N := 18) ?hd (cs := #[.int .i64 0, .int .i64 0]) (t := 29) ?hr ?_; (case hd => rfl); (case hg => rfl); (case hr => first | (go_simp; done) | (go_simp; rfl))
                    intro gb608 hg w395 hbox hb
                    have n0_ := Aside0.mk (blk_below (bf BK574.out) hb)
                    have n1_ := Aside0.mk (blk_below (bf BK575.out) hb)
                    have n2_ := Aside0.mk (blk_below (bf BK576.out) hb)
                    have n3_ := Aside0.mk (blk_below (bf BK577.out) hb)
                    have n4_ := Aside0.mk (blk_below (bf BK581.out) hb)
                    have n5_ := Aside0.mk (blk_below (bf BK585.out) hb)
                    have n6_ := Aside0.mk (blk_below (bf BK589.out) hb)
                    have n7_ := Aside0.mk (blk_below (bf BK593.out) hb)
                    have n8_ := Aside0.mk (blk_below (bf BK601.out) hb)
                    have n9_ := Aside0.mk (blk_below (bf BK602.out) hb)
                    have n10_ := Aside0.mk (below_step (lb HB.out) hb)
                    have n11_ := Aside0.mk (hbox)
                    have n12_ := Aside0.mk ((by rw [hg]; exact (below_size (lb HB.out)) : w.heap.size ≤ gb608))
                    have n13_ := Aside0.mk ((by rw [hg]; exact (below_size (lb HB.out)) : w.heap.size ≤ gb608))
                    have n14_ := Aside0.mk ((by rw [hg]; exact Nat.ne_of_lt (blk_lt (bf BK574.out)) : gb574 ≠ gb608))
                    have n15_ := Aside0.mk ((by rw [hg]; exact Nat.ne_of_gt (blk_lt (bf BK574.out)) : gb608 ≠ gb574))
                    have n16_ := Aside0.mk ((by rw [hg]; exact Nat.ne_of_lt (blk_lt (bf BK575.out)) : gb575 ≠ gb608))
                    have n17_ := Aside0.mk ((by rw [hg]; exact Nat.ne_of_gt (blk_lt (bf BK575.out)) : gb608 ≠ gb575))
                    have n18_ := Aside0.mk ((by rw [hg]; exact Nat.ne_of_lt (blk_lt (bf BK576.out)) : gb576 ≠ gb608))
                    have n19_ := Aside0.mk ((by rw [hg]; exact Nat.ne_of_gt (blk_lt (bf BK576.out)) : gb608 ≠ gb576))
                    have n20_ := Aside0.mk ((by rw [hg]; exact Nat.ne_of_lt (blk_lt (bf BK577.out)) : gb577 ≠ gb608))
                    have n21_ := Aside0.mk ((by rw [hg]; exact Nat.ne_of_gt (blk_lt (bf BK577.out)) : gb608 ≠ gb577))
                    have n22_ := Aside0.mk ((by rw [hg]; exact Nat.ne_of_lt (blk_lt (bf BK581.out)) : gb581 ≠ gb608))
                    have n23_ := Aside0.mk ((by rw [hg]; exact Nat.ne_of_gt (blk_lt (bf BK581.out)) : gb608 ≠ gb581))
                    have n24_ := Aside0.mk ((by rw [hg]; exact Nat.ne_of_lt (blk_lt (bf BK585.out)) : gb585 ≠ gb608))
                    have n25_ := Aside0.mk ((by rw [hg]; exact Nat.ne_of_gt (blk_lt (bf BK585.out)) : gb608 ≠ gb585))
                    have n26_ := Aside0.mk ((by rw [hg]; exact Nat.ne_of_lt (blk_lt (bf BK589.out)) : gb589 ≠ gb608))
                    have n27_ := Aside0.mk ((by rw [hg]; exact Nat.ne_of_gt (blk_lt (bf BK589.out)) : gb608 ≠ gb589))
                    have n28_ := Aside0.mk ((by rw [hg]; exact Nat.ne_of_lt (blk_lt (bf BK593.out)) : gb593 ≠ gb608))
                    have n29_ := Aside0.mk ((by rw [hg]; exact Nat.ne_of_gt (blk_lt (bf BK593.out)) : gb608 ≠ gb593))
                    have n30_ := Aside0.mk ((by rw [hg]; exact Nat.ne_of_lt (blk_lt (bf BK601.out)) : gb601 ≠ gb608))
                    have n31_ := Aside0.mk ((by rw [hg]; exact Nat.ne_of_gt (blk_lt (bf BK601.out)) : gb608 ≠ gb601))
                    have n32_ := Aside0.mk ((by rw [hg]; exact Nat.ne_of_lt (blk_lt (bf BK602.out)) : gb602 ≠ gb608))
                    have n33_ := Aside0.mk ((by rw [hg]; exact Nat.ne_of_gt (blk_lt (bf BK602.out)) : gb608 ≠ gb602))
                    clear BK574
                    clear BK575
                    clear BK576
                    clear BK577
                    clear BK581
                    clear BK585
                    clear BK589
                    clear BK593
                    clear BK601
                    clear BK602
                    clear HB
                    have BK574 := n0_
                    have BK575 := n1_
                    have BK576 := n2_
                    have BK577 := n3_
                    have BK581 := n4_
                    have BK585 := n5_
                    have BK589 := n6_
                    have BK593 := n7_
                    have BK601 := n8_
                    have BK602 := n9_
                    have HB := n10_
                    have BK608 := n11_
                    have GW608 := n12_
                    have GE608 := n13_
                    have NB574_608 := n14_
                    have NB608_574 := n15_
                    have NB575_608 := n16_
                    have NB608_575 := n17_
                    have NB576_608 := n18_
                    have NB608_576 := n19_
                    have NB577_608 := n20_
                    have NB608_577 := n21_
                    have NB581_608 := n22_
                    have NB608_581 := n23_
                    have NB585_608 := n24_
                    have NB608_585 := n25_
                    have NB589_608 := n26_
                    have NB608_589 := n27_
                    have NB593_608 := n28_
                    have NB608_593 := n29_
                    have NB601_608 := n30_
                    have NB608_601 := n31_
                    have NB602_608 := n32_
                    have NB608_602 := n33_
                    clear n0_ n1_ n2_ n3_ n4_ n5_ n6_ n7_ n8_ n9_ n10_ n11_ n12_ n13_ n14_ n15_ n16_ n17_ n18_ n19_ n20_ n21_ n22_ n23_ n24_ n25_ n26_ n27_ n28_ n29_ n30_ n31_ n32_ n33_
                    clear hb hbox hg
                    refine hK.out _ _ ⟨(blk_cell BK581.out 0).trans rfl, (blk_cell BK581.out 1).trans rfl, (blk_cell BK575.out 0).trans rfl, (blk_cell BK575.out 1).trans rfl, (blk_cell BK574.out 0).trans rfl, (blk_cell BK574.out 1).trans rfl⟩ (fun hHeld => ?_)
                    clear hK K
                    refine norm_ (a' := ?_) ?_ ?_
                    rotate_left
                    · show Act.put _ (some 18) _ = _
                      simp only [Act.put, List.setIfInBounds_toArray, List.set_cons_zero, List.set_cons_succ, i64_w, i32_w]
                      rfl
                    refine one_ (i := 6) (N := some 107) #[true, true, true, true, true, true, true, false, false, false, false, true, false, false] rfl rfl (one_of HT_.out (by kernel_rfl)) (by decide) (fun K hK => ?_)
                    refine goes_ Try.func24 (by kernel_rfl) rfl #[.int .i64 (wrap64 (t568 - t566))] (by rfl) rfl rfl al ?_
                    with_reducible refine (laws_whole.calls (wrap64 (t568 - t566)) t603 t604 _ A132.out).mono ?_
                    rintro e w396 ⟨rfl, hb⟩
                    refine ⟨_, rfl, ?_⟩
                    have n0_ := Aside0.mk (blk_below (bf BK574.out) hb)
                    have n1_ := Aside0.mk (blk_below (bf BK575.out) hb)
                    have n2_ := Aside0.mk (blk_below (bf BK576.out) hb)
                    have n3_ := Aside0.mk (blk_below (bf BK577.out) hb)
                    have n4_ := Aside0.mk (blk_below (bf BK581.out) hb)
                    have n5_ := Aside0.mk (blk_below (bf BK585.out) hb)
                    have n6_ := Aside0.mk (blk_below (bf BK589.out) hb)
                    have n7_ := Aside0.mk (blk_below (bf BK593.out) hb)
                    have n8_ := Aside0.mk (blk_below (bf BK601.out) hb)
                    have n9_ := Aside0.mk (blk_below (bf BK602.out) hb)
                    have n10_ := Aside0.mk (blk_below (bf BK608.out) hb)
                    have n11_ := Aside0.mk (below_step (lb HB.out) hb)
                    clear BK574
                    clear BK575
                    clear BK576
                    clear BK577
                    clear BK581
                    clear BK585
                    clear BK589
                    clear BK593
                    clear BK601
                    clear BK602
                    clear BK608
                    clear HB
                    have BK574 := n0_
                    have BK575 := n1_
                    have BK576 := n2_
                    have BK577 := n3_
                    have BK581 := n4_
                    have BK585 := n5_
                    have BK589 := n6_
                    have BK593 := n7_
                    have BK601 := n8_
                    have BK602 := n9_
                    have BK608 := n10_
                    have HB := n11_
                    clear n0_ n1_ n2_ n3_ n4_ n5_ n6_ n7_ n8_ n9_ n10_ n11_
                    (try clear hb)
                    (try clear hb2)
                    (try clear hk)
                    (try clear hi)
                    refine hK.out _ _ ⟨(blk_cell BK581.out 0).trans rfl, (blk_cell BK581.out 1).trans rfl, (blk_cell BK575.out 0).trans rfl, (blk_cell BK575.out 1).trans rfl, (blk_cell BK574.out 0).trans rfl, (blk_cell BK574.out 1).trans rfl⟩ (fun hHeld => ?_)
                    clear hK K
                    refine norm_ (a' := ?_) ?_ ?_
                    rotate_left
                    · show Act.put _ (some 107) _ = _
                      simp only [Act.put, List.setIfInBounds_toArray, List.set_cons_zero, List.set_cons_succ, i64_w, i32_w]
                      rfl
                    refine one_ (i := 7) (N := some 108) #[true, true, true, true, true, true, true, true, false, false, false, true, false, false] rfl rfl (one_of HT_.out (by kernel_rfl)) (by decide) (fun K hK => ?_)
                    refine goes_ Try.func30 (by kernel_rfl) rfl #[.agg #[.int .i64 t578, .int .i64 t579], .agg #[.int .i64 t603, .int .i64 t604]] (by rfl) rfl rfl al ?_
                    with_reducible refine (impl_QuoTimes.calls kj79 t578 t579 t603 t604 t605 t606 t607 _ A133.out).mono ?_
                    rintro e w397 ⟨rfl, hb⟩
                    refine ⟨_, rfl, ?_⟩
                    have n0_ := Aside0.mk (blk_below (bf BK574.out) hb)
                    have n1_ := Aside0.mk (blk_below (bf BK575.out) hb)
                    have n2_ := Aside0.mk (blk_below (bf BK576.out) hb)
                    have n3_ := Aside0.mk (blk_below (bf BK577.out) hb)
                    have n4_ := Aside0.mk (blk_below (bf BK581.out) hb)
                    have n5_ := Aside0.mk (blk_below (bf BK585.out) hb)
                    have n6_ := Aside0.mk (blk_below (bf BK589.out) hb)
                    have n7_ := Aside0.mk (blk_below (bf BK593.out) hb)
                    have n8_ := Aside0.mk (blk_below (bf BK601.out) hb)
                    have n9_ := Aside0.mk (blk_below (bf BK602.out) hb)
                    have n10_ := Aside0.mk (blk_below (bf BK608.out) hb)
                    have n11_ := Aside0.mk (below_step (lb HB.out) hb)
                    clear BK574
                    clear BK575
                    clear BK576
                    clear BK577
                    clear BK581
                    clear BK585
                    clear BK589
                    clear BK593
                    clear BK601
                    clear BK602
                    clear BK608
                    clear HB
                    have BK574 := n0_
                    have BK575 := n1_
                    have BK576 := n2_
                    have BK577 := n3_
                    have BK581 := n4_
                    have BK585 := n5_
                    have BK589 := n6_
                    have BK593 := n7_
                    have BK601 := n8_
                    have BK602 := n9_
                    have BK608 := n10_
                    have HB := n11_
                    clear n0_ n1_ n2_ n3_ n4_ n5_ n6_ n7_ n8_ n9_ n10_ n11_
                    (try clear hb)
                    (try clear hb2)
                    (try clear hk)
                    (try clear hi)
                    refine hK.out _ _ ⟨(blk_cell BK581.out 0).trans rfl, (blk_cell BK581.out 1).trans rfl, (blk_cell BK575.out 0).trans rfl, (blk_cell BK575.out 1).trans rfl, (blk_cell BK574.out 0).trans rfl, (blk_cell BK574.out 1).trans rfl⟩ (fun hHeld => ?_)
                    clear hK K
                    refine norm_ (a' := ?_) ?_ ?_
                    rotate_left
                    · show Act.put _ (some 108) _ = _
                      simp only [Act.put, List.setIfInBounds_toArray, List.set_cons_zero, List.set_cons_succ, i64_w, i32_w]
                      rfl
                    refine pure_ (i := 8) (N := some 100) (v := ?_) (a' := ?_) #[true, true, true, true, true, true, true, true, true, false, false, true, false, false] rfl rfl (any_of HT_.out (by kernel_rfl)) (fun _ _ _ h => h) (Or.inl ⟨by rfl, ?_⟩) ?_ ?_
                    rotate_left
                    · intro w'
                      go_simp
                      with_reducible rfl
                    rotate_left
                    · simp only [Act.put, List.setIfInBounds_toArray, List.set_cons_zero, List.set_cons_succ, i64_w, i32_w]
                      rfl
                    refine pure_ (i := 9) (N := some 109) (v := ?_) (a' := ?_) #[true, true, true, true, true, true, true, true, true, true, false, true, false, false] rfl rfl (any_of HT_.out (by kernel_rfl)) (fun _ _ _ h => h) (Or.inl ⟨by rfl, ?_⟩) ?_ ?_
                    rotate_left
                    · intro w'
                      go_simp
                      with_reducible rfl
                    rotate_left
                    · simp only [Act.put, List.setIfInBounds_toArray, List.set_cons_zero, List.set_cons_succ, i64_w, i32_w]
                      rfl
                    refine pure_ (i := 10) (N := some 110) (v := ?_) (a' := ?_) #[true, true, true, true, true, true, true, true, true, true, true, true, false, false] rfl rfl (any_of HT_.out (by kernel_rfl)) (fun _ _ _ h => h) (Or.inl ⟨by rfl, ?_⟩) ?_ ?_
                    rotate_left
                    · intro w'
                      go_simp
                      with_reducible rfl
                    rotate_left
                    · simp only [Act.put, List.setIfInBounds_toArray, List.set_cons_zero, List.set_cons_succ, i64_w, i32_w]
                      rfl
                    exact norm_ (by simp only [putAll, Act.put, List.setIfInBounds_toArray, List.set_cons_zero, List.set_cons_succ]) (hCont (gb608) _ ⟨hHeld, (bf BK574.out), (bf BK575.out), (bf BK576.out), (bf BK577.out), (bf BK581.out), (bf BK585.out), (bf BK589.out), (bf BK593.out), (bf BK601.out), (bf BK602.out), (bf BK608.out), GW608.out, GE608.out, NB574_608.out, NB608_574.out, NB575_608.out, NB608_575.out, NB576_608.out, NB608_576.out, NB577_608.out, NB608_577.out, NB581_608.out, NB608_581.out, NB585_608.out, NB608_585.out, NB589_608.out, NB608_589.out, NB593_608.out, NB608_593.out, NB601_608.out, NB608_601.out, NB602_608.out, NB608_602.out, (lb HB.out)⟩)
                rintro gb608 w398 ⟨hS_, h0_, h1_, h2_, h3_, h4_, h5_, h6_, h7_, h8_, h9_, h10_, h11_, h12_, h13_, h14_, h15_, h16_, h17_, h18_, h19_, h20_, h21_, h22_, h23_, h24_, h25_, h26_, h27_, h28_, h29_, h30_, h31_, h32_, h33_⟩
                have n0_ : Aside0 (w398.heap[gb574]? = some (.cells #[.int .i64 t566, .int .i64 t567] 25 (0, 0))) := ⟨h0_⟩
                have n1_ : Aside0 (w398.heap[gb575]? = some (.cells #[.int .i64 t568, .int .i64 t569] 25 (0, 0))) := ⟨h1_⟩
                have n2_ : Aside0 (w398.heap[gb576]? = some (.cells #[.int .i64 t570, .int .i64 t571] 25 (0, 0))) := ⟨h2_⟩
                have n3_ : Aside0 (w398.heap[gb577]? = some (.cells #[.int .i64 t572, .int .i64 t573] 25 (0, 0))) := ⟨h3_⟩
                have n4_ : Aside0 (w398.heap[gb581]? = some (.cells #[.int .i64 t578, .int .i64 t579] 29 (0, 0))) := ⟨h4_⟩
                have n5_ : Aside0 (w398.heap[gb585]? = some (.cells #[.int .i64 t582, .int .i64 t583] 29 (0, 0))) := ⟨h5_⟩
                have n6_ : Aside0 (w398.heap[gb589]? = some (.cells #[.int .i64 t586, .int .i64 t587] 29 (0, 0))) := ⟨h6_⟩
                have n7_ : Aside0 (w398.heap[gb593]? = some (.cells #[.int .i64 t590, .int .i64 t591] 29 (0, 0))) := ⟨h7_⟩
                have n8_ : Aside0 (w398.heap[gb601]? = some (.cells #[.int .i64 t596, .int .i64 t597] 29 (0, 0))) := ⟨h8_⟩
                have n9_ : Aside0 (w398.heap[gb602]? = some (.cells #[.int .i64 t598, .int .i64 t599] 29 (0, 0))) := ⟨h9_⟩
                have n10_ : Aside0 (w398.heap[gb608]? = some (.cells #[.int .i64 0, .int .i64 0] 29 (0, 0))) := ⟨h10_⟩
                have n11_ : Aside0 (w.heap.size ≤ gb608) := ⟨h11_⟩
                have n12_ : Aside0 (w.heap.size ≤ gb608) := ⟨h12_⟩
                have n13_ : Aside0 (gb574 ≠ gb608) := ⟨h13_⟩
                have n14_ : Aside0 (gb608 ≠ gb574) := ⟨h14_⟩
                have n15_ : Aside0 (gb575 ≠ gb608) := ⟨h15_⟩
                have n16_ : Aside0 (gb608 ≠ gb575) := ⟨h16_⟩
                have n17_ : Aside0 (gb576 ≠ gb608) := ⟨h17_⟩
                have n18_ : Aside0 (gb608 ≠ gb576) := ⟨h18_⟩
                have n19_ : Aside0 (gb577 ≠ gb608) := ⟨h19_⟩
                have n20_ : Aside0 (gb608 ≠ gb577) := ⟨h20_⟩
                have n21_ : Aside0 (gb581 ≠ gb608) := ⟨h21_⟩
                have n22_ : Aside0 (gb608 ≠ gb581) := ⟨h22_⟩
                have n23_ : Aside0 (gb585 ≠ gb608) := ⟨h23_⟩
                have n24_ : Aside0 (gb608 ≠ gb585) := ⟨h24_⟩
                have n25_ : Aside0 (gb589 ≠ gb608) := ⟨h25_⟩
                have n26_ : Aside0 (gb608 ≠ gb589) := ⟨h26_⟩
                have n27_ : Aside0 (gb593 ≠ gb608) := ⟨h27_⟩
                have n28_ : Aside0 (gb608 ≠ gb593) := ⟨h28_⟩
                have n29_ : Aside0 (gb601 ≠ gb608) := ⟨h29_⟩
                have n30_ : Aside0 (gb608 ≠ gb601) := ⟨h30_⟩
                have n31_ : Aside0 (gb602 ≠ gb608) := ⟨h31_⟩
                have n32_ : Aside0 (gb608 ≠ gb602) := ⟨h32_⟩
                have n33_ : Aside0 (Below w.heap.size w w398) := ⟨h33_⟩
                clear BK574
                clear BK575
                clear BK576
                clear BK577
                clear BK581
                clear BK585
                clear BK589
                clear BK593
                clear BK601
                clear BK602
                clear HB
                clear h0_ h1_ h2_ h3_ h4_ h5_ h6_ h7_ h8_ h9_ h10_ h11_ h12_ h13_ h14_ h15_ h16_ h17_ h18_ h19_ h20_ h21_ h22_ h23_ h24_ h25_ h26_ h27_ h28_ h29_ h30_ h31_ h32_ h33_
                have BK574 := n0_
                have BK575 := n1_
                have BK576 := n2_
                have BK577 := n3_
                have BK581 := n4_
                have BK585 := n5_
                have BK589 := n6_
                have BK593 := n7_
                have BK601 := n8_
                have BK602 := n9_
                have BK608 := n10_
                have GW608 := n11_
                have GE608 := n12_
                have NB574_608 := n13_
                have NB608_574 := n14_
                have NB575_608 := n15_
                have NB608_575 := n16_
                have NB576_608 := n17_
                have NB608_576 := n18_
                have NB577_608 := n19_
                have NB608_577 := n20_
                have NB581_608 := n21_
                have NB608_581 := n22_
                have NB585_608 := n23_
                have NB608_585 := n24_
                have NB589_608 := n25_
                have NB608_589 := n26_
                have NB593_608 := n27_
                have NB608_593 := n28_
                have NB601_608 := n29_
                have NB608_601 := n30_
                have NB602_608 := n31_
                have NB608_602 := n32_
                have HB := n33_
                clear n0_ n1_ n2_ n3_ n4_ n5_ n6_ n7_ n8_ n9_ n10_ n11_ n12_ n13_ n14_ n15_ n16_ n17_ n18_ n19_ n20_ n21_ n22_ n23_ n24_ n25_ n26_ n27_ n28_ n29_ n30_ n31_ n32_ n33_
                have hHeld : w398.cell? ⟨gb581, 0, none⟩ = some (.int .i64 t578) ∧ w398.cell? ⟨gb581, 1, none⟩ = some (.int .i64 t579) ∧ w398.cell? ⟨gb575, 0, none⟩ = some (.int .i64 t568) ∧ w398.cell? ⟨gb575, 1, none⟩ = some (.int .i64 t569) ∧ w398.cell? ⟨gb574, 0, none⟩ = some (.int .i64 t566) ∧ w398.cell? ⟨gb574, 1, none⟩ = some (.int .i64 t567) := hS_
                refine norm_ (a' := ?_) ?_ ?_
                rotate_left
                · simp only [putAll, Act.put, List.setIfInBounds_toArray, List.set_cons_zero, List.set_cons_succ]
                  rfl
                refine one_ (i := 12) (N := none) #[true, true, true, true, true, true, true, true, true, true, true, true, true, false] rfl rfl (one_of HT_.out (by kernel_rfl)) (by decide) (fun K hK => ?_)
                have hs399 : w398.cell? ⟨gb608, 0, none⟩ = some (.int .i64 0) := (blk_cell BK608.out 0).trans rfl
                have hfs399 := blk_frozen BK608.out 0
                have hns399_0 := NB574_608.out
                have hns399_1 := NB575_608.out
                have hns399_2 := NB576_608.out
                have hns399_3 := NB577_608.out
                have hns399_4 := NB581_608.out
                have hns399_5 := NB585_608.out
                have hns399_6 := NB589_608.out
                have hns399_7 := NB593_608.out
                have hns399_8 := NB601_608.out
                have hns399_9 := NB602_608.out
                have hms399_0 := NB608_574.out
                have hms399_1 := NB608_575.out
                have hms399_2 := NB608_576.out
                have hms399_3 := NB608_577.out
                have hms399_4 := NB608_581.out
                have hms399_5 := NB608_585.out
                have hms399_6 := NB608_589.out
                have hms399_7 := NB608_593.out
                have hms399_8 := NB608_601.out
                have hms399_9 := NB608_602.out
                have hs400 : w398.cell? ⟨gb608, 1, none⟩ = some (.int .i64 0) := (blk_cell BK608.out 1).trans rfl
                have hfs400 := blk_frozen BK608.out 1
                have hns400_0 := NB574_608.out
                have hns400_1 := NB575_608.out
                have hns400_2 := NB576_608.out
                have hns400_3 := NB577_608.out
                have hns400_4 := NB581_608.out
                have hns400_5 := NB585_608.out
                have hns400_6 := NB589_608.out
                have hns400_7 := NB593_608.out
                have hns400_8 := NB601_608.out
                have hns400_9 := NB602_608.out
                have hms400_0 := NB608_574.out
                have hms400_1 := NB608_575.out
                have hms400_2 := NB608_576.out
                have hms400_3 := NB608_577.out
                have hms400_4 := NB608_581.out
                have hms400_5 := NB608_585.out
                have hms400_6 := NB608_589.out
                have hms400_7 := NB608_593.out
                have hms400_8 := NB608_601.out
                have hms400_9 := NB608_602.out
                refine skip_ (w1 := ?_) (by rfl) rfl ?_ ?_
                rotate_left
                · go_simp
                  rfl
                refine hK.out _ _ ⟨((cell_far (p := ⟨gb608, _, none⟩) NB581_608.out _).trans (((cell_far (p := ⟨gb608, _, none⟩) NB581_608.out _).trans (hHeld.1)))), ((cell_far (p := ⟨gb608, _, none⟩) NB581_608.out _).trans (((cell_far (p := ⟨gb608, _, none⟩) NB581_608.out _).trans (hHeld.2.1)))), ((cell_far (p := ⟨gb608, _, none⟩) NB575_608.out _).trans (((cell_far (p := ⟨gb608, _, none⟩) NB575_608.out _).trans (hHeld.2.2.1)))), ((cell_far (p := ⟨gb608, _, none⟩) NB575_608.out _).trans (((cell_far (p := ⟨gb608, _, none⟩) NB575_608.out _).trans (hHeld.2.2.2.1)))), ((cell_far (p := ⟨gb608, _, none⟩) NB574_608.out _).trans (((cell_far (p := ⟨gb608, _, none⟩) NB574_608.out _).trans (hHeld.2.2.2.2.1)))), ((cell_far (p := ⟨gb608, _, none⟩) NB574_608.out _).trans (((cell_far (p := ⟨gb608, _, none⟩) NB574_608.out _).trans (hHeld.2.2.2.2.2))))⟩ (fun hHeld => ?_)
                clear hK K
                refine pure_ (i := 13) (N := some 19) (v := ?_) (a' := ?_) #[true, true, true, true, true, true, true, true, true, true, true, true, true, true] rfl rfl (any_of HT_.out (by kernel_rfl)) (fun _ _ _ h => h) (Or.inl ⟨by rfl, ?_⟩) ?_ ?_
                rotate_left
                · intro w'
                  go_simp
                  with_reducible rfl
                rotate_left
                · simp only [Act.put, List.setIfInBounds_toArray, List.set_cons_zero, List.set_cons_succ, i64_w, i32_w]
                  rfl
                refine done_ (done_of HT_.out (by kernel_rfl)) ?_
                try go_wp2
                have n0_ : Aside0 (((w398.setCell ⟨gb608, 0, none⟩ (.int .i64 t605)).setCell ⟨gb608, 1, none⟩ (.int .i64 t606)).heap[gb574]? = some (.cells #[.int .i64 t566, .int .i64 t567] 25 (0, 0))) := ⟨by (with_reducible repeat (first | refine blk_drewN ?_ _ | refine blk_drew ?_ | refine blk_alloc ?_ _)); refine blk_far ?_ NB574_608.out _; (with_reducible repeat (first | refine blk_drewN ?_ _ | refine blk_drew ?_ | refine blk_alloc ?_ _)); refine blk_far ?_ NB574_608.out _; (with_reducible repeat (first | refine blk_drewN ?_ _ | refine blk_drew ?_ | refine blk_alloc ?_ _)); exact BK574.out⟩
                have n1_ : Aside0 (((w398.setCell ⟨gb608, 0, none⟩ (.int .i64 t605)).setCell ⟨gb608, 1, none⟩ (.int .i64 t606)).heap[gb575]? = some (.cells #[.int .i64 t568, .int .i64 t569] 25 (0, 0))) := ⟨by (with_reducible repeat (first | refine blk_drewN ?_ _ | refine blk_drew ?_ | refine blk_alloc ?_ _)); refine blk_far ?_ NB575_608.out _; (with_reducible repeat (first | refine blk_drewN ?_ _ | refine blk_drew ?_ | refine blk_alloc ?_ _)); refine blk_far ?_ NB575_608.out _; (with_reducible repeat (first | refine blk_drewN ?_ _ | refine blk_drew ?_ | refine blk_alloc ?_ _)); exact BK575.out⟩
                have n2_ : Aside0 (((w398.setCell ⟨gb608, 0, none⟩ (.int .i64 t605)).setCell ⟨gb608, 1, none⟩ (.int .i64 t606)).heap[gb576]? = some (.cells #[.int .i64 t570, .int .i64 t571] 25 (0, 0))) := ⟨by (with_reducible repeat (first | refine blk_drewN ?_ _ | refine blk_drew ?_ | refine blk_alloc ?_ _)); refine blk_far ?_ NB576_608.out _; (with_reducible repeat (first | refine blk_drewN ?_ _ | refine blk_drew ?_ | refine blk_alloc ?_ _)); refine blk_far ?_ NB576_608.out _; (with_reducible repeat (first | refine blk_drewN ?_ _ | refine blk_drew ?_ | refine blk_alloc ?_ _)); exact BK576.out⟩
                have n3_ : Aside0 (((w398.setCell ⟨gb608, 0, none⟩ (.int .i64 t605)).setCell ⟨gb608, 1, none⟩ (.int .i64 t606)).heap[gb577]? = some (.cells #[.int .i64 t572, .int .i64 t573] 25 (0, 0))) := ⟨by (with_reducible repeat (first | refine blk_drewN ?_ _ | refine blk_drew ?_ | refine blk_alloc ?_ _)); refine blk_far ?_ NB577_608.out _; (with_reducible repeat (first | refine blk_drewN ?_ _ | refine blk_drew ?_ | refine blk_alloc ?_ _)); refine blk_far ?_ NB577_608.out _; (with_reducible repeat (first | refine blk_drewN ?_ _ | refine blk_drew ?_ | refine blk_alloc ?_ _)); exact BK577.out⟩
                have n4_ : Aside0 (((w398.setCell ⟨gb608, 0, none⟩ (.int .i64 t605)).setCell ⟨gb608, 1, none⟩ (.int .i64 t606)).heap[gb581]? = some (.cells #[.int .i64 t578, .int .i64 t579] 29 (0, 0))) := ⟨by (with_reducible repeat (first | refine blk_drewN ?_ _ | refine blk_drew ?_ | refine blk_alloc ?_ _)); refine blk_far ?_ NB581_608.out _; (with_reducible repeat (first | refine blk_drewN ?_ _ | refine blk_drew ?_ | refine blk_alloc ?_ _)); refine blk_far ?_ NB581_608.out _; (with_reducible repeat (first | refine blk_drewN ?_ _ | refine blk_drew ?_ | refine blk_alloc ?_ _)); exact BK581.out⟩
                have n5_ : Aside0 (((w398.setCell ⟨gb608, 0, none⟩ (.int .i64 t605)).setCell ⟨gb608, 1, none⟩ (.int .i64 t606)).heap[gb585]? = some (.cells #[.int .i64 t582, .int .i64 t583] 29 (0, 0))) := ⟨by (with_reducible repeat (first | refine blk_drewN ?_ _ | refine blk_drew ?_ | refine blk_alloc ?_ _)); refine blk_far ?_ NB585_608.out _; (with_reducible repeat (first | refine blk_drewN ?_ _ | refine blk_drew ?_ | refine blk_alloc ?_ _)); refine blk_far ?_ NB585_608.out _; (with_reducible repeat (first | refine blk_drewN ?_ _ | refine blk_drew ?_ | refine blk_alloc ?_ _)); exact BK585.out⟩
                have n6_ : Aside0 (((w398.setCell ⟨gb608, 0, none⟩ (.int .i64 t605)).setCell ⟨gb608, 1, none⟩ (.int .i64 t606)).heap[gb589]? = some (.cells #[.int .i64 t586, .int .i64 t587] 29 (0, 0))) := ⟨by (with_reducible repeat (first | refine blk_drewN ?_ _ | refine blk_drew ?_ | refine blk_alloc ?_ _)); refine blk_far ?_ NB589_608.out _; (with_reducible repeat (first | refine blk_drewN ?_ _ | refine blk_drew ?_ | refine blk_alloc ?_ _)); refine blk_far ?_ NB589_608.out _; (with_reducible repeat (first | refine blk_drewN ?_ _ | refine blk_drew ?_ | refine blk_alloc ?_ _)); exact BK589.out⟩
                have n7_ : Aside0 (((w398.setCell ⟨gb608, 0, none⟩ (.int .i64 t605)).setCell ⟨gb608, 1, none⟩ (.int .i64 t606)).heap[gb593]? = some (.cells #[.int .i64 t590, .int .i64 t591] 29 (0, 0))) := ⟨by (with_reducible repeat (first | refine blk_drewN ?_ _ | refine blk_drew ?_ | refine blk_alloc ?_ _)); refine blk_far ?_ NB593_608.out _; (with_reducible repeat (first | refine blk_drewN ?_ _ | refine blk_drew ?_ | refine blk_alloc ?_ _)); refine blk_far ?_ NB593_608.out _; (with_reducible repeat (first | refine blk_drewN ?_ _ | refine blk_drew ?_ | refine blk_alloc ?_ _)); exact BK593.out⟩
                have n8_ : Aside0 (((w398.setCell ⟨gb608, 0, none⟩ (.int .i64 t605)).setCell ⟨gb608, 1, none⟩ (.int .i64 t606)).heap[gb601]? = some (.cells #[.int .i64 t596, .int .i64 t597] 29 (0, 0))) := ⟨by (with_reducible repeat (first | refine blk_drewN ?_ _ | refine blk_drew ?_ | refine blk_alloc ?_ _)); refine blk_far ?_ NB601_608.out _; (with_reducible repeat (first | refine blk_drewN ?_ _ | refine blk_drew ?_ | refine blk_alloc ?_ _)); refine blk_far ?_ NB601_608.out _; (with_reducible repeat (first | refine blk_drewN ?_ _ | refine blk_drew ?_ | refine blk_alloc ?_ _)); exact BK601.out⟩
                have n9_ : Aside0 (((w398.setCell ⟨gb608, 0, none⟩ (.int .i64 t605)).setCell ⟨gb608, 1, none⟩ (.int .i64 t606)).heap[gb602]? = some (.cells #[.int .i64 t598, .int .i64 t599] 29 (0, 0))) := ⟨by (with_reducible repeat (first | refine blk_drewN ?_ _ | refine blk_drew ?_ | refine blk_alloc ?_ _)); refine blk_far ?_ NB602_608.out _; (with_reducible repeat (first | refine blk_drewN ?_ _ | refine blk_drew ?_ | refine blk_alloc ?_ _)); refine blk_far ?_ NB602_608.out _; (with_reducible repeat (first | refine blk_drewN ?_ _ | refine blk_drew ?_ | refine blk_alloc ?_ _)); exact BK602.out⟩
                have n10_ : Aside0 (((w398.setCell ⟨gb608, 0, none⟩ (.int .i64 t605)).setCell ⟨gb608, 1, none⟩ (.int .i64 t606)).heap[gb608]? = some (.cells #[.int .i64 t605, .int .i64 t606] 29 (0, 0))) := ⟨by (with_reducible repeat (first | refine blk_drewN ?_ _ | refine blk_drew ?_ | refine blk_alloc ?_ _)); refine blk_put (cs := #[.int .i64 t605, .int .i64 0]) ?_ 1 _ rfl; (with_reducible repeat (first | refine blk_drewN ?_ _ | refine blk_drew ?_ | refine blk_alloc ?_ _)); refine blk_put (cs := #[.int .i64 0, .int .i64 0]) ?_ 0 _ rfl; (with_reducible repeat (first | refine blk_drewN ?_ _ | refine blk_drew ?_ | refine blk_alloc ?_ _)); exact BK608.out⟩
                have n11_ : Aside0 (Below w.heap.size w ((w398.setCell ⟨gb608, 0, none⟩ (.int .i64 t605)).setCell ⟨gb608, 1, none⟩ (.int .i64 t606))) := ⟨lb HB.out⟩
                (try clear BK574)
                (try clear BK575)
                (try clear BK576)
                (try clear BK577)
                (try clear BK581)
                (try clear BK585)
                (try clear BK589)
                (try clear BK593)
                (try clear BK601)
                (try clear BK602)
                (try clear BK608)
                (try clear HB)
                generalize ((w398.setCell ⟨gb608, 0, none⟩ (.int .i64 t605)).setCell ⟨gb608, 1, none⟩ (.int .i64 t606)) = w401 at n0_ n1_ n2_ n3_ n4_ n5_ n6_ n7_ n8_ n9_ n10_ n11_ ⊢
                have BK574 := n0_
                have BK575 := n1_
                have BK576 := n2_
                have BK577 := n3_
                have BK581 := n4_
                have BK585 := n5_
                have BK589 := n6_
                have BK593 := n7_
                have BK601 := n8_
                have BK602 := n9_
                have BK608 := n10_
                have HB := n11_
                clear n0_ n1_ n2_ n3_ n4_ n5_ n6_ n7_ n8_ n9_ n10_ n11_
                have n0_ := Aside0.mk (blk_drew BK574.out)
                have n1_ := Aside0.mk (blk_drew BK575.out)
                have n2_ := Aside0.mk (blk_drew BK576.out)
                have n3_ := Aside0.mk (blk_drew BK577.out)
                have n4_ := Aside0.mk (blk_drew BK581.out)
                have n5_ := Aside0.mk (blk_drew BK585.out)
                have n6_ := Aside0.mk (blk_drew BK589.out)
                have n7_ := Aside0.mk (blk_drew BK593.out)
                have n8_ := Aside0.mk (blk_drew BK601.out)
                have n9_ := Aside0.mk (blk_drew BK602.out)
                have n10_ := Aside0.mk (blk_drew BK608.out)
                have n11_ := Aside0.mk (below_drew1 HB.out)
                clear BK574
                clear BK575
                clear BK576
                clear BK577
                clear BK581
                clear BK585
                clear BK589
                clear BK593
                clear BK601
                clear BK602
                clear BK608
                clear HB
                have BK574 := n0_
                have BK575 := n1_
                have BK576 := n2_
                have BK577 := n3_
                have BK581 := n4_
                have BK585 := n5_
                have BK589 := n6_
                have BK593 := n7_
                have BK601 := n8_
                have BK602 := n9_
                have BK608 := n10_
                have HB := n11_
                clear n0_ n1_ n2_ n3_ n4_ n5_ n6_ n7_ n8_ n9_ n10_ n11_
                refine start_ (n := 11) (S := fun w' => w'.cell? ⟨gb608, 0, none⟩ = some (.int .i64 t605) ∧ w'.cell? ⟨gb608, 1, none⟩ = some (.int .i64 t606) ∧ w'.cell? ⟨gb574, 0, none⟩ = some (.int .i64 t566) ∧ w'.cell? ⟨gb574, 1, none⟩ = some (.int .i64 t567)) (ds := []) #[false, false, false, false, false, false, false, false, false, false, false] (by kernel_rfl) rfl rfl ⟨(blk_cell BK608.out 0).trans rfl, (blk_cell BK608.out 1).trans rfl, (blk_cell BK574.out 0).trans rfl, (blk_cell BK574.out 1).trans rfl⟩ (fun hHeld => ?_); refine with_tabW laws_FnCrossOf.tab14 laws_FnCrossOf.bits14 (fun HT_ HW_ => ?_)
                generalize w401.drew = w402 at BK574 BK575 BK576 BK577 BK581 BK585 BK589 BK593 BK601 BK602 BK608 HB hHeld ⊢
                refine pure_ (i := 1) (N := some 113) (v := ?_) (a' := ?_) #[false, true, false, false, false, false, false, false, false, false, false] rfl rfl (any_of HT_.out (by kernel_rfl)) (fun _ _ _ h => h) (Or.inl ⟨by rfl, ?_⟩) ?_ ?_
                rotate_left
                · intro w'
                  go_simp
                  with_reducible rfl
                rotate_left
                · simp only [Act.put, List.setIfInBounds_toArray, List.set_cons_zero, List.set_cons_succ, i64_w, i32_w]
                  rfl
                refine take_ (i := 0) (N := some 112) (v := ?_) (a' := ?_) #[true, true, false, false, false, false, false, false, false, false, false] rfl rfl (take_ofW HT_.out HW_.out (by kernel_rfl)) (fun _ _ _ h => h) (Or.inl ⟨by rfl, ?_⟩) hHeld ?_ ?_
                rotate_left
                · rintro w' ⟨s0, s1, s2, s3⟩
                  go_simp
                  with_reducible rfl
                rotate_left
                · simp only [Act.put, List.setIfInBounds_toArray, List.set_cons_zero, List.set_cons_succ, i64_w, i32_w]
                  rfl
                refine take_ (i := 2) (N := some 114) (v := ?_) (a' := ?_) #[true, true, true, false, false, false, false, false, false, false, false] rfl rfl (take_ofW HT_.out HW_.out (by kernel_rfl)) (fun _ _ _ h => h) (Or.inl ⟨by rfl, ?_⟩) hHeld ?_ ?_
                rotate_left
                · rintro w' ⟨s0, s1, s2, s3⟩
                  go_simp
                  with_reducible rfl
                rotate_left
                · simp only [Act.put, List.setIfInBounds_toArray, List.set_cons_zero, List.set_cons_succ, i64_w, i32_w]
                  rfl
                refine join_ (σ := Nat) 2 #[true, true, true, true, true, true, true, true, true, false, false] (fun s_ => [(115, .agg #[.int .i64 t609, .int .i64 t610]), (116, .tuple #[.agg #[.int .i64 t611, .int .i64 t612], .bool t613]), (20, .pointer (some ⟨s_, 0, none⟩)), (111, .tuple #[.agg #[.int .i64 t611, .int .i64 t612], .bool t613]), (117, .agg #[.int .i64 t611, .int .i64 t612]), (118, .bool t613)]) (fun s_ w' => (w'.cell? ⟨gb608, 0, none⟩ = some (.int .i64 t605) ∧ w'.cell? ⟨gb608, 1, none⟩ = some (.int .i64 t606) ∧ w'.cell? ⟨gb574, 0, none⟩ = some (.int .i64 t566) ∧ w'.cell? ⟨gb574, 1, none⟩ = some (.int .i64 t567)) ∧ (w'.heap[gb574]? = some (.cells #[.int .i64 t566, .int .i64 t567] 25 (0, 0))) ∧ (w'.heap[gb575]? = some (.cells #[.int .i64 t568, .int .i64 t569] 25 (0, 0))) ∧ (w'.heap[gb576]? = some (.cells #[.int .i64 t570, .int .i64 t571] 25 (0, 0))) ∧ (w'.heap[gb577]? = some (.cells #[.int .i64 t572, .int .i64 t573] 25 (0, 0))) ∧ (w'.heap[gb581]? = some (.cells #[.int .i64 t578, .int .i64 t579] 29 (0, 0))) ∧ (w'.heap[gb585]? = some (.cells #[.int .i64 t582, .int .i64 t583] 29 (0, 0))) ∧ (w'.heap[gb589]? = some (.cells #[.int .i64 t586, .int .i64 t587] 29 (0, 0))) ∧ (w'.heap[gb593]? = some (.cells #[.int .i64 t590, .int .i64 t591] 29 (0, 0))) ∧ (w'.heap[gb601]? = some (.cells #[.int .i64 t596, .int .i64 t597] 29 (0, 0))) ∧ (w'.heap[gb602]? = some (.cells #[.int .i64 t598, .int .i64 t599] 29 (0, 0))) ∧ (w'.heap[gb608]? = some (.cells #[.int .i64 t605, .int .i64 t606] 29 (0, 0))) ∧ (w'.heap[s_]? = some (.cells #[.int .i64 0, .int .i64 0] 29 (0, 0))) ∧ (w.heap.size ≤ s_) ∧ (w.heap.size ≤ s_) ∧ (gb574 ≠ s_) ∧ (s_ ≠ gb574) ∧ (gb575 ≠ s_) ∧ (s_ ≠ gb575) ∧ (gb576 ≠ s_) ∧ (s_ ≠ gb576) ∧ (gb577 ≠ s_) ∧ (s_ ≠ gb577) ∧ (gb581 ≠ s_) ∧ (s_ ≠ gb581) ∧ (gb585 ≠ s_) ∧ (s_ ≠ gb585) ∧ (gb589 ≠ s_) ∧ (s_ ≠ gb589) ∧ (gb593 ≠ s_) ∧ (s_ ≠ gb593) ∧ (gb601 ≠ s_) ∧ (s_ ≠ gb601) ∧ (gb602 ≠ s_) ∧ (s_ ≠ gb602) ∧ (gb608 ≠ s_) ∧ (s_ ≠ gb608) ∧ (Below w.heap.size w w')) ?_ ?_
                rotate_left
                · intro hCont
                  refine two_ (i := 3) (j := 8) (Ni := some 115) (Nj := some 20) #[true, true, true, true, false, false, false, false, false, false, false] #[true, true, true, false, false, false, false, false, true, false, false] rfl rfl rfl rfl (two_of HT_.out (by kernel_rfl)) (by decide) (by decide) (fun K hK => ?_) (fun K hK => ?_)
                  · skip
                    refine goes_ Try.func24 (by kernel_rfl) rfl #[.int .i64 t566] (by rfl) rfl rfl al ?_
                    with_reducible refine (laws_whole.calls t566 t609 t610 _ A134.out).mono ?_
                    rintro e w403 ⟨rfl, hb⟩
                    refine ⟨_, rfl, ?_⟩
                    have n0_ := Aside0.mk (blk_below (bf BK574.out) hb)
                    have n1_ := Aside0.mk (blk_below (bf BK575.out) hb)
                    have n2_ := Aside0.mk (blk_below (bf BK576.out) hb)
                    have n3_ := Aside0.mk (blk_below (bf BK577.out) hb)
                    have n4_ := Aside0.mk (blk_below (bf BK581.out) hb)
                    have n5_ := Aside0.mk (blk_below (bf BK585.out) hb)
                    have n6_ := Aside0.mk (blk_below (bf BK589.out) hb)
                    have n7_ := Aside0.mk (blk_below (bf BK593.out) hb)
                    have n8_ := Aside0.mk (blk_below (bf BK601.out) hb)
                    have n9_ := Aside0.mk (blk_below (bf BK602.out) hb)
                    have n10_ := Aside0.mk (blk_below (bf BK608.out) hb)
                    have n11_ := Aside0.mk (below_step (lb HB.out) hb)
                    clear BK574
                    clear BK575
                    clear BK576
                    clear BK577
                    clear BK581
                    clear BK585
                    clear BK589
                    clear BK593
                    clear BK601
                    clear BK602
                    clear BK608
                    clear HB
                    have BK574 := n0_
                    have BK575 := n1_
                    have BK576 := n2_
                    have BK577 := n3_
                    have BK581 := n4_
                    have BK585 := n5_
                    have BK589 := n6_
                    have BK593 := n7_
                    have BK601 := n8_
                    have BK602 := n9_
                    have BK608 := n10_
                    have HB := n11_
                    clear n0_ n1_ n2_ n3_ n4_ n5_ n6_ n7_ n8_ n9_ n10_ n11_
                    (try clear hb)
                    (try clear hb2)
                    (try clear hk)
                    (try clear hi)
                    refine hK.out _ _ ⟨(blk_cell BK608.out 0).trans rfl, (blk_cell BK608.out 1).trans rfl, (blk_cell BK574.out 0).trans rfl, (blk_cell BK574.out 1).trans rfl⟩ (fun hHeld => ?_)
                    clear hK K
                    refine norm_ (a' := ?_) ?_ ?_
                    rotate_left
                    · show Act.put _ (some 115) _ = _
                      simp only [Act.put, List.setIfInBounds_toArray, List.set_cons_zero, List.set_cons_succ, i64_w, i32_w]
                      rfl
                    refine two_ (i := 4) (j := 8) (Ni := some 116) (Nj := some 20) #[true, true, true, true, true, false, false, false, false, false, false] #[true, true, true, true, false, false, false, false, true, false, false] rfl rfl rfl rfl (two_of HT_.out (by kernel_rfl)) (by decide) (by decide) (fun K hK => ?_) (fun K hK => ?_)
                    · skip
                      refine goes_ Try.func29 (by kernel_rfl) rfl #[.agg #[.int .i64 t605, .int .i64 t606], .agg #[.int .i64 t609, .int .i64 t610]] (by rfl) rfl rfl al ?_
                      with_reducible refine (impl_QuoAdd.calls kj79 t605 t606 t609 t610 t611 t612 t613 _ A135.out).mono ?_
                      rintro e w404 ⟨rfl, hb⟩
                      refine ⟨_, rfl, ?_⟩
                      have n0_ := Aside0.mk (blk_below (bf BK574.out) hb)
                      have n1_ := Aside0.mk (blk_below (bf BK575.out) hb)
                      have n2_ := Aside0.mk (blk_below (bf BK576.out) hb)
                      have n3_ := Aside0.mk (blk_below (bf BK577.out) hb)
                      have n4_ := Aside0.mk (blk_below (bf BK581.out) hb)
                      have n5_ := Aside0.mk (blk_below (bf BK585.out) hb)
                      have n6_ := Aside0.mk (blk_below (bf BK589.out) hb)
                      have n7_ := Aside0.mk (blk_below (bf BK593.out) hb)
                      have n8_ := Aside0.mk (blk_below (bf BK601.out) hb)
                      have n9_ := Aside0.mk (blk_below (bf BK602.out) hb)
                      have n10_ := Aside0.mk (blk_below (bf BK608.out) hb)
                      have n11_ := Aside0.mk (below_step (lb HB.out) hb)
                      clear BK574
                      clear BK575
                      clear BK576
                      clear BK577
                      clear BK581
                      clear BK585
                      clear BK589
                      clear BK593
                      clear BK601
                      clear BK602
                      clear BK608
                      clear HB
                      have BK574 := n0_
                      have BK575 := n1_
                      have BK576 := n2_
                      have BK577 := n3_
                      have BK581 := n4_
                      have BK585 := n5_
                      have BK589 := n6_
                      have BK593 := n7_
                      have BK601 := n8_
                      have BK602 := n9_
                      have BK608 := n10_
                      have HB := n11_
                      clear n0_ n1_ n2_ n3_ n4_ n5_ n6_ n7_ n8_ n9_ n10_ n11_
                      (try clear hb)
                      (try clear hb2)
                      (try clear hk)
                      (try clear hi)
                      refine hK.out _ _ ⟨(blk_cell BK608.out 0).trans rfl, (blk_cell BK608.out 1).trans rfl, (blk_cell BK574.out 0).trans rfl, (blk_cell BK574.out 1).trans rfl⟩ (fun hHeld => ?_)
                      clear hK K
                      refine norm_ (a' := ?_) ?_ ?_
                      rotate_left
                      · show Act.put _ (some 116) _ = _
                        simp only [Act.put, List.setIfInBounds_toArray, List.set_cons_zero, List.set_cons_succ, i64_w, i32_w]
                        rfl
                      refine pure_ (i := 5) (N := some 111) (v := ?_) (a' := ?_) #[true, true, true, true, true, true, false, false, false, false, false] rfl rfl (any_of HT_.out (by kernel_rfl)) (fun _ _ _ h => h) (Or.inl ⟨by rfl, ?_⟩) ?_ ?_
                      rotate_left
                      · intro w'
                        go_simp
                        with_reducible rfl
                      rotate_left
                      · simp only [Act.put, List.setIfInBounds_toArray, List.set_cons_zero, List.set_cons_succ, i64_w, i32_w]
                        rfl
                      refine pure_ (i := 6) (N := some 117) (v := ?_) (a' := ?_) #[true, true, true, true, true, true, true, false, false, false, false] rfl rfl (any_of HT_.out (by kernel_rfl)) (fun _ _ _ h => h) (Or.inl ⟨by rfl, ?_⟩) ?_ ?_
                      rotate_left
                      · intro w'
                        go_simp
                        with_reducible rfl
                      rotate_left
                      · simp only [Act.put, List.setIfInBounds_toArray, List.set_cons_zero, List.set_cons_succ, i64_w, i32_w]
                        rfl
                      refine pure_ (i := 7) (N := some 118) (v := ?_) (a' := ?_) #[true, true, true, true, true, true, true, true, false, false, false] rfl rfl (any_of HT_.out (by kernel_rfl)) (fun _ _ _ h => h) (Or.inl ⟨by rfl, ?_⟩) ?_ ?_
                      rotate_left
                      · intro w'
                        go_simp
                        with_reducible rfl
                      rotate_left
                      · simp only [Act.put, List.setIfInBounds_toArray, List.set_cons_zero, List.set_cons_succ, i64_w, i32_w]
                        rfl
                      refine one_ (i := 8) (N := some 20) #[true, true, true, true, true, true, true, true, true, false, false] rfl rfl (one_of HT_.out (by kernel_rfl)) (by decide) (fun K hK => ?_)
                      refine box_step ?hg (N := 20) ?hd (cs := #[.int .i64 0, .int .i64 0]) (t := 29) ?hr ?_; (case hd => rfl); (case hg => rfl); (case hr => first | (go_simp; done) | (go_simp; rfl))
                      intro gb614 hg w405 hbox hb
                      have n0_ := Aside0.mk (blk_below (bf BK574.out) hb)
                      have n1_ := Aside0.mk (blk_below (bf BK575.out) hb)
                      have n2_ := Aside0.mk (blk_below (bf BK576.out) hb)
                      have n3_ := Aside0.mk (blk_below (bf BK577.out) hb)
                      have n4_ := Aside0.mk (blk_below (bf BK581.out) hb)
                      have n5_ := Aside0.mk (blk_below (bf BK585.out) hb)
                      have n6_ := Aside0.mk (blk_below (bf BK589.out) hb)
                      have n7_ := Aside0.mk (blk_below (bf BK593.out) hb)
                      have n8_ := Aside0.mk (blk_below (bf BK601.out) hb)
                      have n9_ := Aside0.mk (blk_below (bf BK602.out) hb)
                      have n10_ := Aside0.mk (blk_below (bf BK608.out) hb)
                      have n11_ := Aside0.mk (below_step (lb HB.out) hb)
                      have n12_ := Aside0.mk (hbox)
                      have n13_ := Aside0.mk ((by rw [hg]; exact (below_size (lb HB.out)) : w.heap.size ≤ gb614))
                      have n14_ := Aside0.mk ((by rw [hg]; exact (below_size (lb HB.out)) : w.heap.size ≤ gb614))
                      have n15_ := Aside0.mk ((by rw [hg]; exact Nat.ne_of_lt (blk_lt (bf BK574.out)) : gb574 ≠ gb614))
                      have n16_ := Aside0.mk ((by rw [hg]; exact Nat.ne_of_gt (blk_lt (bf BK574.out)) : gb614 ≠ gb574))
                      have n17_ := Aside0.mk ((by rw [hg]; exact Nat.ne_of_lt (blk_lt (bf BK575.out)) : gb575 ≠ gb614))
                      have n18_ := Aside0.mk ((by rw [hg]; exact Nat.ne_of_gt (blk_lt (bf BK575.out)) : gb614 ≠ gb575))
                      have n19_ := Aside0.mk ((by rw [hg]; exact Nat.ne_of_lt (blk_lt (bf BK576.out)) : gb576 ≠ gb614))
                      have n20_ := Aside0.mk ((by rw [hg]; exact Nat.ne_of_gt (blk_lt (bf BK576.out)) : gb614 ≠ gb576))
                      have n21_ := Aside0.mk ((by rw [hg]; exact Nat.ne_of_lt (blk_lt (bf BK577.out)) : gb577 ≠ gb614))
                      have n22_ := Aside0.mk ((by rw [hg]; exact Nat.ne_of_gt (blk_lt (bf BK577.out)) : gb614 ≠ gb577))
                      have n23_ := Aside0.mk ((by rw [hg]; exact Nat.ne_of_lt (blk_lt (bf BK581.out)) : gb581 ≠ gb614))
                      have n24_ := Aside0.mk ((by rw [hg]; exact Nat.ne_of_gt (blk_lt (bf BK581.out)) : gb614 ≠ gb581))
                      have n25_ := Aside0.mk ((by rw [hg]; exact Nat.ne_of_lt (blk_lt (bf BK585.out)) : gb585 ≠ gb614))
                      have n26_ := Aside0.mk ((by rw [hg]; exact Nat.ne_of_gt (blk_lt (bf BK585.out)) : gb614 ≠ gb585))
                      have n27_ := Aside0.mk ((by rw [hg]; exact Nat.ne_of_lt (blk_lt (bf BK589.out)) : gb589 ≠ gb614))
                      have n28_ := Aside0.mk ((by rw [hg]; exact Nat.ne_of_gt (blk_lt (bf BK589.out)) : gb614 ≠ gb589))
                      have n29_ := Aside0.mk ((by rw [hg]; exact Nat.ne_of_lt (blk_lt (bf BK593.out)) : gb593 ≠ gb614))
                      have n30_ := Aside0.mk ((by rw [hg]; exact Nat.ne_of_gt (blk_lt (bf BK593.out)) : gb614 ≠ gb593))
                      have n31_ := Aside0.mk ((by rw [hg]; exact Nat.ne_of_lt (blk_lt (bf BK601.out)) : gb601 ≠ gb614))
                      have n32_ := Aside0.mk ((by rw [hg]; exact Nat.ne_of_gt (blk_lt (bf BK601.out)) : gb614 ≠ gb601))
                      have n33_ := Aside0.mk ((by rw [hg]; exact Nat.ne_of_lt (blk_lt (bf BK602.out)) : gb602 ≠ gb614))
                      have n34_ := Aside0.mk ((by rw [hg]; exact Nat.ne_of_gt (blk_lt (bf BK602.out)) : gb614 ≠ gb602))
                      have n35_ := Aside0.mk ((by rw [hg]; exact Nat.ne_of_lt (blk_lt (bf BK608.out)) : gb608 ≠ gb614))
                      have n36_ := Aside0.mk ((by rw [hg]; exact Nat.ne_of_gt (blk_lt (bf BK608.out)) : gb614 ≠ gb608))
                      clear BK574
                      clear BK575
                      clear BK576
                      clear BK577
                      clear BK581
                      clear BK585
                      clear BK589
                      clear BK593
                      clear BK601
                      clear BK602
                      clear BK608
                      clear HB
                      have BK574 := n0_
                      have BK575 := n1_
                      have BK576 := n2_
                      have BK577 := n3_
                      have BK581 := n4_
                      have BK585 := n5_
                      have BK589 := n6_
                      have BK593 := n7_
                      have BK601 := n8_
                      have BK602 := n9_
                      have BK608 := n10_
                      have HB := n11_
                      have BK614 := n12_
                      have GW614 := n13_
                      have GE614 := n14_
                      have NB574_614 := n15_
                      have NB614_574 := n16_
                      have NB575_614 := n17_
                      have NB614_575 := n18_
                      have NB576_614 := n19_
                      have NB614_576 := n20_
                      have NB577_614 := n21_
                      have NB614_577 := n22_
                      have NB581_614 := n23_
                      have NB614_581 := n24_
                      have NB585_614 := n25_
                      have NB614_585 := n26_
                      have NB589_614 := n27_
                      have NB614_589 := n28_
                      have NB593_614 := n29_
                      have NB614_593 := n30_
                      have NB601_614 := n31_
                      have NB614_601 := n32_
                      have NB602_614 := n33_
                      have NB614_602 := n34_
                      have NB608_614 := n35_
                      have NB614_608 := n36_
                      clear n0_ n1_ n2_ n3_ n4_ n5_ n6_ n7_ n8_ n9_ n10_ n11_ n12_ n13_ n14_ n15_ n16_ n17_ n18_ n19_ n20_ n21_ n22_ n23_ n24_ n25_ n26_ n27_ n28_ n29_ n30_ n31_ n32_ n33_ n34_ n35_ n36_
                      clear hb hbox hg
                      refine hK.out _ _ ⟨(blk_cell BK608.out 0).trans rfl, (blk_cell BK608.out 1).trans rfl, (blk_cell BK574.out 0).trans rfl, (blk_cell BK574.out 1).trans rfl⟩ (fun hHeld => ?_)
                      clear hK K
                      refine norm_ (a' := ?_) ?_ ?_
                      rotate_left
                      · show Act.put _ (some 20) _ = _
                        simp only [Act.put, List.setIfInBounds_toArray, List.set_cons_zero, List.set_cons_succ, i64_w, i32_w]
                        rfl
                      exact norm_ (by simp only [putAll, Act.put, List.setIfInBounds_toArray, List.set_cons_zero, List.set_cons_succ]) (hCont (gb614) _ ⟨hHeld, (bf BK574.out), (bf BK575.out), (bf BK576.out), (bf BK577.out), (bf BK581.out), (bf BK585.out), (bf BK589.out), (bf BK593.out), (bf BK601.out), (bf BK602.out), (bf BK608.out), (bf BK614.out), GW614.out, GE614.out, NB574_614.out, NB614_574.out, NB575_614.out, NB614_575.out, NB576_614.out, NB614_576.out, NB577_614.out, NB614_577.out, NB581_614.out, NB614_581.out, NB585_614.out, NB614_585.out, NB589_614.out, NB614_589.out, NB593_614.out, NB614_593.out, NB601_614.out, NB614_601.out, NB602_614.out, NB614_602.out, NB608_614.out, NB614_608.out, (lb HB.out)⟩)
                    · skip
                      refine box_step ?hg (N := 20) ?hd (cs := #[.int .i64 0, .int .i64 0]) (t := 29) ?hr ?_; (case hd => rfl); (case hg => rfl); (case hr => first | (go_simp; done) | (go_simp; rfl))
                      intro gb614 hg w404 hbox hb
                      have n0_ := Aside0.mk (blk_below (bf BK574.out) hb)
                      have n1_ := Aside0.mk (blk_below (bf BK575.out) hb)
                      have n2_ := Aside0.mk (blk_below (bf BK576.out) hb)
                      have n3_ := Aside0.mk (blk_below (bf BK577.out) hb)
                      have n4_ := Aside0.mk (blk_below (bf BK581.out) hb)
                      have n5_ := Aside0.mk (blk_below (bf BK585.out) hb)
                      have n6_ := Aside0.mk (blk_below (bf BK589.out) hb)
                      have n7_ := Aside0.mk (blk_below (bf BK593.out) hb)
                      have n8_ := Aside0.mk (blk_below (bf BK601.out) hb)
                      have n9_ := Aside0.mk (blk_below (bf BK602.out) hb)
                      have n10_ := Aside0.mk (blk_below (bf BK608.out) hb)
                      have n11_ := Aside0.mk (below_step (lb HB.out) hb)
                      have n12_ := Aside0.mk (hbox)
                      have n13_ := Aside0.mk ((by rw [hg]; exact (below_size (lb HB.out)) : w.heap.size ≤ gb614))
                      have n14_ := Aside0.mk ((by rw [hg]; exact (below_size (lb HB.out)) : w.heap.size ≤ gb614))
                      have n15_ := Aside0.mk ((by rw [hg]; exact Nat.ne_of_lt (blk_lt (bf BK574.out)) : gb574 ≠ gb614))
                      have n16_ := Aside0.mk ((by rw [hg]; exact Nat.ne_of_gt (blk_lt (bf BK574.out)) : gb614 ≠ gb574))
                      have n17_ := Aside0.mk ((by rw [hg]; exact Nat.ne_of_lt (blk_lt (bf BK575.out)) : gb575 ≠ gb614))
                      have n18_ := Aside0.mk ((by rw [hg]; exact Nat.ne_of_gt (blk_lt (bf BK575.out)) : gb614 ≠ gb575))
                      have n19_ := Aside0.mk ((by rw [hg]; exact Nat.ne_of_lt (blk_lt (bf BK576.out)) : gb576 ≠ gb614))
                      have n20_ := Aside0.mk ((by rw [hg]; exact Nat.ne_of_gt (blk_lt (bf BK576.out)) : gb614 ≠ gb576))
                      have n21_ := Aside0.mk ((by rw [hg]; exact Nat.ne_of_lt (blk_lt (bf BK577.out)) : gb577 ≠ gb614))
                      have n22_ := Aside0.mk ((by rw [hg]; exact Nat.ne_of_gt (blk_lt (bf BK577.out)) : gb614 ≠ gb577))
                      have n23_ := Aside0.mk ((by rw [hg]; exact Nat.ne_of_lt (blk_lt (bf BK581.out)) : gb581 ≠ gb614))
                      have n24_ := Aside0.mk ((by rw [hg]; exact Nat.ne_of_gt (blk_lt (bf BK581.out)) : gb614 ≠ gb581))
                      have n25_ := Aside0.mk ((by rw [hg]; exact Nat.ne_of_lt (blk_lt (bf BK585.out)) : gb585 ≠ gb614))
                      have n26_ := Aside0.mk ((by rw [hg]; exact Nat.ne_of_gt (blk_lt (bf BK585.out)) : gb614 ≠ gb585))
                      have n27_ := Aside0.mk ((by rw [hg]; exact Nat.ne_of_lt (blk_lt (bf BK589.out)) : gb589 ≠ gb614))
                      have n28_ := Aside0.mk ((by rw [hg]; exact Nat.ne_of_gt (blk_lt (bf BK589.out)) : gb614 ≠ gb589))
                      have n29_ := Aside0.mk ((by rw [hg]; exact Nat.ne_of_lt (blk_lt (bf BK593.out)) : gb593 ≠ gb614))
                      have n30_ := Aside0.mk ((by rw [hg]; exact Nat.ne_of_gt (blk_lt (bf BK593.out)) : gb614 ≠ gb593))
                      have n31_ := Aside0.mk ((by rw [hg]; exact Nat.ne_of_lt (blk_lt (bf BK601.out)) : gb601 ≠ gb614))
                      have n32_ := Aside0.mk ((by rw [hg]; exact Nat.ne_of_gt (blk_lt (bf BK601.out)) : gb614 ≠ gb601))
                      have n33_ := Aside0.mk ((by rw [hg]; exact Nat.ne_of_lt (blk_lt (bf BK602.out)) : gb602 ≠ gb614))
                      have n34_ := Aside0.mk ((by rw [hg]; exact Nat.ne_of_gt (blk_lt (bf BK602.out)) : gb614 ≠ gb602))
                      have n35_ := Aside0.mk ((by rw [hg]; exact Nat.ne_of_lt (blk_lt (bf BK608.out)) : gb608 ≠ gb614))
                      have n36_ := Aside0.mk ((by rw [hg]; exact Nat.ne_of_gt (blk_lt (bf BK608.out)) : gb614 ≠ gb608))
                      clear BK574
                      clear BK575
                      clear BK576
                      clear BK577
                      clear BK581
                      clear BK585
                      clear BK589
                      clear BK593
                      clear BK601
                      clear BK602
                      clear BK608
                      clear HB
                      have BK574 := n0_
                      have BK575 := n1_
                      have BK576 := n2_
                      have BK577 := n3_
                      have BK581 := n4_
                      have BK585 := n5_
                      have BK589 := n6_
                      have BK593 := n7_
                      have BK601 := n8_
                      have BK602 := n9_
                      have BK608 := n10_
                      have HB := n11_
                      have BK614 := n12_
                      have GW614 := n13_
                      have GE614 := n14_
                      have NB574_614 := n15_
                      have NB614_574 := n16_
                      have NB575_614 := n17_
                      have NB614_575 := n18_
                      have NB576_614 := n19_
                      have NB614_576 := n20_
                      have NB577_614 := n21_
                      have NB614_577 := n22_
                      have NB581_614 := n23_
                      have NB614_581 := n24_
                      have NB585_614 := n25_
                      have NB614_585 := n26_
                      have NB589_614 := n27_
                      have NB614_589 := n28_
                      have NB593_614 := n29_
                      have NB614_593 := n30_
                      have NB601_614 := n31_
                      have NB614_601 := n32_
                      have NB602_614 := n33_
                      have NB614_602 := n34_
                      have NB608_614 := n35_
                      have NB614_608 := n36_
                      clear n0_ n1_ n2_ n3_ n4_ n5_ n6_ n7_ n8_ n9_ n10_ n11_ n12_ n13_ n14_ n15_ n16_ n17_ n18_ n19_ n20_ n21_ n22_ n23_ n24_ n25_ n26_ n27_ n28_ n29_ n30_ n31_ n32_ n33_ n34_ n35_ n36_
                      clear hb hbox hg
                      refine hK.out _ _ ⟨(blk_cell BK608.out 0).trans rfl, (blk_cell BK608.out 1).trans rfl, (blk_cell BK574.out 0).trans rfl, (blk_cell BK574.out 1).trans rfl⟩ (fun hHeld => ?_)
                      clear hK K
                      refine norm_ (a' := ?_) ?_ ?_
                      rotate_left
                      · show Act.put _ (some 20) _ = _
                        simp only [Act.put, List.setIfInBounds_toArray, List.set_cons_zero, List.set_cons_succ, i64_w, i32_w]
                        rfl
                      refine one_ (i := 4) (N := some 116) #[true, true, true, true, true, false, false, false, true, false, false] rfl rfl (one_of HT_.out (by kernel_rfl)) (by decide) (fun K hK => ?_)
                      refine goes_ Try.func29 (by kernel_rfl) rfl #[.agg #[.int .i64 t605, .int .i64 t606], .agg #[.int .i64 t609, .int .i64 t610]] (by rfl) rfl rfl al ?_
                      with_reducible refine (impl_QuoAdd.calls kj79 t605 t606 t609 t610 t611 t612 t613 _ A135.out).mono ?_
                      rintro e w405 ⟨rfl, hb⟩
                      refine ⟨_, rfl, ?_⟩
                      have n0_ := Aside0.mk (blk_below (bf BK574.out) hb)
                      have n1_ := Aside0.mk (blk_below (bf BK575.out) hb)
                      have n2_ := Aside0.mk (blk_below (bf BK576.out) hb)
                      have n3_ := Aside0.mk (blk_below (bf BK577.out) hb)
                      have n4_ := Aside0.mk (blk_below (bf BK581.out) hb)
                      have n5_ := Aside0.mk (blk_below (bf BK585.out) hb)
                      have n6_ := Aside0.mk (blk_below (bf BK589.out) hb)
                      have n7_ := Aside0.mk (blk_below (bf BK593.out) hb)
                      have n8_ := Aside0.mk (blk_below (bf BK601.out) hb)
                      have n9_ := Aside0.mk (blk_below (bf BK602.out) hb)
                      have n10_ := Aside0.mk (blk_below (bf BK608.out) hb)
                      have n11_ := Aside0.mk (blk_below (bf BK614.out) hb)
                      have n12_ := Aside0.mk (below_step (lb HB.out) hb)
                      clear BK574
                      clear BK575
                      clear BK576
                      clear BK577
                      clear BK581
                      clear BK585
                      clear BK589
                      clear BK593
                      clear BK601
                      clear BK602
                      clear BK608
                      clear BK614
                      clear HB
                      have BK574 := n0_
                      have BK575 := n1_
                      have BK576 := n2_
                      have BK577 := n3_
                      have BK581 := n4_
                      have BK585 := n5_
                      have BK589 := n6_
                      have BK593 := n7_
                      have BK601 := n8_
                      have BK602 := n9_
                      have BK608 := n10_
                      have BK614 := n11_
                      have HB := n12_
                      clear n0_ n1_ n2_ n3_ n4_ n5_ n6_ n7_ n8_ n9_ n10_ n11_ n12_
                      (try clear hb)
                      (try clear hb2)
                      (try clear hk)
                      (try clear hi)
                      refine hK.out _ _ ⟨(blk_cell BK608.out 0).trans rfl, (blk_cell BK608.out 1).trans rfl, (blk_cell BK574.out 0).trans rfl, (blk_cell BK574.out 1).trans rfl⟩ (fun hHeld => ?_)
                      clear hK K
                      refine norm_ (a' := ?_) ?_ ?_
                      rotate_left
                      · show Act.put _ (some 116) _ = _
                        simp only [Act.put, List.setIfInBounds_toArray, List.set_cons_zero, List.set_cons_succ, i64_w, i32_w]
                        rfl
                      refine pure_ (i := 5) (N := some 111) (v := ?_) (a' := ?_) #[true, true, true, true, true, true, false, false, true, false, false] rfl rfl (any_of HT_.out (by kernel_rfl)) (fun _ _ _ h => h) (Or.inl ⟨by rfl, ?_⟩) ?_ ?_
                      rotate_left
                      · intro w'
                        go_simp
                        with_reducible rfl
                      rotate_left
                      · simp only [Act.put, List.setIfInBounds_toArray, List.set_cons_zero, List.set_cons_succ, i64_w, i32_w]
                        rfl
                      refine pure_ (i := 6) (N := some 117) (v := ?_) (a' := ?_) #[true, true, true, true, true, true, true, false, true, false, false] rfl rfl (any_of HT_.out (by kernel_rfl)) (fun _ _ _ h => h) (Or.inl ⟨by rfl, ?_⟩) ?_ ?_
                      rotate_left
                      · intro w'
                        go_simp
                        with_reducible rfl
                      rotate_left
                      · simp only [Act.put, List.setIfInBounds_toArray, List.set_cons_zero, List.set_cons_succ, i64_w, i32_w]
                        rfl
                      refine pure_ (i := 7) (N := some 118) (v := ?_) (a' := ?_) #[true, true, true, true, true, true, true, true, true, false, false] rfl rfl (any_of HT_.out (by kernel_rfl)) (fun _ _ _ h => h) (Or.inl ⟨by rfl, ?_⟩) ?_ ?_
                      rotate_left
                      · intro w'
                        go_simp
                        with_reducible rfl
                      rotate_left
                      · simp only [Act.put, List.setIfInBounds_toArray, List.set_cons_zero, List.set_cons_succ, i64_w, i32_w]
                        rfl
                      exact norm_ (by simp only [putAll, Act.put, List.setIfInBounds_toArray, List.set_cons_zero, List.set_cons_succ]) (hCont (gb614) _ ⟨hHeld, (bf BK574.out), (bf BK575.out), (bf BK576.out), (bf BK577.out), (bf BK581.out), (bf BK585.out), (bf BK589.out), (bf BK593.out), (bf BK601.out), (bf BK602.out), (bf BK608.out), (bf BK614.out), GW614.out, GE614.out, NB574_614.out, NB614_574.out, NB575_614.out, NB614_575.out, NB576_614.out, NB614_576.out, NB577_614.out, NB614_577.out, NB581_614.out, NB614_581.out, NB585_614.out, NB614_585.out, NB589_614.out, NB614_589.out, NB593_614.out, NB614_593.out, NB601_614.out, NB614_601.out, NB602_614.out, NB614_602.out, NB608_614.out, NB614_608.out, (lb HB.out)⟩)
                  · skip
                    refine box_step ?hg (N := 20) ?hd (cs := #[.int .i64 0, .int .i64 0]) (t := 29) ?hr ?_; (case hd => rfl); (case hg => rfl); (case hr => first | (go_simp; done) | (go_simp; rfl))
                    intro gb614 hg w403 hbox hb
                    have n0_ := Aside0.mk (blk_below (bf BK574.out) hb)
                    have n1_ := Aside0.mk (blk_below (bf BK575.out) hb)
                    have n2_ := Aside0.mk (blk_below (bf BK576.out) hb)
                    have n3_ := Aside0.mk (blk_below (bf BK577.out) hb)
                    have n4_ := Aside0.mk (blk_below (bf BK581.out) hb)
                    have n5_ := Aside0.mk (blk_below (bf BK585.out) hb)
                    have n6_ := Aside0.mk (blk_below (bf BK589.out) hb)
                    have n7_ := Aside0.mk (blk_below (bf BK593.out) hb)
                    have n8_ := Aside0.mk (blk_below (bf BK601.out) hb)
                    have n9_ := Aside0.mk (blk_below (bf BK602.out) hb)
                    have n10_ := Aside0.mk (blk_below (bf BK608.out) hb)
                    have n11_ := Aside0.mk (below_step (lb HB.out) hb)
                    have n12_ := Aside0.mk (hbox)
                    have n13_ := Aside0.mk ((by rw [hg]; exact (below_size (lb HB.out)) : w.heap.size ≤ gb614))
                    have n14_ := Aside0.mk ((by rw [hg]; exact (below_size (lb HB.out)) : w.heap.size ≤ gb614))
                    have n15_ := Aside0.mk ((by rw [hg]; exact Nat.ne_of_lt (blk_lt (bf BK574.out)) : gb574 ≠ gb614))
                    have n16_ := Aside0.mk ((by rw [hg]; exact Nat.ne_of_gt (blk_lt (bf BK574.out)) : gb614 ≠ gb574))
                    have n17_ := Aside0.mk ((by rw [hg]; exact Nat.ne_of_lt (blk_lt (bf BK575.out)) : gb575 ≠ gb614))
                    have n18_ := Aside0.mk ((by rw [hg]; exact Nat.ne_of_gt (blk_lt (bf BK575.out)) : gb614 ≠ gb575))
                    have n19_ := Aside0.mk ((by rw [hg]; exact Nat.ne_of_lt (blk_lt (bf BK576.out)) : gb576 ≠ gb614))
                    have n20_ := Aside0.mk ((by rw [hg]; exact Nat.ne_of_gt (blk_lt (bf BK576.out)) : gb614 ≠ gb576))
                    have n21_ := Aside0.mk ((by rw [hg]; exact Nat.ne_of_lt (blk_lt (bf BK577.out)) : gb577 ≠ gb614))
                    have n22_ := Aside0.mk ((by rw [hg]; exact Nat.ne_of_gt (blk_lt (bf BK577.out)) : gb614 ≠ gb577))
                    have n23_ := Aside0.mk ((by rw [hg]; exact Nat.ne_of_lt (blk_lt (bf BK581.out)) : gb581 ≠ gb614))
                    have n24_ := Aside0.mk ((by rw [hg]; exact Nat.ne_of_gt (blk_lt (bf BK581.out)) : gb614 ≠ gb581))
                    have n25_ := Aside0.mk ((by rw [hg]; exact Nat.ne_of_lt (blk_lt (bf BK585.out)) : gb585 ≠ gb614))
                    have n26_ := Aside0.mk ((by rw [hg]; exact Nat.ne_of_gt (blk_lt (bf BK585.out)) : gb614 ≠ gb585))
                    have n27_ := Aside0.mk ((by rw [hg]; exact Nat.ne_of_lt (blk_lt (bf BK589.out)) : gb589 ≠ gb614))
                    have n28_ := Aside0.mk ((by rw [hg]; exact Nat.ne_of_gt (blk_lt (bf BK589.out)) : gb614 ≠ gb589))
                    have n29_ := Aside0.mk ((by rw [hg]; exact Nat.ne_of_lt (blk_lt (bf BK593.out)) : gb593 ≠ gb614))
                    have n30_ := Aside0.mk ((by rw [hg]; exact Nat.ne_of_gt (blk_lt (bf BK593.out)) : gb614 ≠ gb593))
                    have n31_ := Aside0.mk ((by rw [hg]; exact Nat.ne_of_lt (blk_lt (bf BK601.out)) : gb601 ≠ gb614))
                    have n32_ := Aside0.mk ((by rw [hg]; exact Nat.ne_of_gt (blk_lt (bf BK601.out)) : gb614 ≠ gb601))
                    have n33_ := Aside0.mk ((by rw [hg]; exact Nat.ne_of_lt (blk_lt (bf BK602.out)) : gb602 ≠ gb614))
                    have n34_ := Aside0.mk ((by rw [hg]; exact Nat.ne_of_gt (blk_lt (bf BK602.out)) : gb614 ≠ gb602))
                    have n35_ := Aside0.mk ((by rw [hg]; exact Nat.ne_of_lt (blk_lt (bf BK608.out)) : gb608 ≠ gb614))
                    have n36_ := Aside0.mk ((by rw [hg]; exact Nat.ne_of_gt (blk_lt (bf BK608.out)) : gb614 ≠ gb608))
                    clear BK574
                    clear BK575
                    clear BK576
                    clear BK577
                    clear BK581
                    clear BK585
                    clear BK589
                    clear BK593
                    clear BK601
                    clear BK602
                    clear BK608
                    clear HB
                    have BK574 := n0_
                    have BK575 := n1_
                    have BK576 := n2_
                    have BK577 := n3_
                    have BK581 := n4_
                    have BK585 := n5_
                    have BK589 := n6_
                    have BK593 := n7_
                    have BK601 := n8_
                    have BK602 := n9_
                    have BK608 := n10_
                    have HB := n11_
                    have BK614 := n12_
                    have GW614 := n13_
                    have GE614 := n14_
                    have NB574_614 := n15_
                    have NB614_574 := n16_
                    have NB575_614 := n17_
                    have NB614_575 := n18_
                    have NB576_614 := n19_
                    have NB614_576 := n20_
                    have NB577_614 := n21_
                    have NB614_577 := n22_
                    have NB581_614 := n23_
                    have NB614_581 := n24_
                    have NB585_614 := n25_
                    have NB614_585 := n26_
                    have NB589_614 := n27_
                    have NB614_589 := n28_
                    have NB593_614 := n29_
                    have NB614_593 := n30_
                    have NB601_614 := n31_
                    have NB614_601 := n32_
                    have NB602_614 := n33_
                    have NB614_602 := n34_
                    have NB608_614 := n35_
                    have NB614_608 := n36_
                    clear n0_ n1_ n2_ n3_ n4_ n5_ n6_ n7_ n8_ n9_ n10_ n11_ n12_ n13_ n14_ n15_ n16_ n17_ n18_ n19_ n20_ n21_ n22_ n23_ n24_ n25_ n26_ n27_ n28_ n29_ n30_ n31_ n32_ n33_ n34_ n35_ n36_
                    clear hb hbox hg
                    refine hK.out _ _ ⟨(blk_cell BK608.out 0).trans rfl, (blk_cell BK608.out 1).trans rfl, (blk_cell BK574.out 0).trans rfl, (blk_cell BK574.out 1).trans rfl⟩ (fun hHeld => ?_)
                    clear hK K
                    refine norm_ (a' := ?_) ?_ ?_
                    rotate_left
                    · show Act.put _ (some 20) _ = _
                      simp only [Act.put, List.setIfInBounds_toArray, List.set_cons_zero, List.set_cons_succ, i64_w, i32_w]
                      rfl
                    refine one_ (i := 3) (N := some 115) #[true, true, true, true, false, false, false, false, true, false, false] rfl rfl (one_of HT_.out (by kernel_rfl)) (by decide) (fun K hK => ?_)
                    refine goes_ Try.func24 (by kernel_rfl) rfl #[.int .i64 t566] (by rfl) rfl rfl al ?_
                    with_reducible refine (laws_whole.calls t566 t609 t610 _ A134.out).mono ?_
                    rintro e w404 ⟨rfl, hb⟩
                    refine ⟨_, rfl, ?_⟩
                    have n0_ := Aside0.mk (blk_below (bf BK574.out) hb)
                    have n1_ := Aside0.mk (blk_below (bf BK575.out) hb)
                    have n2_ := Aside0.mk (blk_below (bf BK576.out) hb)
                    have n3_ := Aside0.mk (blk_below (bf BK577.out) hb)
                    have n4_ := Aside0.mk (blk_below (bf BK581.out) hb)
                    have n5_ := Aside0.mk (blk_below (bf BK585.out) hb)
                    have n6_ := Aside0.mk (blk_below (bf BK589.out) hb)
                    have n7_ := Aside0.mk (blk_below (bf BK593.out) hb)
                    have n8_ := Aside0.mk (blk_below (bf BK601.out) hb)
                    have n9_ := Aside0.mk (blk_below (bf BK602.out) hb)
                    have n10_ := Aside0.mk (blk_below (bf BK608.out) hb)
                    have n11_ := Aside0.mk (blk_below (bf BK614.out) hb)
                    have n12_ := Aside0.mk (below_step (lb HB.out) hb)
                    clear BK574
                    clear BK575
                    clear BK576
                    clear BK577
                    clear BK581
                    clear BK585
                    clear BK589
                    clear BK593
                    clear BK601
                    clear BK602
                    clear BK608
                    clear BK614
                    clear HB
                    have BK574 := n0_
                    have BK575 := n1_
                    have BK576 := n2_
                    have BK577 := n3_
                    have BK581 := n4_
                    have BK585 := n5_
                    have BK589 := n6_
                    have BK593 := n7_
                    have BK601 := n8_
                    have BK602 := n9_
                    have BK608 := n10_
                    have BK614 := n11_
                    have HB := n12_
                    clear n0_ n1_ n2_ n3_ n4_ n5_ n6_ n7_ n8_ n9_ n10_ n11_ n12_
                    (try clear hb)
                    (try clear hb2)
                    (try clear hk)
                    (try clear hi)
                    refine hK.out _ _ ⟨(blk_cell BK608.out 0).trans rfl, (blk_cell BK608.out 1).trans rfl, (blk_cell BK574.out 0).trans rfl, (blk_cell BK574.out 1).trans rfl⟩ (fun hHeld => ?_)
                    clear hK K
                    refine norm_ (a' := ?_) ?_ ?_
                    rotate_left
                    · show Act.put _ (some 115) _ = _
                      simp only [Act.put, List.setIfInBounds_toArray, List.set_cons_zero, List.set_cons_succ, i64_w, i32_w]
                      rfl
                    refine one_ (i := 4) (N := some 116) #[true, true, true, true, true, false, false, false, true, false, false] rfl rfl (one_of HT_.out (by kernel_rfl)) (by decide) (fun K hK => ?_)
                    refine goes_ Try.func29 (by kernel_rfl) rfl #[.agg #[.int .i64 t605, .int .i64 t606], .agg #[.int .i64 t609, .int .i64 t610]] (by rfl) rfl rfl al ?_
                    with_reducible refine (impl_QuoAdd.calls kj79 t605 t606 t609 t610 t611 t612 t613 _ A135.out).mono ?_
                    rintro e w405 ⟨rfl, hb⟩
                    refine ⟨_, rfl, ?_⟩
                    have n0_ := Aside0.mk (blk_below (bf BK574.out) hb)
                    have n1_ := Aside0.mk (blk_below (bf BK575.out) hb)
                    have n2_ := Aside0.mk (blk_below (bf BK576.out) hb)
                    have n3_ := Aside0.mk (blk_below (bf BK577.out) hb)
                    have n4_ := Aside0.mk (blk_below (bf BK581.out) hb)
                    have n5_ := Aside0.mk (blk_below (bf BK585.out) hb)
                    have n6_ := Aside0.mk (blk_below (bf BK589.out) hb)
                    have n7_ := Aside0.mk (blk_below (bf BK593.out) hb)
                    have n8_ := Aside0.mk (blk_below (bf BK601.out) hb)
                    have n9_ := Aside0.mk (blk_below (bf BK602.out) hb)
                    have n10_ := Aside0.mk (blk_below (bf BK608.out) hb)
                    have n11_ := Aside0.mk (blk_below (bf BK614.out) hb)
                    have n12_ := Aside0.mk (below_step (lb HB.out) hb)
                    clear BK574
                    clear BK575
                    clear BK576
                    clear BK577
                    clear BK581
                    clear BK585
                    clear BK589
                    clear BK593
                    clear BK601
                    clear BK602
                    clear BK608
                    clear BK614
                    clear HB
                    have BK574 := n0_
                    have BK575 := n1_
                    have BK576 := n2_
                    have BK577 := n3_
                    have BK581 := n4_
                    have BK585 := n5_
                    have BK589 := n6_
                    have BK593 := n7_
                    have BK601 := n8_
                    have BK602 := n9_
                    have BK608 := n10_
                    have BK614 := n11_
                    have HB := n12_
                    clear n0_ n1_ n2_ n3_ n4_ n5_ n6_ n7_ n8_ n9_ n10_ n11_ n12_
                    (try clear hb)
                    (try clear hb2)
                    (try clear hk)
                    (try clear hi)
                    refine hK.out _ _ ⟨(blk_cell BK608.out 0).trans rfl, (blk_cell BK608.out 1).trans rfl, (blk_cell BK574.out 0).trans rfl, (blk_cell BK574.out 1).trans rfl⟩ (fun hHeld => ?_)
                    clear hK K
                    refine norm_ (a' := ?_) ?_ ?_
                    rotate_left
                    · show Act.put _ (some 116) _ = _
                      simp only [Act.put, List.setIfInBounds_toArray, List.set_cons_zero, List.set_cons_succ, i64_w, i32_w]
                      rfl
                    refine pure_ (i := 5) (N := some 111) (v := ?_) (a' := ?_) #[true, true, true, true, true, true, false, false, true, false, false] rfl rfl (any_of HT_.out (by kernel_rfl)) (fun _ _ _ h => h) (Or.inl ⟨by rfl, ?_⟩) ?_ ?_
                    rotate_left
                    · intro w'
                      go_simp
                      with_reducible rfl
                    rotate_left
                    · simp only [Act.put, List.setIfInBounds_toArray, List.set_cons_zero, List.set_cons_succ, i64_w, i32_w]
                      rfl
                    refine pure_ (i := 6) (N := some 117) (v := ?_) (a' := ?_) #[true, true, true, true, true, true, true, false, true, false, false] rfl rfl (any_of HT_.out (by kernel_rfl)) (fun _ _ _ h => h) (Or.inl ⟨by rfl, ?_⟩) ?_ ?_
                    rotate_left
                    · intro w'
                      go_simp
                      with_reducible rfl
                    rotate_left
                    · simp only [Act.put, List.setIfInBounds_toArray, List.set_cons_zero, List.set_cons_succ, i64_w, i32_w]
                      rfl
                    refine pure_ (i := 7) (N := some 118) (v := ?_) (a' := ?_) #[true, true, true, true, true, true, true, true, true, false, false] rfl rfl (any_of HT_.out (by kernel_rfl)) (fun _ _ _ h => h) (Or.inl ⟨by rfl, ?_⟩) ?_ ?_
                    rotate_left
                    · intro w'
                      go_simp
                      with_reducible rfl
                    rotate_left
                    · simp only [Act.put, List.setIfInBounds_toArray, List.set_cons_zero, List.set_cons_succ, i64_w, i32_w]
                      rfl
                    exact norm_ (by simp only [putAll, Act.put, List.setIfInBounds_toArray, List.set_cons_zero, List.set_cons_succ]) (hCont (gb614) _ ⟨hHeld, (bf BK574.out), (bf BK575.out), (bf BK576.out), (bf BK577.out), (bf BK581.out), (bf BK585.out), (bf BK589.out), (bf BK593.out), (bf BK601.out), (bf BK602.out), (bf BK608.out), (bf BK614.out), GW614.out, GE614.out, NB574_614.out, NB614_574.out, NB575_614.out, NB614_575.out, NB576_614.out, NB614_576.out, NB577_614.out, NB614_577.out, NB581_614.out, NB614_581.out, NB585_614.out, NB614_585.out, NB589_614.out, NB614_589.out, NB593_614.out, NB614_593.out, NB601_614.out, NB614_601.out, NB602_614.out, NB614_602.out, NB608_614.out, NB614_608.out, (lb HB.out)⟩)
                rintro gb614 w406 ⟨hS_, h0_, h1_, h2_, h3_, h4_, h5_, h6_, h7_, h8_, h9_, h10_, h11_, h12_, h13_, h14_, h15_, h16_, h17_, h18_, h19_, h20_, h21_, h22_, h23_, h24_, h25_, h26_, h27_, h28_, h29_, h30_, h31_, h32_, h33_, h34_, h35_, h36_⟩
                have n0_ : Aside0 (w406.heap[gb574]? = some (.cells #[.int .i64 t566, .int .i64 t567] 25 (0, 0))) := ⟨h0_⟩
                have n1_ : Aside0 (w406.heap[gb575]? = some (.cells #[.int .i64 t568, .int .i64 t569] 25 (0, 0))) := ⟨h1_⟩
                have n2_ : Aside0 (w406.heap[gb576]? = some (.cells #[.int .i64 t570, .int .i64 t571] 25 (0, 0))) := ⟨h2_⟩
                have n3_ : Aside0 (w406.heap[gb577]? = some (.cells #[.int .i64 t572, .int .i64 t573] 25 (0, 0))) := ⟨h3_⟩
                have n4_ : Aside0 (w406.heap[gb581]? = some (.cells #[.int .i64 t578, .int .i64 t579] 29 (0, 0))) := ⟨h4_⟩
                have n5_ : Aside0 (w406.heap[gb585]? = some (.cells #[.int .i64 t582, .int .i64 t583] 29 (0, 0))) := ⟨h5_⟩
                have n6_ : Aside0 (w406.heap[gb589]? = some (.cells #[.int .i64 t586, .int .i64 t587] 29 (0, 0))) := ⟨h6_⟩
                have n7_ : Aside0 (w406.heap[gb593]? = some (.cells #[.int .i64 t590, .int .i64 t591] 29 (0, 0))) := ⟨h7_⟩
                have n8_ : Aside0 (w406.heap[gb601]? = some (.cells #[.int .i64 t596, .int .i64 t597] 29 (0, 0))) := ⟨h8_⟩
                have n9_ : Aside0 (w406.heap[gb602]? = some (.cells #[.int .i64 t598, .int .i64 t599] 29 (0, 0))) := ⟨h9_⟩
                have n10_ : Aside0 (w406.heap[gb608]? = some (.cells #[.int .i64 t605, .int .i64 t606] 29 (0, 0))) := ⟨h10_⟩
                have n11_ : Aside0 (w406.heap[gb614]? = some (.cells #[.int .i64 0, .int .i64 0] 29 (0, 0))) := ⟨h11_⟩
                have n12_ : Aside0 (w.heap.size ≤ gb614) := ⟨h12_⟩
                have n13_ : Aside0 (w.heap.size ≤ gb614) := ⟨h13_⟩
                have n14_ : Aside0 (gb574 ≠ gb614) := ⟨h14_⟩
                have n15_ : Aside0 (gb614 ≠ gb574) := ⟨h15_⟩
                have n16_ : Aside0 (gb575 ≠ gb614) := ⟨h16_⟩
                have n17_ : Aside0 (gb614 ≠ gb575) := ⟨h17_⟩
                have n18_ : Aside0 (gb576 ≠ gb614) := ⟨h18_⟩
                have n19_ : Aside0 (gb614 ≠ gb576) := ⟨h19_⟩
                have n20_ : Aside0 (gb577 ≠ gb614) := ⟨h20_⟩
                have n21_ : Aside0 (gb614 ≠ gb577) := ⟨h21_⟩
                have n22_ : Aside0 (gb581 ≠ gb614) := ⟨h22_⟩
                have n23_ : Aside0 (gb614 ≠ gb581) := ⟨h23_⟩
                have n24_ : Aside0 (gb585 ≠ gb614) := ⟨h24_⟩
                have n25_ : Aside0 (gb614 ≠ gb585) := ⟨h25_⟩
                have n26_ : Aside0 (gb589 ≠ gb614) := ⟨h26_⟩
                have n27_ : Aside0 (gb614 ≠ gb589) := ⟨h27_⟩
                have n28_ : Aside0 (gb593 ≠ gb614) := ⟨h28_⟩
                have n29_ : Aside0 (gb614 ≠ gb593) := ⟨h29_⟩
                have n30_ : Aside0 (gb601 ≠ gb614) := ⟨h30_⟩
                have n31_ : Aside0 (gb614 ≠ gb601) := ⟨h31_⟩
                have n32_ : Aside0 (gb602 ≠ gb614) := ⟨h32_⟩
                have n33_ : Aside0 (gb614 ≠ gb602) := ⟨h33_⟩
                have n34_ : Aside0 (gb608 ≠ gb614) := ⟨h34_⟩
                have n35_ : Aside0 (gb614 ≠ gb608) := ⟨h35_⟩
                have n36_ : Aside0 (Below w.heap.size w w406) := ⟨h36_⟩
                clear BK574
                clear BK575
                clear BK576
                clear BK577
                clear BK581
                clear BK585
                clear BK589
                clear BK593
                clear BK601
                clear BK602
                clear BK608
                clear HB
                clear h0_ h1_ h2_ h3_ h4_ h5_ h6_ h7_ h8_ h9_ h10_ h11_ h12_ h13_ h14_ h15_ h16_ h17_ h18_ h19_ h20_ h21_ h22_ h23_ h24_ h25_ h26_ h27_ h28_ h29_ h30_ h31_ h32_ h33_ h34_ h35_ h36_
                have BK574 := n0_
                have BK575 := n1_
                have BK576 := n2_
                have BK577 := n3_
                have BK581 := n4_
                have BK585 := n5_
                have BK589 := n6_
                have BK593 := n7_
                have BK601 := n8_
                have BK602 := n9_
                have BK608 := n10_
                have BK614 := n11_
                have GW614 := n12_
                have GE614 := n13_
                have NB574_614 := n14_
                have NB614_574 := n15_
                have NB575_614 := n16_
                have NB614_575 := n17_
                have NB576_614 := n18_
                have NB614_576 := n19_
                have NB577_614 := n20_
                have NB614_577 := n21_
                have NB581_614 := n22_
                have NB614_581 := n23_
                have NB585_614 := n24_
                have NB614_585 := n25_
                have NB589_614 := n26_
                have NB614_589 := n27_
                have NB593_614 := n28_
                have NB614_593 := n29_
                have NB601_614 := n30_
                have NB614_601 := n31_
                have NB602_614 := n32_
                have NB614_602 := n33_
                have NB608_614 := n34_
                have NB614_608 := n35_
                have HB := n36_
                clear n0_ n1_ n2_ n3_ n4_ n5_ n6_ n7_ n8_ n9_ n10_ n11_ n12_ n13_ n14_ n15_ n16_ n17_ n18_ n19_ n20_ n21_ n22_ n23_ n24_ n25_ n26_ n27_ n28_ n29_ n30_ n31_ n32_ n33_ n34_ n35_ n36_
                have hHeld : w406.cell? ⟨gb608, 0, none⟩ = some (.int .i64 t605) ∧ w406.cell? ⟨gb608, 1, none⟩ = some (.int .i64 t606) ∧ w406.cell? ⟨gb574, 0, none⟩ = some (.int .i64 t566) ∧ w406.cell? ⟨gb574, 1, none⟩ = some (.int .i64 t567) := hS_
                refine norm_ (a' := ?_) ?_ ?_
                rotate_left
                · simp only [putAll, Act.put, List.setIfInBounds_toArray, List.set_cons_zero, List.set_cons_succ]
                  rfl
                refine one_ (i := 9) (N := none) #[true, true, true, true, true, true, true, true, true, true, false] rfl rfl (one_of HT_.out (by kernel_rfl)) (by decide) (fun K hK => ?_)
                have hs407 : w406.cell? ⟨gb614, 0, none⟩ = some (.int .i64 0) := (blk_cell BK614.out 0).trans rfl
                have hfs407 := blk_frozen BK614.out 0
                have hns407_0 := NB574_614.out
                have hns407_1 := NB575_614.out
                have hns407_2 := NB576_614.out
                have hns407_3 := NB577_614.out
                have hns407_4 := NB581_614.out
                have hns407_5 := NB585_614.out
                have hns407_6 := NB589_614.out
                have hns407_7 := NB593_614.out
                have hns407_8 := NB601_614.out
                have hns407_9 := NB602_614.out
                have hns407_10 := NB608_614.out
                have hms407_0 := NB614_574.out
                have hms407_1 := NB614_575.out
                have hms407_2 := NB614_576.out
                have hms407_3 := NB614_577.out
                have hms407_4 := NB614_581.out
                have hms407_5 := NB614_585.out
                have hms407_6 := NB614_589.out
                have hms407_7 := NB614_593.out
                have hms407_8 := NB614_601.out
                have hms407_9 := NB614_602.out
                have hms407_10 := NB614_608.out
                have hs408 : w406.cell? ⟨gb614, 1, none⟩ = some (.int .i64 0) := (blk_cell BK614.out 1).trans rfl
                have hfs408 := blk_frozen BK614.out 1
                have hns408_0 := NB574_614.out
                have hns408_1 := NB575_614.out
                have hns408_2 := NB576_614.out
                have hns408_3 := NB577_614.out
                have hns408_4 := NB581_614.out
                have hns408_5 := NB585_614.out
                have hns408_6 := NB589_614.out
                have hns408_7 := NB593_614.out
                have hns408_8 := NB601_614.out
                have hns408_9 := NB602_614.out
                have hns408_10 := NB608_614.out
                have hms408_0 := NB614_574.out
                have hms408_1 := NB614_575.out
                have hms408_2 := NB614_576.out
                have hms408_3 := NB614_577.out
                have hms408_4 := NB614_581.out
                have hms408_5 := NB614_585.out
                have hms408_6 := NB614_589.out
                have hms408_7 := NB614_593.out
                have hms408_8 := NB614_601.out
                have hms408_9 := NB614_602.out
                have hms408_10 := NB614_608.out
                refine skip_ (w1 := ?_) (by rfl) rfl ?_ ?_
                rotate_left
                · go_simp
                  rfl
                refine hK.out _ _ ⟨((cell_far (p := ⟨gb614, _, none⟩) NB608_614.out _).trans (((cell_far (p := ⟨gb614, _, none⟩) NB608_614.out _).trans (hHeld.1)))), ((cell_far (p := ⟨gb614, _, none⟩) NB608_614.out _).trans (((cell_far (p := ⟨gb614, _, none⟩) NB608_614.out _).trans (hHeld.2.1)))), ((cell_far (p := ⟨gb614, _, none⟩) NB574_614.out _).trans (((cell_far (p := ⟨gb614, _, none⟩) NB574_614.out _).trans (hHeld.2.2.1)))), ((cell_far (p := ⟨gb614, _, none⟩) NB574_614.out _).trans (((cell_far (p := ⟨gb614, _, none⟩) NB574_614.out _).trans (hHeld.2.2.2))))⟩ (fun hHeld => ?_)
                clear hK K
                refine pure_ (i := 10) (N := some 21) (v := ?_) (a' := ?_) #[true, true, true, true, true, true, true, true, true, true, true] rfl rfl (any_of HT_.out (by kernel_rfl)) (fun _ _ _ h => h) (Or.inl ⟨by rfl, ?_⟩) ?_ ?_
                rotate_left
                · intro w'
                  go_simp
                  with_reducible rfl
                rotate_left
                · simp only [Act.put, List.setIfInBounds_toArray, List.set_cons_zero, List.set_cons_succ, i64_w, i32_w]
                  rfl
                refine done_ (done_of HT_.out (by kernel_rfl)) ?_
                by_cases c136 : t600 = true
                · subst c136
                  have H1 : (if t607 = true then (if t613 = true then (some (t596 == t611 && (t597 == t612))) else (some true)) else (some true)) = some r := by rw [if_pos rfl] at H; exact H
                  clear H
                  have H := H1
                  clear H1
                  by_cases c137 : t607 = true
                  · subst c137
                    have H1 : (if t613 = true then (some (t596 == t611 && (t597 == t612))) else (some true)) = some r := by rw [if_pos rfl] at H; exact H
                    clear H
                    have H := H1
                    clear H1
                    by_cases c138 : t613 = true
                    · subst c138
                      have H1 : (some (t596 == t611 && (t597 == t612))) = some r := by rw [if_pos rfl] at H; exact H
                      clear H
                      have H := H1
                      clear H1
                      obtain rfl := Option.some.inj H
                      have hnb203 := NB601_608.out
                      have hnc203 := NB608_601.out
                      have hnb204 := NB601_614.out
                      have hnc204 := NB614_601.out
                      have hcz205_0 : w406.cell? ⟨gb601, 0, none⟩ = some (.int .i64 t596) := (blk_cell BK601.out 0).trans rfl
                      have hcz205_1 : w406.cell? ⟨gb601, 1, none⟩ = some (.int .i64 t597) := (blk_cell BK601.out 1).trans rfl
                      have hfz205_0 := blk_frozen BK601.out 0
                      have hfz205_1 := blk_frozen BK601.out 1
                      have hnb206 := NB614_574.out
                      have hnc206 := NB574_614.out
                      have hnb207 := NB614_575.out
                      have hnc207 := NB575_614.out
                      have hnb208 := NB614_576.out
                      have hnc208 := NB576_614.out
                      have hnb209 := NB614_577.out
                      have hnc209 := NB577_614.out
                      have hnb210 := NB614_581.out
                      have hnc210 := NB581_614.out
                      have hnb211 := NB614_585.out
                      have hnc211 := NB585_614.out
                      have hnb212 := NB614_589.out
                      have hnc212 := NB589_614.out
                      have hnb213 := NB614_593.out
                      have hnc213 := NB593_614.out
                      have hnb214 := NB614_602.out
                      have hnc214 := NB602_614.out
                      have hnb215 := NB614_608.out
                      have hnc215 := NB608_614.out
                      have hcz216_0 : w406.cell? ⟨gb614, 0, none⟩ = some (.int .i64 0) := (blk_cell BK614.out 0).trans rfl
                      have hcz216_1 : w406.cell? ⟨gb614, 1, none⟩ = some (.int .i64 0) := (blk_cell BK614.out 1).trans rfl
                      have hfz216_0 := blk_frozen BK614.out 0
                      have hfz216_1 := blk_frozen BK614.out 1
                      try go_wp2
                      go_ret
                      exact ⟨er, lb HB.out⟩
                    · replace c138 := Bool.eq_false_iff.mpr c138
                      subst c138
                      have H1 : (some true) = some r := by rw [if_neg (show ¬ (false = true) by decide)] at H; exact H
                      clear H
                      have H := H1
                      clear H1
                      obtain rfl := Option.some.inj H
                      try go_wp2
                      go_ret
                      exact ⟨er, lb HB.out⟩
                  · replace c137 := Bool.eq_false_iff.mpr c137
                    subst c137
                    have H1 : (some true) = some r := by rw [if_neg (show ¬ (false = true) by decide)] at H; exact H
                    clear H
                    have H := H1
                    clear H1
                    obtain rfl := Option.some.inj H
                    try go_wp2
                    go_ret
                    exact ⟨er, lb HB.out⟩
                · replace c136 := Bool.eq_false_iff.mpr c136
                  subst c136
                  have H1 : (some true) = some r := by rw [if_neg (show ¬ (false = true) by decide)] at H; exact H
                  clear H
                  have H := H1
                  clear H1
                  obtain rfl := Option.some.inj H
                  try go_wp2
                  go_ret
                  exact ⟨er, lb HB.out⟩

/-- THE ONE PURE STATEMENT of laws_FnCrossOf: yours. -/
def laws_FnCrossOf.Pure : Prop := ∀ (l0 : List Int), l0.length ≤ maxLen → l0.length * 1 ≤ 140737488351232 → (∀ x ∈ l0, (Lit.int .u8 x).wf = true) → ∃ k, laws_FnCrossOf.f k l0 = some true
theorem laws_FnCrossOf.walk (P : laws_FnCrossOf.Pure) (a0 : Option Addr) (len0 cap0 : Nat) (z0 : List Int) (w : World) (w0 : (a0 = none ∧ len0 = 0 ∧ cap0 = 0 ∧ z0 = []) ∨ ∃ x, a0 = some x ∧ len0 ≤ cap0 ∧ cap0 ≤ maxLen ∧ z0.length = cap0 ∧ (∀ i, i < z0.length → w.cell? (x.add i) = some (.int .u8 (z0.getD i 0))) ∧ ∀ n ∈ z0, (Lit.int .u8 n).wf = true) (y0 : len0 * 1 ≤ 140737488351232) :
    Calls Try.prog 10 #[.slice a0 len0 cap0] w fun e w' => e = .returned (.bool true) ∧ Below w.heap.size w w' := by
  obtain ⟨l0, rfl, hr0, hm0, hw0, hc0⟩ := ReadsInt.ofRowC w0
  obtain ⟨k, h⟩ := P l0 hm0 y0 hw0
  refine (laws_FnCrossOf.calls k _ _ l0 true w (Kd.C_of_reads (d := (0 : Int)) (h1 := fun _ => rfl) hr0) hc0 h).mono ?_
  rintro e w' ⟨rfl, hd⟩
  exact ⟨rfl, hd⟩

end Go.Proofs.Ytgoejfdciejikaa.P

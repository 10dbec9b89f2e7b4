-- Written by a program of this session (wip/xprint.py over the print's own program), not by print.sh. Lean checks it.
import Derived.Test.YtgoejfdciejikaaPx0
import Derived.Test.YtgoejfdciejikaaPx2
import Derived.Test.YtgoejfdciejikaaPx24
import Derived.Test.YtgoejfdciejikaaPx25
import Derived.Test.YtgoejfdciejikaaPx32
namespace Go.Proofs.Ytgoejfdciejikaa.P
open Go.RowKit Go.Proofs.YtgoejfdciejikaaW.PrintWords Go.Proofs.YtgoejfdciejikaaW.PrintLast Go.Proofs.YtgoejfdciejikaaW.PrintMore
attribute [local go_sem] max2_int min2_int max_two min_two max_three min_three max_four min_four   -- for this text's walks alone
set_option linter.unusedVariables false
set_option linter.unusedSimpArgs false

attribute [local go_sem high] eqA29
/-! ### laws_FnCross: function 9 -/
def laws_FnCross.j0 : Nat → Bool → Bool → Bool → Int → Int → Int → Int → Int → Int → Int → Int → Int → Int → Int → Int → Int → Int → Int → Int → Option (Bool)
  | 0, _, _, _, _, _, _, _, _, _, _, _, _, _, _, _, _, _, _, _ => none
  | k + 1, x9, x12, x65, x511000, x511001, x512000, x512001, x513000, x513001, x514000, x514001, x520000, x520001, x521000, x521001, x527000, x527001, x528000, x528001 => if x65 = true then (if (x9 == x12) = true then (if (x521000 == x528000 && (x521001 == x528001)) = true then (some (x520000 == x527000 && (x520001 == x527001))) else (some false)) else (some false)) else ((impl_CrossAt.f k x513000 x513001 x514000 x514001 x511000 x511001 x512000 x512001).bind fun bt528 => ((impl_CrossAt.f k x512000 x512001 x511000 x511001 x513000 x513001 x514000 x514001).bind fun bt535 => (if bt528.2.2.2.2 = true then (if bt535.2.2.2.2 = true then (if (bt528.1 == x520000 && (bt528.2.1 == x520001)) = true then (if (bt528.2.2.1 == x521000 && (bt528.2.2.2.1 == x521001)) = true then (if (bt535.1 == x520000 && (bt535.2.1 == x520001)) = true then (if (bt535.2.2.1 == x521000 && (bt535.2.2.2.1 == x521001)) = true then (if (wrap64 ((wrap64 ((wrap64 (x512000 - x511000)) * (wrap64 (x521000 - (wrap64 (x511001 * x521001)))))) * x520001)) = (wrap64 ((wrap64 ((wrap64 (x512001 - x511001)) * (wrap64 (x520000 - (wrap64 (x511000 * x520001)))))) * x521001)) then (some ((wrap64 ((wrap64 ((wrap64 (x514000 - x513000)) * (wrap64 (x521000 - (wrap64 (x513001 * x521001)))))) * x520001)) == (wrap64 ((wrap64 ((wrap64 (x514001 - x513001)) * (wrap64 (x520000 - (wrap64 (x513000 * x520001)))))) * x521001)))) else (some false)) else (some false)) else (some false)) else (some false)) else (some false)) else (some false)) else (some false))))
def laws_FnCross.f (k : Nat) (l0 : List Int) : Option (Bool) := if (l0.length : Int) > 1048576 then (some true) else ((spec_DrawCrossAt.f k l0).bind fun bt502 => ((impl_CrossAt.f k bt502.1 bt502.2.1 bt502.2.2.1 bt502.2.2.2.1 bt502.2.2.2.2.1 bt502.2.2.2.2.2.1 bt502.2.2.2.2.2.2.1 bt502.2.2.2.2.2.2.2).bind fun bt514 => ((spec_CrossAt.f k bt502.1 bt502.2.1 bt502.2.2.1 bt502.2.2.2.1 bt502.2.2.2.2.1 bt502.2.2.2.2.2.1 bt502.2.2.2.2.2.2.1 bt502.2.2.2.2.2.2.2).bind fun bt521 => (if (bt514.2.2.2.2 != bt521.2.2.2.2) = true then (laws_FnCross.j0 k bt514.2.2.2.2 bt521.2.2.2.2 true bt502.1 bt502.2.1 bt502.2.2.1 bt502.2.2.2.1 bt502.2.2.2.2.1 bt502.2.2.2.2.2.1 bt502.2.2.2.2.2.2.1 bt502.2.2.2.2.2.2.2 bt514.1 bt514.2.1 bt514.2.2.1 bt514.2.2.2.1 bt521.1 bt521.2.1 bt521.2.2.1 bt521.2.2.2.1) else (if (!(bt514.2.2.1 == bt521.2.2.1) || (!(bt514.2.2.2.1 == bt521.2.2.2.1))) = true then (laws_FnCross.j0 k bt514.2.2.2.2 bt521.2.2.2.2 true bt502.1 bt502.2.1 bt502.2.2.1 bt502.2.2.2.1 bt502.2.2.2.2.1 bt502.2.2.2.2.2.1 bt502.2.2.2.2.2.2.1 bt502.2.2.2.2.2.2.2 bt514.1 bt514.2.1 bt514.2.2.1 bt514.2.2.2.1 bt521.1 bt521.2.1 bt521.2.2.1 bt521.2.2.2.1) else (if (!(bt514.1 == bt521.1) || (!(bt514.2.1 == bt521.2.1))) = true then (laws_FnCross.j0 k bt514.2.2.2.2 bt521.2.2.2.2 true bt502.1 bt502.2.1 bt502.2.2.1 bt502.2.2.2.1 bt502.2.2.2.2.1 bt502.2.2.2.2.2.1 bt502.2.2.2.2.2.2.1 bt502.2.2.2.2.2.2.2 bt514.1 bt514.2.1 bt514.2.2.1 bt514.2.2.2.1 bt521.1 bt521.2.1 bt521.2.2.1 bt521.2.2.2.1) else (laws_FnCross.j0 k bt514.2.2.2.2 bt521.2.2.2.2 (!bt514.2.2.2.2) bt502.1 bt502.2.1 bt502.2.2.1 bt502.2.2.2.1 bt502.2.2.2.2.1 bt502.2.2.2.2.2.1 bt502.2.2.2.2.2.2.1 bt502.2.2.2.2.2.2.2 bt514.1 bt514.2.1 bt514.2.2.1 bt514.2.2.2.1 bt521.1 bt521.2.1 bt521.2.2.1 bt521.2.2.2.1)))))))
theorem laws_FnCross.mono_l : ∀ k, (∀ y0 y1 y2 y3 y4 y5 y6 y7 y8 y9 y10 y11 y12 y13 y14 y15 y16 y17 y18, LeO (laws_FnCross.j0 k y0 y1 y2 y3 y4 y5 y6 y7 y8 y9 y10 y11 y12 y13 y14 y15 y16 y17 y18) (laws_FnCross.j0 (k + 1) y0 y1 y2 y3 y4 y5 y6 y7 y8 y9 y10 y11 y12 y13 y14 y15 y16 y17 y18))
  | 0 => fun _ _ _ _ _ _ _ _ _ _ _ _ _ _ _ _ _ _ _ r h => by simp [laws_FnCross.j0] at h
  | k + 1 => by
    have ih0 := laws_FnCross.mono_l k
    · intro y0 y1 y2 y3 y4 y5 y6 y7 y8 y9 y10 y11 y12 y13 y14 y15 y16 y17 y18
      unfold laws_FnCross.j0
      repeat' first
      | (with_reducible exact ih0 _ _ _ _ _ _ _ _ _ _ _ _ _ _ _ _ _ _ _)
      | (with_reducible exact impl_CrossAt.mono _ _ _ _ _ _ _ _ _)
      | (with_reducible exact spec_CrossAt.mono _ _ _ _ _ _ _ _ _)
      | (with_reducible exact spec_DrawCrossAt.mono _ _)
      | (with_reducible exact LeO.refl _)
      | (with_reducible exact LeO.none _)
      | (with_reducible refine LeO.ite ?_ ?_)
      | (with_reducible refine LeO.bind ?_ (fun _ => ?_))
      | exact ih0 _ _ _ _ _ _ _ _ _ _ _ _ _ _ _ _ _ _ _
      | exact impl_CrossAt.mono _ _ _ _ _ _ _ _ _
      | exact spec_CrossAt.mono _ _ _ _ _ _ _ _ _
      | exact spec_DrawCrossAt.mono _ _
      | exact LeO.none _
      | refine LeO.ite ?_ ?_
      | refine LeO.bind ?_ (fun _ => ?_)
theorem laws_FnCross.mono : ∀ a0 k, LeO (laws_FnCross.f k a0) (laws_FnCross.f (k + 1) a0) := by
  intro a0 k
  have ih0 := laws_FnCross.mono_l k
  unfold laws_FnCross.f
  repeat' first
      | (with_reducible exact ih0 _ _ _ _ _ _ _ _ _ _ _ _ _ _ _ _ _ _ _)
      | (with_reducible exact impl_CrossAt.mono _ _ _ _ _ _ _ _ _)
      | (with_reducible exact spec_CrossAt.mono _ _ _ _ _ _ _ _ _)
      | (with_reducible exact spec_DrawCrossAt.mono _ _)
      | (with_reducible exact LeO.refl _)
      | (with_reducible exact LeO.none _)
      | (with_reducible refine LeO.ite ?_ ?_)
      | (with_reducible refine LeO.bind ?_ (fun _ => ?_))
      | exact ih0 _ _ _ _ _ _ _ _ _ _ _ _ _ _ _ _ _ _ _
      | exact impl_CrossAt.mono _ _ _ _ _ _ _ _ _
      | exact spec_CrossAt.mono _ _ _ _ _ _ _ _ _
      | exact spec_DrawCrossAt.mono _ _
      | exact LeO.none _
      | refine LeO.ite ?_ ?_
      | refine LeO.bind ?_ (fun _ => ?_)
theorem laws_FnCross.anew {c : Code} {P : Program} {Q : Exit → Act → World → Prop} {a : Act} {W : World} (S : World → Prop) (h : S W) (k : ∀ w', S w' → c.wp P Q a w') : c.wp P Q a W := k W h
set_option maxHeartbeats 8000000 in
set_option maxRecDepth 100000 in
theorem laws_FnCross.calls (k : Nat) (A0 : Option Addr) (c0 : Nat) (l0 : List Int) (r : Bool) (w : World) (hr0 : Kd.C (Kd.int .u8) w A0 l0.length l0) (hc0 : l0.length ≤ c0) (h : laws_FnCross.f k l0 = some r) :
    Calls Try.prog 9 #[.slice A0 l0.length c0] w fun e w' => e = .returned (.bool r) ∧ Below w.heap.size w w' := by
  have hu25 := Try.underlying25
  have hu29 := Try.underlying29
  have HR0 := Aside0.mk hr0
  have HC0 := Aside0.mk hc0
  clear hr0 hc0
  have HB := Aside0.mk (Below.refl w.heap.size w)
  have H : (if (l0.length : Int) > 1048576 then (some true) else ((spec_DrawCrossAt.f k l0).bind fun bt502 => ((impl_CrossAt.f k bt502.1 bt502.2.1 bt502.2.2.1 bt502.2.2.2.1 bt502.2.2.2.2.1 bt502.2.2.2.2.2.1 bt502.2.2.2.2.2.2.1 bt502.2.2.2.2.2.2.2).bind fun bt514 => ((spec_CrossAt.f k bt502.1 bt502.2.1 bt502.2.2.1 bt502.2.2.2.1 bt502.2.2.2.2.1 bt502.2.2.2.2.2.1 bt502.2.2.2.2.2.2.1 bt502.2.2.2.2.2.2.2).bind fun bt521 => (if (bt514.2.2.2.2 != bt521.2.2.2.2) = true then (laws_FnCross.j0 k bt514.2.2.2.2 bt521.2.2.2.2 true bt502.1 bt502.2.1 bt502.2.2.1 bt502.2.2.2.1 bt502.2.2.2.2.1 bt502.2.2.2.2.2.1 bt502.2.2.2.2.2.2.1 bt502.2.2.2.2.2.2.2 bt514.1 bt514.2.1 bt514.2.2.1 bt514.2.2.2.1 bt521.1 bt521.2.1 bt521.2.2.1 bt521.2.2.2.1) else (if (!(bt514.2.2.1 == bt521.2.2.1) || (!(bt514.2.2.2.1 == bt521.2.2.2.1))) = true then (laws_FnCross.j0 k bt514.2.2.2.2 bt521.2.2.2.2 true bt502.1 bt502.2.1 bt502.2.2.1 bt502.2.2.2.1 bt502.2.2.2.2.1 bt502.2.2.2.2.2.1 bt502.2.2.2.2.2.2.1 bt502.2.2.2.2.2.2.2 bt514.1 bt514.2.1 bt514.2.2.1 bt514.2.2.2.1 bt521.1 bt521.2.1 bt521.2.2.1 bt521.2.2.2.1) else (if (!(bt514.1 == bt521.1) || (!(bt514.2.1 == bt521.2.1))) = true then (laws_FnCross.j0 k bt514.2.2.2.2 bt521.2.2.2.2 true bt502.1 bt502.2.1 bt502.2.2.1 bt502.2.2.2.1 bt502.2.2.2.2.1 bt502.2.2.2.2.2.1 bt502.2.2.2.2.2.2.1 bt502.2.2.2.2.2.2.2 bt514.1 bt514.2.1 bt514.2.2.1 bt514.2.2.2.1 bt521.1 bt521.2.1 bt521.2.2.1 bt521.2.2.2.1) else (laws_FnCross.j0 k bt514.2.2.2.2 bt521.2.2.2.2 (!bt514.2.2.2.2) bt502.1 bt502.2.1 bt502.2.2.1 bt502.2.2.2.1 bt502.2.2.2.2.1 bt502.2.2.2.2.2.1 bt502.2.2.2.2.2.2.1 bt502.2.2.2.2.2.2.2 bt514.1 bt514.2.1 bt514.2.2.1 bt514.2.2.2.1 bt521.1 bt521.2.1 bt521.2.2.1 bt521.2.2.2.1)))))))) = some r := h
  clear h
  by_cases c2 : (l0.length : Int) > 1048576
  · rw [if_pos c2] at H
    have c2b0 : decide (1048576 < (l0.length : Int)) = true := decide_eq_true c2
    have c2b1 : decide (1048576 < l0.length) = true := decide_eq_true (by omega)
    clear c2
    obtain rfl := Option.some.inj H
    go_enter Try.func9, Try.ntmps9
    go_wp2
    go_ret
    exact ⟨er, lb HB.out⟩
  · rw [if_neg c2] at H
    have c2b0 : decide (1048576 < (l0.length : Int)) = false := decide_eq_false c2
    have c2b1 : decide (1048576 < l0.length) = false := decide_eq_false (by omega)
    clear c2
    replace H := Option.bind_eq_some_iff.mp H
    obtain ⟨⟨t502, t503, t504, t505, t506, t507, t508, t509⟩, A30, H⟩ := H
    replace H : ((impl_CrossAt.f k t502 t503 t504 t505 t506 t507 t508 t509).bind fun bt514 => ((spec_CrossAt.f k t502 t503 t504 t505 t506 t507 t508 t509).bind fun bt521 => (if (bt514.2.2.2.2 != bt521.2.2.2.2) = true then (laws_FnCross.j0 k bt514.2.2.2.2 bt521.2.2.2.2 true t502 t503 t504 t505 t506 t507 t508 t509 bt514.1 bt514.2.1 bt514.2.2.1 bt514.2.2.2.1 bt521.1 bt521.2.1 bt521.2.2.1 bt521.2.2.2.1) else (if (!(bt514.2.2.1 == bt521.2.2.1) || (!(bt514.2.2.2.1 == bt521.2.2.2.1))) = true then (laws_FnCross.j0 k bt514.2.2.2.2 bt521.2.2.2.2 true t502 t503 t504 t505 t506 t507 t508 t509 bt514.1 bt514.2.1 bt514.2.2.1 bt514.2.2.2.1 bt521.1 bt521.2.1 bt521.2.2.1 bt521.2.2.2.1) else (if (!(bt514.1 == bt521.1) || (!(bt514.2.1 == bt521.2.1))) = true then (laws_FnCross.j0 k bt514.2.2.2.2 bt521.2.2.2.2 true t502 t503 t504 t505 t506 t507 t508 t509 bt514.1 bt514.2.1 bt514.2.2.1 bt514.2.2.2.1 bt521.1 bt521.2.1 bt521.2.2.1 bt521.2.2.2.1) else (laws_FnCross.j0 k bt514.2.2.2.2 bt521.2.2.2.2 (!bt514.2.2.2.2) t502 t503 t504 t505 t506 t507 t508 t509 bt514.1 bt514.2.1 bt514.2.2.1 bt514.2.2.2.1 bt521.1 bt521.2.1 bt521.2.2.1 bt521.2.2.2.1)))))) = some r := H
    have A3 := Aside0.mk A30
    clear A30
    replace H := Option.bind_eq_some_iff.mp H
    obtain ⟨⟨t514, t515, t516, t517, t518⟩, A40, H⟩ := H
    replace H : ((spec_CrossAt.f k t502 t503 t504 t505 t506 t507 t508 t509).bind fun bt521 => (if (t518 != bt521.2.2.2.2) = true then (laws_FnCross.j0 k t518 bt521.2.2.2.2 true t502 t503 t504 t505 t506 t507 t508 t509 t514 t515 t516 t517 bt521.1 bt521.2.1 bt521.2.2.1 bt521.2.2.2.1) else (if (!(t516 == bt521.2.2.1) || (!(t517 == bt521.2.2.2.1))) = true then (laws_FnCross.j0 k t518 bt521.2.2.2.2 true t502 t503 t504 t505 t506 t507 t508 t509 t514 t515 t516 t517 bt521.1 bt521.2.1 bt521.2.2.1 bt521.2.2.2.1) else (if (!(t514 == bt521.1) || (!(t515 == bt521.2.1))) = true then (laws_FnCross.j0 k t518 bt521.2.2.2.2 true t502 t503 t504 t505 t506 t507 t508 t509 t514 t515 t516 t517 bt521.1 bt521.2.1 bt521.2.2.1 bt521.2.2.2.1) else (laws_FnCross.j0 k t518 bt521.2.2.2.2 (!t518) t502 t503 t504 t505 t506 t507 t508 t509 t514 t515 t516 t517 bt521.1 bt521.2.1 bt521.2.2.1 bt521.2.2.2.1))))) = some r := H
    have A4 := Aside0.mk A40
    clear A40
    replace H := Option.bind_eq_some_iff.mp H
    obtain ⟨⟨t521, t522, t523, t524, t525⟩, A50, H⟩ := H
    replace H : (if (t518 != t525) = true then (laws_FnCross.j0 k t518 t525 true t502 t503 t504 t505 t506 t507 t508 t509 t514 t515 t516 t517 t521 t522 t523 t524) else (if (!(t516 == t523) || (!(t517 == t524))) = true then (laws_FnCross.j0 k t518 t525 true t502 t503 t504 t505 t506 t507 t508 t509 t514 t515 t516 t517 t521 t522 t523 t524) else (if (!(t514 == t521) || (!(t515 == t522))) = true then (laws_FnCross.j0 k t518 t525 true t502 t503 t504 t505 t506 t507 t508 t509 t514 t515 t516 t517 t521 t522 t523 t524) else (laws_FnCross.j0 k t518 t525 (!t518) t502 t503 t504 t505 t506 t507 t508 t509 t514 t515 t516 t517 t521 t522 t523 t524)))) = some r := H
    have A5 := Aside0.mk A50
    clear A50
    have HC6 := Aside0.mk H
    clear H
    go_enter Try.func9, Try.ntmps9
    go_upto_region 6 with (first | ((with_reducible refine gate_callee (f := 27) rfl ?_); refine goesL_ (some 26) rfl rfl Try.func27 (by kernel_rfl) rfl #[.slice A0 l0.length c0] rfl al ?_; (with_reducible refine (spec_DrawCrossAt.calls k _ _ l0 t502 t503 t504 t505 t506 t507 t508 t509 _ ?side1 ?side2 A3.out).mono ?_); (case side1 => repeat (first | exact HR0.out | (with_reducible refine Kd.C_alloc ?_ _) | (with_reducible refine Kd.C_drewN ?_ _) | (with_reducible refine Kd.C_drew ?_))); (case side2 => exact HC0.out); rintro e w7 ⟨rfl, hb⟩; refine ⟨_, rfl, ?_⟩; have n0_ := Aside0.mk (below_step (lb HB.out) hb); clear HB; have HB := n0_; clear n0_; (try clear hb); (try clear hb2); (try clear hk); (try clear hi)) | ((with_reducible refine gate_dst (N := 3) rfl ?_); refine box_event ?hg (N := 3) ?hd (cs := #[.int .i64 0, .int .i64 0]) (t := 25) ?hr ?_; (case hd => rfl); (case hg => rfl); (case hr => first | (go_simp; done) | (go_simp; rfl)); intro gb510 hg w8 hbox hb; have n0_ := Aside0.mk (below_step (lb HB.out) hb); have n1_ := Aside0.mk (hbox); have n2_ := Aside0.mk ((by rw [hg]; exact (below_size (lb HB.out)) : w.heap.size ≤ gb510)); have n3_ := Aside0.mk ((by rw [hg]; exact (below_size (lb HB.out)) : w.heap.size ≤ gb510)); clear HB; have HB := n0_; have BK510 := n1_; have GW510 := n2_; have GE510 := n3_; clear n0_ n1_ n2_ n3_; clear hb hbox hg) | ((with_reducible refine gate_dst (N := 4) rfl ?_); refine box_event ?hg (N := 4) ?hd (cs := #[.int .i64 0, .int .i64 0]) (t := 25) ?hr ?_; (case hd => rfl); (case hg => rfl); (case hr => first | (go_simp; done) | (go_simp; rfl)); intro gb511 hg w9 hbox hb; have n0_ := Aside0.mk (blk_below (bf BK510.out) hb); have n1_ := Aside0.mk (below_step (lb HB.out) hb); have n2_ := Aside0.mk (hbox); have n3_ := Aside0.mk ((by rw [hg]; exact (below_size (lb HB.out)) : w.heap.size ≤ gb511)); have n4_ := Aside0.mk ((by rw [hg]; exact (below_size (lb HB.out)) : w.heap.size ≤ gb511)); have n5_ := Aside0.mk ((by rw [hg]; exact Nat.ne_of_lt (blk_lt (bf BK510.out)) : gb510 ≠ gb511)); have n6_ := Aside0.mk ((by rw [hg]; exact Nat.ne_of_gt (blk_lt (bf BK510.out)) : gb511 ≠ gb510)); clear BK510; clear HB; have BK510 := n0_; have HB := n1_; have BK511 := n2_; have GW511 := n3_; have GE511 := n4_; have NB510_511 := n5_; have NB511_510 := n6_; clear n0_ n1_ n2_ n3_ n4_ n5_ n6_; clear hb hbox hg) | ((with_reducible refine gate_dst (N := 5) rfl ?_); refine box_event ?hg (N := 5) ?hd (cs := #[.int .i64 0, .int .i64 0]) (t := 25) ?hr ?_; (case hd => rfl); (case hg => rfl); (case hr => first | (go_simp; done) | (go_simp; rfl)); intro gb512 hg w10 hbox hb; have n0_ := Aside0.mk (blk_below (bf BK510.out) hb); have n1_ := Aside0.mk (blk_below (bf BK511.out) hb); have n2_ := Aside0.mk (below_step (lb HB.out) hb); have n3_ := Aside0.mk (hbox); have n4_ := Aside0.mk ((by rw [hg]; exact (below_size (lb HB.out)) : w.heap.size ≤ gb512)); have n5_ := Aside0.mk ((by rw [hg]; exact (below_size (lb HB.out)) : w.heap.size ≤ gb512)); have n6_ := Aside0.mk ((by rw [hg]; exact Nat.ne_of_lt (blk_lt (bf BK510.out)) : gb510 ≠ gb512)); have n7_ := Aside0.mk ((by rw [hg]; exact Nat.ne_of_gt (blk_lt (bf BK510.out)) : gb512 ≠ gb510)); have n8_ := Aside0.mk ((by rw [hg]; exact Nat.ne_of_lt (blk_lt (bf BK511.out)) : gb511 ≠ gb512)); have n9_ := Aside0.mk ((by rw [hg]; exact Nat.ne_of_gt (blk_lt (bf BK511.out)) : gb512 ≠ gb511)); clear BK510; clear BK511; clear HB; have BK510 := n0_; have BK511 := n1_; have HB := n2_; have BK512 := n3_; have GW512 := n4_; have GE512 := n5_; have NB510_512 := n6_; have NB512_510 := n7_; have NB511_512 := n8_; have NB512_511 := n9_; clear n0_ n1_ n2_ n3_ n4_ n5_ n6_ n7_ n8_ n9_; clear hb hbox hg) | ((with_reducible refine gate_dst (N := 6) rfl ?_); refine box_event ?hg (N := 6) ?hd (cs := #[.int .i64 0, .int .i64 0]) (t := 25) ?hr ?_; (case hd => rfl); (case hg => rfl); (case hr => first | (go_simp; done) | (go_simp; rfl)); intro gb513 hg w11 hbox hb; have n0_ := Aside0.mk (blk_below (bf BK510.out) hb); have n1_ := Aside0.mk (blk_below (bf BK511.out) hb); have n2_ := Aside0.mk (blk_below (bf BK512.out) hb); have n3_ := Aside0.mk (below_step (lb HB.out) hb); have n4_ := Aside0.mk (hbox); have n5_ := Aside0.mk ((by rw [hg]; exact (below_size (lb HB.out)) : w.heap.size ≤ gb513)); have n6_ := Aside0.mk ((by rw [hg]; exact (below_size (lb HB.out)) : w.heap.size ≤ gb513)); have n7_ := Aside0.mk ((by rw [hg]; exact Nat.ne_of_lt (blk_lt (bf BK510.out)) : gb510 ≠ gb513)); have n8_ := Aside0.mk ((by rw [hg]; exact Nat.ne_of_gt (blk_lt (bf BK510.out)) : gb513 ≠ gb510)); have n9_ := Aside0.mk ((by rw [hg]; exact Nat.ne_of_lt (blk_lt (bf BK511.out)) : gb511 ≠ gb513)); have n10_ := Aside0.mk ((by rw [hg]; exact Nat.ne_of_gt (blk_lt (bf BK511.out)) : gb513 ≠ gb511)); have n11_ := Aside0.mk ((by rw [hg]; exact Nat.ne_of_lt (blk_lt (bf BK512.out)) : gb512 ≠ gb513)); have n12_ := Aside0.mk ((by rw [hg]; exact Nat.ne_of_gt (blk_lt (bf BK512.out)) : gb513 ≠ gb512)); clear BK510; clear BK511; clear BK512; clear HB; have BK510 := n0_; have BK511 := n1_; have BK512 := n2_; have HB := n3_; have BK513 := n4_; have GW513 := n5_; have GE513 := n6_; have NB510_513 := n7_; have NB513_510 := n8_; have NB511_513 := n9_; have NB513_511 := n10_; have NB512_513 := n11_; have NB513_512 := n12_; clear n0_ n1_ n2_ n3_ n4_ n5_ n6_ n7_ n8_ n9_ n10_ n11_ n12_; clear hb hbox hg; have hnb12 := NB510_511.out; have hnc12 := NB511_510.out; have hnb13 := NB510_512.out; have hnc13 := NB512_510.out; have hnb14 := NB510_513.out; have hnc14 := NB513_510.out; have hcz15_0 : w11.cell? ⟨gb510, 0, none⟩ = some (.int .i64 0) := (blk_cell BK510.out 0).trans rfl; have hcz15_1 : w11.cell? ⟨gb510, 1, none⟩ = some (.int .i64 0) := (blk_cell BK510.out 1).trans rfl; have hfz15_0 := blk_frozen BK510.out 0; have hfz15_1 := blk_frozen BK510.out 1; have hnb16 := NB511_512.out; have hnc16 := NB512_511.out; have hnb17 := NB511_513.out; have hnc17 := NB513_511.out; have hcz18_0 : w11.cell? ⟨gb511, 0, none⟩ = some (.int .i64 0) := (blk_cell BK511.out 0).trans rfl; have hcz18_1 : w11.cell? ⟨gb511, 1, none⟩ = some (.int .i64 0) := (blk_cell BK511.out 1).trans rfl; have hfz18_0 := blk_frozen BK511.out 0; have hfz18_1 := blk_frozen BK511.out 1; have hnb19 := NB512_513.out; have hnc19 := NB513_512.out; have hcz20_0 : w11.cell? ⟨gb512, 0, none⟩ = some (.int .i64 0) := (blk_cell BK512.out 0).trans rfl; have hcz20_1 : w11.cell? ⟨gb512, 1, none⟩ = some (.int .i64 0) := (blk_cell BK512.out 1).trans rfl; have hfz20_0 := blk_frozen BK512.out 0; have hfz20_1 := blk_frozen BK512.out 1; have hcz21_0 : w11.cell? ⟨gb513, 0, none⟩ = some (.int .i64 0) := (blk_cell BK513.out 0).trans rfl; have hcz21_1 : w11.cell? ⟨gb513, 1, none⟩ = some (.int .i64 0) := (blk_cell BK513.out 1).trans rfl; have hfz21_0 := blk_frozen BK513.out 0; have hfz21_1 := blk_frozen BK513.out 1) | ((with_reducible refine gate_callee (f := 21) rfl ?_); refine goesL_ (some 36) rfl rfl Try.func21 (by kernel_rfl) rfl #[.agg #[.int .i64 t502, .int .i64 t503], .agg #[.int .i64 t504, .int .i64 t505], .agg #[.int .i64 t506, .int .i64 t507], .agg #[.int .i64 t508, .int .i64 t509]] rfl al ?_; (with_reducible refine (impl_CrossAt.calls k t502 t503 t504 t505 t506 t507 t508 t509 t514 t515 t516 t517 t518 _ A4.out).mono ?_); rintro e w22 ⟨rfl, hb⟩; refine ⟨_, rfl, ?_⟩; have n0_ := Aside0.mk (blk_below (g := gb510) (o := .cells #[.int .i64 t502, .int .i64 t503] 25 (0, 0)) (by (with_reducible repeat (first | refine blk_drewN ?_ _ | refine blk_drew ?_ | refine blk_alloc ?_ _)); refine blk_far ?_ NB510_513.out _; (with_reducible repeat (first | refine blk_drewN ?_ _ | refine blk_drew ?_ | refine blk_alloc ?_ _)); refine blk_far ?_ NB510_513.out _; (with_reducible repeat (first | refine blk_drewN ?_ _ | refine blk_drew ?_ | refine blk_alloc ?_ _)); refine blk_far ?_ NB510_512.out _; (with_reducible repeat (first | refine blk_drewN ?_ _ | refine blk_drew ?_ | refine blk_alloc ?_ _)); refine blk_far ?_ NB510_512.out _; (with_reducible repeat (first | refine blk_drewN ?_ _ | refine blk_drew ?_ | refine blk_alloc ?_ _)); refine blk_far ?_ NB510_511.out _; (with_reducible repeat (first | refine blk_drewN ?_ _ | refine blk_drew ?_ | refine blk_alloc ?_ _)); refine blk_far ?_ NB510_511.out _; (with_reducible repeat (first | refine blk_drewN ?_ _ | refine blk_drew ?_ | refine blk_alloc ?_ _)); refine blk_put (cs := #[.int .i64 t502, .int .i64 0]) ?_ 1 _ rfl; (with_reducible repeat (first | refine blk_drewN ?_ _ | refine blk_drew ?_ | refine blk_alloc ?_ _)); refine blk_put (cs := #[.int .i64 0, .int .i64 0]) ?_ 0 _ rfl; (with_reducible repeat (first | refine blk_drewN ?_ _ | refine blk_drew ?_ | refine blk_alloc ?_ _)); exact BK510.out) hb); have n1_ := Aside0.mk (blk_below (g := gb511) (o := .cells #[.int .i64 t504, .int .i64 t505] 25 (0, 0)) (by (with_reducible repeat (first | refine blk_drewN ?_ _ | refine blk_drew ?_ | refine blk_alloc ?_ _)); refine blk_far ?_ NB511_513.out _; (with_reducible repeat (first | refine blk_drewN ?_ _ | refine blk_drew ?_ | refine blk_alloc ?_ _)); refine blk_far ?_ NB511_513.out _; (with_reducible repeat (first | refine blk_drewN ?_ _ | refine blk_drew ?_ | refine blk_alloc ?_ _)); refine blk_far ?_ NB511_512.out _; (with_reducible repeat (first | refine blk_drewN ?_ _ | refine blk_drew ?_ | refine blk_alloc ?_ _)); refine blk_far ?_ NB511_512.out _; (with_reducible repeat (first | refine blk_drewN ?_ _ | refine blk_drew ?_ | refine blk_alloc ?_ _)); refine blk_put (cs := #[.int .i64 t504, .int .i64 0]) ?_ 1 _ rfl; (with_reducible repeat (first | refine blk_drewN ?_ _ | refine blk_drew ?_ | refine blk_alloc ?_ _)); refine blk_put (cs := #[.int .i64 0, .int .i64 0]) ?_ 0 _ rfl; (with_reducible repeat (first | refine blk_drewN ?_ _ | refine blk_drew ?_ | refine blk_alloc ?_ _)); refine blk_far ?_ NB511_510.out _; (with_reducible repeat (first | refine blk_drewN ?_ _ | refine blk_drew ?_ | refine blk_alloc ?_ _)); refine blk_far ?_ NB511_510.out _; (with_reducible repeat (first | refine blk_drewN ?_ _ | refine blk_drew ?_ | refine blk_alloc ?_ _)); exact BK511.out) hb); have n2_ := Aside0.mk (blk_below (g := gb512) (o := .cells #[.int .i64 t506, .int .i64 t507] 25 (0, 0)) (by (with_reducible repeat (first | refine blk_drewN ?_ _ | refine blk_drew ?_ | refine blk_alloc ?_ _)); refine blk_far ?_ NB512_513.out _; (with_reducible repeat (first | refine blk_drewN ?_ _ | refine blk_drew ?_ | refine blk_alloc ?_ _)); refine blk_far ?_ NB512_513.out _; (with_reducible repeat (first | refine blk_drewN ?_ _ | refine blk_drew ?_ | refine blk_alloc ?_ _)); refine blk_put (cs := #[.int .i64 t506, .int .i64 0]) ?_ 1 _ rfl; (with_reducible repeat (first | refine blk_drewN ?_ _ | refine blk_drew ?_ | refine blk_alloc ?_ _)); refine blk_put (cs := #[.int .i64 0, .int .i64 0]) ?_ 0 _ rfl; (with_reducible repeat (first | refine blk_drewN ?_ _ | refine blk_drew ?_ | refine blk_alloc ?_ _)); refine blk_far ?_ NB512_511.out _; (with_reducible repeat (first | refine blk_drewN ?_ _ | refine blk_drew ?_ | refine blk_alloc ?_ _)); refine blk_far ?_ NB512_511.out _; (with_reducible repeat (first | refine blk_drewN ?_ _ | refine blk_drew ?_ | refine blk_alloc ?_ _)); refine blk_far ?_ NB512_510.out _; (with_reducible repeat (first | refine blk_drewN ?_ _ | refine blk_drew ?_ | refine blk_alloc ?_ _)); refine blk_far ?_ NB512_510.out _; (with_reducible repeat (first | refine blk_drewN ?_ _ | refine blk_drew ?_ | refine blk_alloc ?_ _)); exact BK512.out) hb); have n3_ := Aside0.mk (blk_below (g := gb513) (o := .cells #[.int .i64 t508, .int .i64 t509] 25 (0, 0)) (by (with_reducible repeat (first | refine blk_drewN ?_ _ | refine blk_drew ?_ | refine blk_alloc ?_ _)); refine blk_put (cs := #[.int .i64 t508, .int .i64 0]) ?_ 1 _ rfl; (with_reducible repeat (first | refine blk_drewN ?_ _ | refine blk_drew ?_ | refine blk_alloc ?_ _)); refine blk_put (cs := #[.int .i64 0, .int .i64 0]) ?_ 0 _ rfl; (with_reducible repeat (first | refine blk_drewN ?_ _ | refine blk_drew ?_ | refine blk_alloc ?_ _)); refine blk_far ?_ NB513_512.out _; (with_reducible repeat (first | refine blk_drewN ?_ _ | refine blk_drew ?_ | refine blk_alloc ?_ _)); refine blk_far ?_ NB513_512.out _; (with_reducible repeat (first | refine blk_drewN ?_ _ | refine blk_drew ?_ | refine blk_alloc ?_ _)); refine blk_far ?_ NB513_511.out _; (with_reducible repeat (first | refine blk_drewN ?_ _ | refine blk_drew ?_ | refine blk_alloc ?_ _)); refine blk_far ?_ NB513_511.out _; (with_reducible repeat (first | refine blk_drewN ?_ _ | refine blk_drew ?_ | refine blk_alloc ?_ _)); refine blk_far ?_ NB513_510.out _; (with_reducible repeat (first | refine blk_drewN ?_ _ | refine blk_drew ?_ | refine blk_alloc ?_ _)); refine blk_far ?_ NB513_510.out _; (with_reducible repeat (first | refine blk_drewN ?_ _ | refine blk_drew ?_ | refine blk_alloc ?_ _)); exact BK513.out) hb); have n4_ := Aside0.mk (below_step (lb HB.out) hb); clear BK510; clear BK511; clear BK512; clear BK513; clear HB; have BK510 := n0_; have BK511 := n1_; have BK512 := n2_; have BK513 := n3_; have HB := n4_; clear n0_ n1_ n2_ n3_ n4_; (try clear hb); (try clear hb2); (try clear hk); (try clear hi)) | ((with_reducible refine gate_dst (N := 7) rfl ?_); refine box_event ?hg (N := 7) ?hd (cs := #[.int .i64 0, .int .i64 0]) (t := 29) ?hr ?_; (case hd => rfl); (case hg => rfl); (case hr => first | (go_simp; done) | (go_simp; rfl)); intro gb519 hg w23 hbox hb; have n0_ := Aside0.mk (blk_below (bf BK510.out) hb); have n1_ := Aside0.mk (blk_below (bf BK511.out) hb); have n2_ := Aside0.mk (blk_below (bf BK512.out) hb); have n3_ := Aside0.mk (blk_below (bf BK513.out) hb); have n4_ := Aside0.mk (below_step (lb HB.out) hb); have n5_ := Aside0.mk (hbox); have n6_ := Aside0.mk ((by rw [hg]; exact (below_size (lb HB.out)) : w.heap.size ≤ gb519)); have n7_ := Aside0.mk ((by rw [hg]; exact (below_size (lb HB.out)) : w.heap.size ≤ gb519)); have n8_ := Aside0.mk ((by rw [hg]; exact Nat.ne_of_lt (blk_lt (bf BK510.out)) : gb510 ≠ gb519)); have n9_ := Aside0.mk ((by rw [hg]; exact Nat.ne_of_gt (blk_lt (bf BK510.out)) : gb519 ≠ gb510)); have n10_ := Aside0.mk ((by rw [hg]; exact Nat.ne_of_lt (blk_lt (bf BK511.out)) : gb511 ≠ gb519)); have n11_ := Aside0.mk ((by rw [hg]; exact Nat.ne_of_gt (blk_lt (bf BK511.out)) : gb519 ≠ gb511)); have n12_ := Aside0.mk ((by rw [hg]; exact Nat.ne_of_lt (blk_lt (bf BK512.out)) : gb512 ≠ gb519)); have n13_ := Aside0.mk ((by rw [hg]; exact Nat.ne_of_gt (blk_lt (bf BK512.out)) : gb519 ≠ gb512)); have n14_ := Aside0.mk ((by rw [hg]; exact Nat.ne_of_lt (blk_lt (bf BK513.out)) : gb513 ≠ gb519)); have n15_ := Aside0.mk ((by rw [hg]; exact Nat.ne_of_gt (blk_lt (bf BK513.out)) : gb519 ≠ gb513)); clear BK510; clear BK511; clear BK512; clear BK513; clear HB; have BK510 := n0_; have BK511 := n1_; have BK512 := n2_; have BK513 := n3_; have HB := n4_; have BK519 := n5_; have GW519 := n6_; have GE519 := n7_; have NB510_519 := n8_; have NB519_510 := n9_; have NB511_519 := n10_; have NB519_511 := n11_; have NB512_519 := n12_; have NB519_512 := n13_; have NB513_519 := n14_; have NB519_513 := n15_; clear n0_ n1_ n2_ n3_ n4_ n5_ n6_ n7_ n8_ n9_ n10_ n11_ n12_ n13_ n14_ n15_; clear hb hbox hg) | ((with_reducible refine gate_dst (N := 8) rfl ?_); refine box_event ?hg (N := 8) ?hd (cs := #[.int .i64 0, .int .i64 0]) (t := 29) ?hr ?_; (case hd => rfl); (case hg => rfl); (case hr => first | (go_simp; done) | (go_simp; rfl)); intro gb520 hg w24 hbox hb; have n0_ := Aside0.mk (blk_below (bf BK510.out) hb); have n1_ := Aside0.mk (blk_below (bf BK511.out) hb); have n2_ := Aside0.mk (blk_below (bf BK512.out) hb); have n3_ := Aside0.mk (blk_below (bf BK513.out) hb); have n4_ := Aside0.mk (blk_below (bf BK519.out) hb); have n5_ := Aside0.mk (below_step (lb HB.out) hb); have n6_ := Aside0.mk (hbox); have n7_ := Aside0.mk ((by rw [hg]; exact (below_size (lb HB.out)) : w.heap.size ≤ gb520)); have n8_ := Aside0.mk ((by rw [hg]; exact (below_size (lb HB.out)) : w.heap.size ≤ gb520)); have n9_ := Aside0.mk ((by rw [hg]; exact Nat.ne_of_lt (blk_lt (bf BK510.out)) : gb510 ≠ gb520)); have n10_ := Aside0.mk ((by rw [hg]; exact Nat.ne_of_gt (blk_lt (bf BK510.out)) : gb520 ≠ gb510)); have n11_ := Aside0.mk ((by rw [hg]; exact Nat.ne_of_lt (blk_lt (bf BK511.out)) : gb511 ≠ gb520)); have n12_ := Aside0.mk ((by rw [hg]; exact Nat.ne_of_gt (blk_lt (bf BK511.out)) : gb520 ≠ gb511)); have n13_ := Aside0.mk ((by rw [hg]; exact Nat.ne_of_lt (blk_lt (bf BK512.out)) : gb512 ≠ gb520)); have n14_ := Aside0.mk ((by rw [hg]; exact Nat.ne_of_gt (blk_lt (bf BK512.out)) : gb520 ≠ gb512)); have n15_ := Aside0.mk ((by rw [hg]; exact Nat.ne_of_lt (blk_lt (bf BK513.out)) : gb513 ≠ gb520)); have n16_ := Aside0.mk ((by rw [hg]; exact Nat.ne_of_gt (blk_lt (bf BK513.out)) : gb520 ≠ gb513)); have n17_ := Aside0.mk ((by rw [hg]; exact Nat.ne_of_lt (blk_lt (bf BK519.out)) : gb519 ≠ gb520)); have n18_ := Aside0.mk ((by rw [hg]; exact Nat.ne_of_gt (blk_lt (bf BK519.out)) : gb520 ≠ gb519)); clear BK510; clear BK511; clear BK512; clear BK513; clear BK519; clear HB; have BK510 := n0_; have BK511 := n1_; have BK512 := n2_; have BK513 := n3_; have BK519 := n4_; have HB := n5_; have BK520 := n6_; have GW520 := n7_; have GE520 := n8_; have NB510_520 := n9_; have NB520_510 := n10_; have NB511_520 := n11_; have NB520_511 := n12_; have NB512_520 := n13_; have NB520_512 := n14_; have NB513_520 := n15_; have NB520_513 := n16_; have NB519_520 := n17_; have NB520_519 := n18_; clear n0_ n1_ n2_ n3_ n4_ n5_ n6_ n7_ n8_ n9_ n10_ n11_ n12_ n13_ n14_ n15_ n16_ n17_ n18_; clear hb hbox hg; have hnb25 := NB519_510.out; have hnc25 := NB510_519.out; have hnb26 := NB519_511.out; have hnc26 := NB511_519.out; have hnb27 := NB519_512.out; have hnc27 := NB512_519.out; have hnb28 := NB519_513.out; have hnc28 := NB513_519.out; have hnb29 := NB519_520.out; have hnc29 := NB520_519.out; have hcz30_0 : w24.cell? ⟨gb519, 0, none⟩ = some (.int .i64 0) := (blk_cell BK519.out 0).trans rfl; have hcz30_1 : w24.cell? ⟨gb519, 1, none⟩ = some (.int .i64 0) := (blk_cell BK519.out 1).trans rfl; have hfz30_0 := blk_frozen BK519.out 0; have hfz30_1 := blk_frozen BK519.out 1; have hnb31 := NB520_510.out; have hnc31 := NB510_520.out; have hnb32 := NB520_511.out; have hnc32 := NB511_520.out; have hnb33 := NB520_512.out; have hnc33 := NB512_520.out; have hnb34 := NB520_513.out; have hnc34 := NB513_520.out; have hcz35_0 : w24.cell? ⟨gb520, 0, none⟩ = some (.int .i64 0) := (blk_cell BK520.out 0).trans rfl; have hcz35_1 : w24.cell? ⟨gb520, 1, none⟩ = some (.int .i64 0) := (blk_cell BK520.out 1).trans rfl; have hfz35_0 := blk_frozen BK520.out 0; have hfz35_1 := blk_frozen BK520.out 1; have hcz36_0 : w24.cell? ⟨gb510, 0, none⟩ = some (.int .i64 t502) := (blk_cell BK510.out 0).trans rfl; have hcz36_1 : w24.cell? ⟨gb510, 1, none⟩ = some (.int .i64 t503) := (blk_cell BK510.out 1).trans rfl; have hfz36_0 := blk_frozen BK510.out 0; have hfz36_1 := blk_frozen BK510.out 1; have hcz37_0 : w24.cell? ⟨gb511, 0, none⟩ = some (.int .i64 t504) := (blk_cell BK511.out 0).trans rfl; have hcz37_1 : w24.cell? ⟨gb511, 1, none⟩ = some (.int .i64 t505) := (blk_cell BK511.out 1).trans rfl; have hfz37_0 := blk_frozen BK511.out 0; have hfz37_1 := blk_frozen BK511.out 1; have hcz38_0 : w24.cell? ⟨gb512, 0, none⟩ = some (.int .i64 t506) := (blk_cell BK512.out 0).trans rfl; have hcz38_1 : w24.cell? ⟨gb512, 1, none⟩ = some (.int .i64 t507) := (blk_cell BK512.out 1).trans rfl; have hfz38_0 := blk_frozen BK512.out 0; have hfz38_1 := blk_frozen BK512.out 1; have hcz39_0 : w24.cell? ⟨gb513, 0, none⟩ = some (.int .i64 t508) := (blk_cell BK513.out 0).trans rfl; have hcz39_1 : w24.cell? ⟨gb513, 1, none⟩ = some (.int .i64 t509) := (blk_cell BK513.out 1).trans rfl; have hfz39_0 := blk_frozen BK513.out 0; have hfz39_1 := blk_frozen BK513.out 1) | ((with_reducible refine gate_callee (f := 20) rfl ?_); refine goesL_ (some 45) rfl rfl Try.func20 (by kernel_rfl) rfl #[.agg #[.int .i64 t502, .int .i64 t503], .agg #[.int .i64 t504, .int .i64 t505], .agg #[.int .i64 t506, .int .i64 t507], .agg #[.int .i64 t508, .int .i64 t509]] rfl al ?_; (with_reducible refine (spec_CrossAt.calls k t502 t503 t504 t505 t506 t507 t508 t509 t521 t522 t523 t524 t525 _ A5.out).mono ?_); rintro e w40 ⟨rfl, hb⟩; refine ⟨_, rfl, ?_⟩; have n0_ := Aside0.mk (blk_below (bf BK510.out) hb); have n1_ := Aside0.mk (blk_below (bf BK511.out) hb); have n2_ := Aside0.mk (blk_below (bf BK512.out) hb); have n3_ := Aside0.mk (blk_below (bf BK513.out) hb); have n4_ := Aside0.mk (blk_below (g := gb519) (o := .cells #[.int .i64 t514, .int .i64 t515] 29 (0, 0)) (by (with_reducible repeat (first | refine blk_drewN ?_ _ | refine blk_drew ?_ | refine blk_alloc ?_ _)); refine blk_far ?_ NB519_520.out _; (with_reducible repeat (first | refine blk_drewN ?_ _ | refine blk_drew ?_ | refine blk_alloc ?_ _)); refine blk_far ?_ NB519_520.out _; (with_reducible repeat (first | refine blk_drewN ?_ _ | refine blk_drew ?_ | refine blk_alloc ?_ _)); refine blk_put (cs := #[.int .i64 t514, .int .i64 0]) ?_ 1 _ rfl; (with_reducible repeat (first | refine blk_drewN ?_ _ | refine blk_drew ?_ | refine blk_alloc ?_ _)); refine blk_put (cs := #[.int .i64 0, .int .i64 0]) ?_ 0 _ rfl; (with_reducible repeat (first | refine blk_drewN ?_ _ | refine blk_drew ?_ | refine blk_alloc ?_ _)); exact BK519.out) hb); have n5_ := Aside0.mk (blk_below (g := gb520) (o := .cells #[.int .i64 t516, .int .i64 t517] 29 (0, 0)) (by (with_reducible repeat (first | refine blk_drewN ?_ _ | refine blk_drew ?_ | refine blk_alloc ?_ _)); refine blk_put (cs := #[.int .i64 t516, .int .i64 0]) ?_ 1 _ rfl; (with_reducible repeat (first | refine blk_drewN ?_ _ | refine blk_drew ?_ | refine blk_alloc ?_ _)); refine blk_put (cs := #[.int .i64 0, .int .i64 0]) ?_ 0 _ rfl; (with_reducible repeat (first | refine blk_drewN ?_ _ | refine blk_drew ?_ | refine blk_alloc ?_ _)); refine blk_far ?_ NB520_519.out _; (with_reducible repeat (first | refine blk_drewN ?_ _ | refine blk_drew ?_ | refine blk_alloc ?_ _)); refine blk_far ?_ NB520_519.out _; (with_reducible repeat (first | refine blk_drewN ?_ _ | refine blk_drew ?_ | refine blk_alloc ?_ _)); exact BK520.out) hb); have n6_ := Aside0.mk (below_step (lb HB.out) hb); clear BK510; clear BK511; clear BK512; clear BK513; clear BK519; clear BK520; clear HB; have BK510 := n0_; have BK511 := n1_; have BK512 := n2_; have BK513 := n3_; have BK519 := n4_; have BK520 := n5_; have HB := n6_; clear n0_ n1_ n2_ n3_ n4_ n5_ n6_; (try clear hb); (try clear hb2); (try clear hk); (try clear hi)) | ((with_reducible refine gate_dst (N := 10) rfl ?_); refine box_event ?hg (N := 10) ?hd (cs := #[.int .i64 0, .int .i64 0]) (t := 29) ?hr ?_; (case hd => rfl); (case hg => rfl); (case hr => first | (go_simp; done) | (go_simp; rfl)); intro gb526 hg w41 hbox hb; have n0_ := Aside0.mk (blk_below (bf BK510.out) hb); have n1_ := Aside0.mk (blk_below (bf BK511.out) hb); have n2_ := Aside0.mk (blk_below (bf BK512.out) hb); have n3_ := Aside0.mk (blk_below (bf BK513.out) hb); have n4_ := Aside0.mk (blk_below (bf BK519.out) hb); have n5_ := Aside0.mk (blk_below (bf BK520.out) hb); have n6_ := Aside0.mk (below_step (lb HB.out) hb); have n7_ := Aside0.mk (hbox); have n8_ := Aside0.mk ((by rw [hg]; exact (below_size (lb HB.out)) : w.heap.size ≤ gb526)); have n9_ := Aside0.mk ((by rw [hg]; exact (below_size (lb HB.out)) : w.heap.size ≤ gb526)); have n10_ := Aside0.mk ((by rw [hg]; exact Nat.ne_of_lt (blk_lt (bf BK510.out)) : gb510 ≠ gb526)); have n11_ := Aside0.mk ((by rw [hg]; exact Nat.ne_of_gt (blk_lt (bf BK510.out)) : gb526 ≠ gb510)); have n12_ := Aside0.mk ((by rw [hg]; exact Nat.ne_of_lt (blk_lt (bf BK511.out)) : gb511 ≠ gb526)); have n13_ := Aside0.mk ((by rw [hg]; exact Nat.ne_of_gt (blk_lt (bf BK511.out)) : gb526 ≠ gb511)); have n14_ := Aside0.mk ((by rw [hg]; exact Nat.ne_of_lt (blk_lt (bf BK512.out)) : gb512 ≠ gb526)); have n15_ := Aside0.mk ((by rw [hg]; exact Nat.ne_of_gt (blk_lt (bf BK512.out)) : gb526 ≠ gb512)); have n16_ := Aside0.mk ((by rw [hg]; exact Nat.ne_of_lt (blk_lt (bf BK513.out)) : gb513 ≠ gb526)); have n17_ := Aside0.mk ((by rw [hg]; exact Nat.ne_of_gt (blk_lt (bf BK513.out)) : gb526 ≠ gb513)); have n18_ := Aside0.mk ((by rw [hg]; exact Nat.ne_of_lt (blk_lt (bf BK519.out)) : gb519 ≠ gb526)); have n19_ := Aside0.mk ((by rw [hg]; exact Nat.ne_of_gt (blk_lt (bf BK519.out)) : gb526 ≠ gb519)); have n20_ := Aside0.mk ((by rw [hg]; exact Nat.ne_of_lt (blk_lt (bf BK520.out)) : gb520 ≠ gb526)); have n21_ := Aside0.mk ((by rw [hg]; exact Nat.ne_of_gt (blk_lt (bf BK520.out)) : gb526 ≠ gb520)); clear BK510; clear BK511; clear BK512; clear BK513; clear BK519; clear BK520; clear HB; have BK510 := n0_; have BK511 := n1_; have BK512 := n2_; have BK513 := n3_; have BK519 := n4_; have BK520 := n5_; have HB := n6_; have BK526 := n7_; have GW526 := n8_; have GE526 := n9_; have NB510_526 := n10_; have NB526_510 := n11_; have NB511_526 := n12_; have NB526_511 := n13_; have NB512_526 := n14_; have NB526_512 := n15_; have NB513_526 := n16_; have NB526_513 := n17_; have NB519_526 := n18_; have NB526_519 := n19_; have NB520_526 := n20_; have NB526_520 := n21_; clear n0_ n1_ n2_ n3_ n4_ n5_ n6_ n7_ n8_ n9_ n10_ n11_ n12_ n13_ n14_ n15_ n16_ n17_ n18_ n19_ n20_ n21_; clear hb hbox hg) | ((with_reducible refine gate_dst (N := 11) rfl ?_); refine box_event ?hg (N := 11) ?hd (cs := #[.int .i64 0, .int .i64 0]) (t := 29) ?hr ?_; (case hd => rfl); (case hg => rfl); (case hr => first | (go_simp; done) | (go_simp; rfl)); intro gb527 hg w42 hbox hb; have n0_ := Aside0.mk (blk_below (bf BK510.out) hb); have n1_ := Aside0.mk (blk_below (bf BK511.out) hb); have n2_ := Aside0.mk (blk_below (bf BK512.out) hb); have n3_ := Aside0.mk (blk_below (bf BK513.out) hb); have n4_ := Aside0.mk (blk_below (bf BK519.out) hb); have n5_ := Aside0.mk (blk_below (bf BK520.out) hb); have n6_ := Aside0.mk (blk_below (bf BK526.out) hb); have n7_ := Aside0.mk (below_step (lb HB.out) hb); have n8_ := Aside0.mk (hbox); have n9_ := Aside0.mk ((by rw [hg]; exact (below_size (lb HB.out)) : w.heap.size ≤ gb527)); have n10_ := Aside0.mk ((by rw [hg]; exact (below_size (lb HB.out)) : w.heap.size ≤ gb527)); have n11_ := Aside0.mk ((by rw [hg]; exact Nat.ne_of_lt (blk_lt (bf BK510.out)) : gb510 ≠ gb527)); have n12_ := Aside0.mk ((by rw [hg]; exact Nat.ne_of_gt (blk_lt (bf BK510.out)) : gb527 ≠ gb510)); have n13_ := Aside0.mk ((by rw [hg]; exact Nat.ne_of_lt (blk_lt (bf BK511.out)) : gb511 ≠ gb527)); have n14_ := Aside0.mk ((by rw [hg]; exact Nat.ne_of_gt (blk_lt (bf BK511.out)) : gb527 ≠ gb511)); have n15_ := Aside0.mk ((by rw [hg]; exact Nat.ne_of_lt (blk_lt (bf BK512.out)) : gb512 ≠ gb527)); have n16_ := Aside0.mk ((by rw [hg]; exact Nat.ne_of_gt (blk_lt (bf BK512.out)) : gb527 ≠ gb512)); have n17_ := Aside0.mk ((by rw [hg]; exact Nat.ne_of_lt (blk_lt (bf BK513.out)) : gb513 ≠ gb527)); have n18_ := Aside0.mk ((by rw [hg]; exact Nat.ne_of_gt (blk_lt (bf BK513.out)) : gb527 ≠ gb513)); have n19_ := Aside0.mk ((by rw [hg]; exact Nat.ne_of_lt (blk_lt (bf BK519.out)) : gb519 ≠ gb527)); have n20_ := Aside0.mk ((by rw [hg]; exact Nat.ne_of_gt (blk_lt (bf BK519.out)) : gb527 ≠ gb519)); have n21_ := Aside0.mk ((by rw [hg]; exact Nat.ne_of_lt (blk_lt (bf BK520.out)) : gb520 ≠ gb527)); have n22_ := Aside0.mk ((by rw [hg]; exact Nat.ne_of_gt (blk_lt (bf BK520.out)) : gb527 ≠ gb520)); have n23_ := Aside0.mk ((by rw [hg]; exact Nat.ne_of_lt (blk_lt (bf BK526.out)) : gb526 ≠ gb527)); have n24_ := Aside0.mk ((by rw [hg]; exact Nat.ne_of_gt (blk_lt (bf BK526.out)) : gb527 ≠ gb526)); clear BK510; clear BK511; clear BK512; clear BK513; clear BK519; clear BK520; clear BK526; clear HB; have BK510 := n0_; have BK511 := n1_; have BK512 := n2_; have BK513 := n3_; have BK519 := n4_; have BK520 := n5_; have BK526 := n6_; have HB := n7_; have BK527 := n8_; have GW527 := n9_; have GE527 := n10_; have NB510_527 := n11_; have NB527_510 := n12_; have NB511_527 := n13_; have NB527_511 := n14_; have NB512_527 := n15_; have NB527_512 := n16_; have NB513_527 := n17_; have NB527_513 := n18_; have NB519_527 := n19_; have NB527_519 := n20_; have NB520_527 := n21_; have NB527_520 := n22_; have NB526_527 := n23_; have NB527_526 := n24_; clear n0_ n1_ n2_ n3_ n4_ n5_ n6_ n7_ n8_ n9_ n10_ n11_ n12_ n13_ n14_ n15_ n16_ n17_ n18_ n19_ n20_ n21_ n22_ n23_ n24_; clear hb hbox hg; have hnb43 := NB526_510.out; have hnc43 := NB510_526.out; have hnb44 := NB526_511.out; have hnc44 := NB511_526.out; have hnb45 := NB526_512.out; have hnc45 := NB512_526.out; have hnb46 := NB526_513.out; have hnc46 := NB513_526.out; have hnb47 := NB526_519.out; have hnc47 := NB519_526.out; have hnb48 := NB526_520.out; have hnc48 := NB520_526.out; have hnb49 := NB526_527.out; have hnc49 := NB527_526.out; have hcz50_0 : w42.cell? ⟨gb526, 0, none⟩ = some (.int .i64 0) := (blk_cell BK526.out 0).trans rfl; have hcz50_1 : w42.cell? ⟨gb526, 1, none⟩ = some (.int .i64 0) := (blk_cell BK526.out 1).trans rfl; have hfz50_0 := blk_frozen BK526.out 0; have hfz50_1 := blk_frozen BK526.out 1; have hnb51 := NB527_510.out; have hnc51 := NB510_527.out; have hnb52 := NB527_511.out; have hnc52 := NB511_527.out; have hnb53 := NB527_512.out; have hnc53 := NB512_527.out; have hnb54 := NB527_513.out; have hnc54 := NB513_527.out; have hnb55 := NB527_519.out; have hnc55 := NB519_527.out; have hnb56 := NB527_520.out; have hnc56 := NB520_527.out; have hcz57_0 : w42.cell? ⟨gb527, 0, none⟩ = some (.int .i64 0) := (blk_cell BK527.out 0).trans rfl; have hcz57_1 : w42.cell? ⟨gb527, 1, none⟩ = some (.int .i64 0) := (blk_cell BK527.out 1).trans rfl; have hfz57_0 := blk_frozen BK527.out 0; have hfz57_1 := blk_frozen BK527.out 1))
    (try simp only [Act.put, List.setIfInBounds_toArray, List.set_cons_zero, List.set_cons_succ])
    go_cut [65] (fun v65 wc => ∃ (kq : Nat) (x65_5 : Bool), v65 = .bool x65_5 ∧ Aside0 (laws_FnCross.j0 kq t518 t525 x65_5 t502 t503 t504 t505 t506 t507 t508 t509 t514 t515 t516 t517 t521 t522 t523 t524 = some r) ∧ Aside0 (kq ≤ k) ∧ Aside0 (wc.heap[gb510]? = some (.cells #[.int .i64 t502, .int .i64 t503] 25 (0, 0))) ∧ Aside0 (wc.heap[gb511]? = some (.cells #[.int .i64 t504, .int .i64 t505] 25 (0, 0))) ∧ Aside0 (wc.heap[gb512]? = some (.cells #[.int .i64 t506, .int .i64 t507] 25 (0, 0))) ∧ Aside0 (wc.heap[gb513]? = some (.cells #[.int .i64 t508, .int .i64 t509] 25 (0, 0))) ∧ Aside0 (wc.heap[gb519]? = some (.cells #[.int .i64 t514, .int .i64 t515] 29 (0, 0))) ∧ Aside0 (wc.heap[gb520]? = some (.cells #[.int .i64 t516, .int .i64 t517] 29 (0, 0))) ∧ Aside0 (wc.heap[gb526]? = some (.cells #[.int .i64 t521, .int .i64 t522] 29 (0, 0))) ∧ Aside0 (wc.heap[gb527]? = some (.cells #[.int .i64 t523, .int .i64 t524] 29 (0, 0))) ∧ Aside0 (Below w.heap.size w wc))
    case first =>
      have H := HC6.out
      clear HC6
      by_cases c58 : (t518 != t525) = true
      · rw [if_pos c58] at H
        have c58b0 : (t518 != t525) = true := c58
        (try (have c58b1 : decide (t518 = t525) = false := by simpa using c58))
        (try (have c58b2 : (t518 == t525) = false := by simpa using c58))
        (try (have c58b3 : ¬ (t518 = t525) := by simpa using c58))
        clear c58
        (first | rw [c58b0] | (simp only [i64_w, i32_w]; rw [c58b0]) | skip)
        have H' := Aside0.mk H
        clear H
        go_wp2
        go_meet
        case rel => exact ⟨_, (true), (by first | rfl | (simp; done) | (simp [*]; done)), H', ⟨by first | omega | exact Nat.le_refl _⟩, ⟨by (with_reducible repeat (first | refine blk_drewN ?_ _ | refine blk_drew ?_ | refine blk_alloc ?_ _)); refine blk_far ?_ NB510_527.out _; (with_reducible repeat (first | refine blk_drewN ?_ _ | refine blk_drew ?_ | refine blk_alloc ?_ _)); refine blk_far ?_ NB510_527.out _; (with_reducible repeat (first | refine blk_drewN ?_ _ | refine blk_drew ?_ | refine blk_alloc ?_ _)); refine blk_far ?_ NB510_526.out _; (with_reducible repeat (first | refine blk_drewN ?_ _ | refine blk_drew ?_ | refine blk_alloc ?_ _)); refine blk_far ?_ NB510_526.out _; (with_reducible repeat (first | refine blk_drewN ?_ _ | refine blk_drew ?_ | refine blk_alloc ?_ _)); exact BK510.out⟩, ⟨by (with_reducible repeat (first | refine blk_drewN ?_ _ | refine blk_drew ?_ | refine blk_alloc ?_ _)); refine blk_far ?_ NB511_527.out _; (with_reducible repeat (first | refine blk_drewN ?_ _ | refine blk_drew ?_ | refine blk_alloc ?_ _)); refine blk_far ?_ NB511_527.out _; (with_reducible repeat (first | refine blk_drewN ?_ _ | refine blk_drew ?_ | refine blk_alloc ?_ _)); refine blk_far ?_ NB511_526.out _; (with_reducible repeat (first | refine blk_drewN ?_ _ | refine blk_drew ?_ | refine blk_alloc ?_ _)); refine blk_far ?_ NB511_526.out _; (with_reducible repeat (first | refine blk_drewN ?_ _ | refine blk_drew ?_ | refine blk_alloc ?_ _)); exact BK511.out⟩, ⟨by (with_reducible repeat (first | refine blk_drewN ?_ _ | refine blk_drew ?_ | refine blk_alloc ?_ _)); refine blk_far ?_ NB512_527.out _; (with_reducible repeat (first | refine blk_drewN ?_ _ | refine blk_drew ?_ | refine blk_alloc ?_ _)); refine blk_far ?_ NB512_527.out _; (with_reducible repeat (first | refine blk_drewN ?_ _ | refine blk_drew ?_ | refine blk_alloc ?_ _)); refine blk_far ?_ NB512_526.out _; (with_reducible repeat (first | refine blk_drewN ?_ _ | refine blk_drew ?_ | refine blk_alloc ?_ _)); refine blk_far ?_ NB512_526.out _; (with_reducible repeat (first | refine blk_drewN ?_ _ | refine blk_drew ?_ | refine blk_alloc ?_ _)); exact BK512.out⟩, ⟨by (with_reducible repeat (first | refine blk_drewN ?_ _ | refine blk_drew ?_ | refine blk_alloc ?_ _)); refine blk_far ?_ NB513_527.out _; (with_reducible repeat (first | refine blk_drewN ?_ _ | refine blk_drew ?_ | refine blk_alloc ?_ _)); refine blk_far ?_ NB513_527.out _; (with_reducible repeat (first | refine blk_drewN ?_ _ | refine blk_drew ?_ | refine blk_alloc ?_ _)); refine blk_far ?_ NB513_526.out _; (with_reducible repeat (first | refine blk_drewN ?_ _ | refine blk_drew ?_ | refine blk_alloc ?_ _)); refine blk_far ?_ NB513_526.out _; (with_reducible repeat (first | refine blk_drewN ?_ _ | refine blk_drew ?_ | refine blk_alloc ?_ _)); exact BK513.out⟩, ⟨by (with_reducible repeat (first | refine blk_drewN ?_ _ | refine blk_drew ?_ | refine blk_alloc ?_ _)); refine blk_far ?_ NB519_527.out _; (with_reducible repeat (first | refine blk_drewN ?_ _ | refine blk_drew ?_ | refine blk_alloc ?_ _)); refine blk_far ?_ NB519_527.out _; (with_reducible repeat (first | refine blk_drewN ?_ _ | refine blk_drew ?_ | refine blk_alloc ?_ _)); refine blk_far ?_ NB519_526.out _; (with_reducible repeat (first | refine blk_drewN ?_ _ | refine blk_drew ?_ | refine blk_alloc ?_ _)); refine blk_far ?_ NB519_526.out _; (with_reducible repeat (first | refine blk_drewN ?_ _ | refine blk_drew ?_ | refine blk_alloc ?_ _)); exact BK519.out⟩, ⟨by (with_reducible repeat (first | refine blk_drewN ?_ _ | refine blk_drew ?_ | refine blk_alloc ?_ _)); refine blk_far ?_ NB520_527.out _; (with_reducible repeat (first | refine blk_drewN ?_ _ | refine blk_drew ?_ | refine blk_alloc ?_ _)); refine blk_far ?_ NB520_527.out _; (with_reducible repeat (first | refine blk_drewN ?_ _ | refine blk_drew ?_ | refine blk_alloc ?_ _)); refine blk_far ?_ NB520_526.out _; (with_reducible repeat (first | refine blk_drewN ?_ _ | refine blk_drew ?_ | refine blk_alloc ?_ _)); refine blk_far ?_ NB520_526.out _; (with_reducible repeat (first | refine blk_drewN ?_ _ | refine blk_drew ?_ | refine blk_alloc ?_ _)); exact BK520.out⟩, ⟨by (with_reducible repeat (first | refine blk_drewN ?_ _ | refine blk_drew ?_ | refine blk_alloc ?_ _)); refine blk_far ?_ NB526_527.out _; (with_reducible repeat (first | refine blk_drewN ?_ _ | refine blk_drew ?_ | refine blk_alloc ?_ _)); refine blk_far ?_ NB526_527.out _; (with_reducible repeat (first | refine blk_drewN ?_ _ | refine blk_drew ?_ | refine blk_alloc ?_ _)); refine blk_put (cs := #[.int .i64 t521, .int .i64 0]) ?_ 1 _ rfl; (with_reducible repeat (first | refine blk_drewN ?_ _ | refine blk_drew ?_ | refine blk_alloc ?_ _)); refine blk_put (cs := #[.int .i64 0, .int .i64 0]) ?_ 0 _ rfl; (with_reducible repeat (first | refine blk_drewN ?_ _ | refine blk_drew ?_ | refine blk_alloc ?_ _)); exact BK526.out⟩, ⟨by (with_reducible repeat (first | refine blk_drewN ?_ _ | refine blk_drew ?_ | refine blk_alloc ?_ _)); refine blk_put (cs := #[.int .i64 t523, .int .i64 0]) ?_ 1 _ rfl; (with_reducible repeat (first | refine blk_drewN ?_ _ | refine blk_drew ?_ | refine blk_alloc ?_ _)); refine blk_put (cs := #[.int .i64 0, .int .i64 0]) ?_ 0 _ rfl; (with_reducible repeat (first | refine blk_drewN ?_ _ | refine blk_drew ?_ | refine blk_alloc ?_ _)); refine blk_far ?_ NB527_526.out _; (with_reducible repeat (first | refine blk_drewN ?_ _ | refine blk_drew ?_ | refine blk_alloc ?_ _)); refine blk_far ?_ NB527_526.out _; (with_reducible repeat (first | refine blk_drewN ?_ _ | refine blk_drew ?_ | refine blk_alloc ?_ _)); exact BK527.out⟩, ⟨lb HB.out⟩⟩
      · rw [if_neg c58] at H
        have c58b0 : (t518 != t525) = false := by simpa using c58
        (try (have c58b1 : decide (t518 = t525) = true := by simpa using c58))
        (try (have c58b2 : (t518 == t525) = true := by simpa using c58))
        clear c58
        (first | rw [c58b0] | (simp only [i64_w, i32_w]; rw [c58b0]) | skip)
        by_cases c59 : (!(t516 == t523) || (!(t517 == t524))) = true
        · rw [if_pos c59] at H
          have c59b0 : (!(t516 == t523) || (!(t517 == t524))) = true := c59
          clear c59
          have H' := Aside0.mk H
          clear H
          have hnb60 := NB520_510.out
          have hnc60 := NB510_520.out
          have hnb61 := NB520_511.out
          have hnc61 := NB511_520.out
          have hnb62 := NB520_512.out
          have hnc62 := NB512_520.out
          have hnb63 := NB520_513.out
          have hnc63 := NB513_520.out
          have hnb64 := NB520_519.out
          have hnc64 := NB519_520.out
          have hnb65 := NB520_526.out
          have hnc65 := NB526_520.out
          have hnb66 := NB520_527.out
          have hnc66 := NB527_520.out
          have hcz67_0 : w42.cell? ⟨gb520, 0, none⟩ = some (.int .i64 t516) := (blk_cell BK520.out 0).trans rfl
          have hcz67_1 : w42.cell? ⟨gb520, 1, none⟩ = some (.int .i64 t517) := (blk_cell BK520.out 1).trans rfl
          have hfz67_0 := blk_frozen BK520.out 0
          have hfz67_1 := blk_frozen BK520.out 1
          have hnb68 := NB527_510.out
          have hnc68 := NB510_527.out
          have hnb69 := NB527_511.out
          have hnc69 := NB511_527.out
          have hnb70 := NB527_512.out
          have hnc70 := NB512_527.out
          have hnb71 := NB527_513.out
          have hnc71 := NB513_527.out
          have hnb72 := NB527_519.out
          have hnc72 := NB519_527.out
          have hnb73 := NB527_526.out
          have hnc73 := NB526_527.out
          have hcz74_0 : w42.cell? ⟨gb527, 0, none⟩ = some (.int .i64 0) := (blk_cell BK527.out 0).trans rfl
          have hcz74_1 : w42.cell? ⟨gb527, 1, none⟩ = some (.int .i64 0) := (blk_cell BK527.out 1).trans rfl
          have hfz74_0 := blk_frozen BK527.out 0
          have hfz74_1 := blk_frozen BK527.out 1
          go_wp2
          go_meet
          case rel => exact ⟨_, (true), (by first | rfl | (simp; done) | (simp [*]; done)), H', ⟨by first | omega | exact Nat.le_refl _⟩, ⟨by (with_reducible repeat (first | refine blk_drewN ?_ _ | refine blk_drew ?_ | refine blk_alloc ?_ _)); refine blk_far ?_ NB510_527.out _; (with_reducible repeat (first | refine blk_drewN ?_ _ | refine blk_drew ?_ | refine blk_alloc ?_ _)); refine blk_far ?_ NB510_527.out _; (with_reducible repeat (first | refine blk_drewN ?_ _ | refine blk_drew ?_ | refine blk_alloc ?_ _)); refine blk_far ?_ NB510_526.out _; (with_reducible repeat (first | refine blk_drewN ?_ _ | refine blk_drew ?_ | refine blk_alloc ?_ _)); refine blk_far ?_ NB510_526.out _; (with_reducible repeat (first | refine blk_drewN ?_ _ | refine blk_drew ?_ | refine blk_alloc ?_ _)); exact BK510.out⟩, ⟨by (with_reducible repeat (first | refine blk_drewN ?_ _ | refine blk_drew ?_ | refine blk_alloc ?_ _)); refine blk_far ?_ NB511_527.out _; (with_reducible repeat (first | refine blk_drewN ?_ _ | refine blk_drew ?_ | refine blk_alloc ?_ _)); refine blk_far ?_ NB511_527.out _; (with_reducible repeat (first | refine blk_drewN ?_ _ | refine blk_drew ?_ | refine blk_alloc ?_ _)); refine blk_far ?_ NB511_526.out _; (with_reducible repeat (first | refine blk_drewN ?_ _ | refine blk_drew ?_ | refine blk_alloc ?_ _)); refine blk_far ?_ NB511_526.out _; (with_reducible repeat (first | refine blk_drewN ?_ _ | refine blk_drew ?_ | refine blk_alloc ?_ _)); exact BK511.out⟩, ⟨by (with_reducible repeat (first | refine blk_drewN ?_ _ | refine blk_drew ?_ | refine blk_alloc ?_ _)); refine blk_far ?_ NB512_527.out _; (with_reducible repeat (first | refine blk_drewN ?_ _ | refine blk_drew ?_ | refine blk_alloc ?_ _)); refine blk_far ?_ NB512_527.out _; (with_reducible repeat (first | refine blk_drewN ?_ _ | refine blk_drew ?_ | refine blk_alloc ?_ _)); refine blk_far ?_ NB512_526.out _; (with_reducible repeat (first | refine blk_drewN ?_ _ | refine blk_drew ?_ | refine blk_alloc ?_ _)); refine blk_far ?_ NB512_526.out _; (with_reducible repeat (first | refine blk_drewN ?_ _ | refine blk_drew ?_ | refine blk_alloc ?_ _)); exact BK512.out⟩, ⟨by (with_reducible repeat (first | refine blk_drewN ?_ _ | refine blk_drew ?_ | refine blk_alloc ?_ _)); refine blk_far ?_ NB513_527.out _; (with_reducible repeat (first | refine blk_drewN ?_ _ | refine blk_drew ?_ | refine blk_alloc ?_ _)); refine blk_far ?_ NB513_527.out _; (with_reducible repeat (first | refine blk_drewN ?_ _ | refine blk_drew ?_ | refine blk_alloc ?_ _)); refine blk_far ?_ NB513_526.out _; (with_reducible repeat (first | refine blk_drewN ?_ _ | refine blk_drew ?_ | refine blk_alloc ?_ _)); refine blk_far ?_ NB513_526.out _; (with_reducible repeat (first | refine blk_drewN ?_ _ | refine blk_drew ?_ | refine blk_alloc ?_ _)); exact BK513.out⟩, ⟨by (with_reducible repeat (first | refine blk_drewN ?_ _ | refine blk_drew ?_ | refine blk_alloc ?_ _)); refine blk_far ?_ NB519_527.out _; (with_reducible repeat (first | refine blk_drewN ?_ _ | refine blk_drew ?_ | refine blk_alloc ?_ _)); refine blk_far ?_ NB519_527.out _; (with_reducible repeat (first | refine blk_drewN ?_ _ | refine blk_drew ?_ | refine blk_alloc ?_ _)); refine blk_far ?_ NB519_526.out _; (with_reducible repeat (first | refine blk_drewN ?_ _ | refine blk_drew ?_ | refine blk_alloc ?_ _)); refine blk_far ?_ NB519_526.out _; (with_reducible repeat (first | refine blk_drewN ?_ _ | refine blk_drew ?_ | refine blk_alloc ?_ _)); exact BK519.out⟩, ⟨by (with_reducible repeat (first | refine blk_drewN ?_ _ | refine blk_drew ?_ | refine blk_alloc ?_ _)); refine blk_far ?_ NB520_527.out _; (with_reducible repeat (first | refine blk_drewN ?_ _ | refine blk_drew ?_ | refine blk_alloc ?_ _)); refine blk_far ?_ NB520_527.out _; (with_reducible repeat (first | refine blk_drewN ?_ _ | refine blk_drew ?_ | refine blk_alloc ?_ _)); refine blk_far ?_ NB520_526.out _; (with_reducible repeat (first | refine blk_drewN ?_ _ | refine blk_drew ?_ | refine blk_alloc ?_ _)); refine blk_far ?_ NB520_526.out _; (with_reducible repeat (first | refine blk_drewN ?_ _ | refine blk_drew ?_ | refine blk_alloc ?_ _)); exact BK520.out⟩, ⟨by (with_reducible repeat (first | refine blk_drewN ?_ _ | refine blk_drew ?_ | refine blk_alloc ?_ _)); refine blk_far ?_ NB526_527.out _; (with_reducible repeat (first | refine blk_drewN ?_ _ | refine blk_drew ?_ | refine blk_alloc ?_ _)); refine blk_far ?_ NB526_527.out _; (with_reducible repeat (first | refine blk_drewN ?_ _ | refine blk_drew ?_ | refine blk_alloc ?_ _)); refine blk_put (cs := #[.int .i64 t521, .int .i64 0]) ?_ 1 _ rfl; (with_reducible repeat (first | refine blk_drewN ?_ _ | refine blk_drew ?_ | refine blk_alloc ?_ _)); refine blk_put (cs := #[.int .i64 0, .int .i64 0]) ?_ 0 _ rfl; (with_reducible repeat (first | refine blk_drewN ?_ _ | refine blk_drew ?_ | refine blk_alloc ?_ _)); exact BK526.out⟩, ⟨by (with_reducible repeat (first | refine blk_drewN ?_ _ | refine blk_drew ?_ | refine blk_alloc ?_ _)); refine blk_put (cs := #[.int .i64 t523, .int .i64 0]) ?_ 1 _ rfl; (with_reducible repeat (first | refine blk_drewN ?_ _ | refine blk_drew ?_ | refine blk_alloc ?_ _)); refine blk_put (cs := #[.int .i64 0, .int .i64 0]) ?_ 0 _ rfl; (with_reducible repeat (first | refine blk_drewN ?_ _ | refine blk_drew ?_ | refine blk_alloc ?_ _)); refine blk_far ?_ NB527_526.out _; (with_reducible repeat (first | refine blk_drewN ?_ _ | refine blk_drew ?_ | refine blk_alloc ?_ _)); refine blk_far ?_ NB527_526.out _; (with_reducible repeat (first | refine blk_drewN ?_ _ | refine blk_drew ?_ | refine blk_alloc ?_ _)); exact BK527.out⟩, ⟨lb HB.out⟩⟩
        · rw [if_neg c59] at H
          have c59b0 : (!(t516 == t523) || (!(t517 == t524))) = false := by simpa using c59
          clear c59
          by_cases c75 : (!(t514 == t521) || (!(t515 == t522))) = true
          · rw [if_pos c75] at H
            have c75b0 : (!(t514 == t521) || (!(t515 == t522))) = true := c75
            clear c75
            have H' := Aside0.mk H
            clear H
            have hnb76 := NB520_510.out
            have hnc76 := NB510_520.out
            have hnb77 := NB520_511.out
            have hnc77 := NB511_520.out
            have hnb78 := NB520_512.out
            have hnc78 := NB512_520.out
            have hnb79 := NB520_513.out
            have hnc79 := NB513_520.out
            have hnb80 := NB520_519.out
            have hnc80 := NB519_520.out
            have hnb81 := NB520_526.out
            have hnc81 := NB526_520.out
            have hnb82 := NB520_527.out
            have hnc82 := NB527_520.out
            have hcz83_0 : w42.cell? ⟨gb520, 0, none⟩ = some (.int .i64 t516) := (blk_cell BK520.out 0).trans rfl
            have hcz83_1 : w42.cell? ⟨gb520, 1, none⟩ = some (.int .i64 t517) := (blk_cell BK520.out 1).trans rfl
            have hfz83_0 := blk_frozen BK520.out 0
            have hfz83_1 := blk_frozen BK520.out 1
            have hnb84 := NB527_510.out
            have hnc84 := NB510_527.out
            have hnb85 := NB527_511.out
            have hnc85 := NB511_527.out
            have hnb86 := NB527_512.out
            have hnc86 := NB512_527.out
            have hnb87 := NB527_513.out
            have hnc87 := NB513_527.out
            have hnb88 := NB527_519.out
            have hnc88 := NB519_527.out
            have hnb89 := NB527_526.out
            have hnc89 := NB526_527.out
            have hcz90_0 : w42.cell? ⟨gb527, 0, none⟩ = some (.int .i64 0) := (blk_cell BK527.out 0).trans rfl
            have hcz90_1 : w42.cell? ⟨gb527, 1, none⟩ = some (.int .i64 0) := (blk_cell BK527.out 1).trans rfl
            have hfz90_0 := blk_frozen BK527.out 0
            have hfz90_1 := blk_frozen BK527.out 1
            have hnb91 := NB519_510.out
            have hnc91 := NB510_519.out
            have hnb92 := NB519_511.out
            have hnc92 := NB511_519.out
            have hnb93 := NB519_512.out
            have hnc93 := NB512_519.out
            have hnb94 := NB519_513.out
            have hnc94 := NB513_519.out
            have hnb95 := NB519_526.out
            have hnc95 := NB526_519.out
            have hcz96_0 : w42.cell? ⟨gb519, 0, none⟩ = some (.int .i64 t514) := (blk_cell BK519.out 0).trans rfl
            have hcz96_1 : w42.cell? ⟨gb519, 1, none⟩ = some (.int .i64 t515) := (blk_cell BK519.out 1).trans rfl
            have hfz96_0 := blk_frozen BK519.out 0
            have hfz96_1 := blk_frozen BK519.out 1
            have hnb97 := NB526_510.out
            have hnc97 := NB510_526.out
            have hnb98 := NB526_511.out
            have hnc98 := NB511_526.out
            have hnb99 := NB526_512.out
            have hnc99 := NB512_526.out
            have hnb100 := NB526_513.out
            have hnc100 := NB513_526.out
            have hcz101_0 : w42.cell? ⟨gb526, 0, none⟩ = some (.int .i64 0) := (blk_cell BK526.out 0).trans rfl
            have hcz101_1 : w42.cell? ⟨gb526, 1, none⟩ = some (.int .i64 0) := (blk_cell BK526.out 1).trans rfl
            have hfz101_0 := blk_frozen BK526.out 0
            have hfz101_1 := blk_frozen BK526.out 1
            go_wp2
            go_meet
            case rel => exact ⟨_, (true), (by first | rfl | (simp; done) | (simp [*]; done)), H', ⟨by first | omega | exact Nat.le_refl _⟩, ⟨by (with_reducible repeat (first | refine blk_drewN ?_ _ | refine blk_drew ?_ | refine blk_alloc ?_ _)); refine blk_far ?_ NB510_527.out _; (with_reducible repeat (first | refine blk_drewN ?_ _ | refine blk_drew ?_ | refine blk_alloc ?_ _)); refine blk_far ?_ NB510_527.out _; (with_reducible repeat (first | refine blk_drewN ?_ _ | refine blk_drew ?_ | refine blk_alloc ?_ _)); refine blk_far ?_ NB510_526.out _; (with_reducible repeat (first | refine blk_drewN ?_ _ | refine blk_drew ?_ | refine blk_alloc ?_ _)); refine blk_far ?_ NB510_526.out _; (with_reducible repeat (first | refine blk_drewN ?_ _ | refine blk_drew ?_ | refine blk_alloc ?_ _)); exact BK510.out⟩, ⟨by (with_reducible repeat (first | refine blk_drewN ?_ _ | refine blk_drew ?_ | refine blk_alloc ?_ _)); refine blk_far ?_ NB511_527.out _; (with_reducible repeat (first | refine blk_drewN ?_ _ | refine blk_drew ?_ | refine blk_alloc ?_ _)); refine blk_far ?_ NB511_527.out _; (with_reducible repeat (first | refine blk_drewN ?_ _ | refine blk_drew ?_ | refine blk_alloc ?_ _)); refine blk_far ?_ NB511_526.out _; (with_reducible repeat (first | refine blk_drewN ?_ _ | refine blk_drew ?_ | refine blk_alloc ?_ _)); refine blk_far ?_ NB511_526.out _; (with_reducible repeat (first | refine blk_drewN ?_ _ | refine blk_drew ?_ | refine blk_alloc ?_ _)); exact BK511.out⟩, ⟨by (with_reducible repeat (first | refine blk_drewN ?_ _ | refine blk_drew ?_ | refine blk_alloc ?_ _)); refine blk_far ?_ NB512_527.out _; (with_reducible repeat (first | refine blk_drewN ?_ _ | refine blk_drew ?_ | refine blk_alloc ?_ _)); refine blk_far ?_ NB512_527.out _; (with_reducible repeat (first | refine blk_drewN ?_ _ | refine blk_drew ?_ | refine blk_alloc ?_ _)); refine blk_far ?_ NB512_526.out _; (with_reducible repeat (first | refine blk_drewN ?_ _ | refine blk_drew ?_ | refine blk_alloc ?_ _)); refine blk_far ?_ NB512_526.out _; (with_reducible repeat (first | refine blk_drewN ?_ _ | refine blk_drew ?_ | refine blk_alloc ?_ _)); exact BK512.out⟩, ⟨by (with_reducible repeat (first | refine blk_drewN ?_ _ | refine blk_drew ?_ | refine blk_alloc ?_ _)); refine blk_far ?_ NB513_527.out _; (with_reducible repeat (first | refine blk_drewN ?_ _ | refine blk_drew ?_ | refine blk_alloc ?_ _)); refine blk_far ?_ NB513_527.out _; (with_reducible repeat (first | refine blk_drewN ?_ _ | refine blk_drew ?_ | refine blk_alloc ?_ _)); refine blk_far ?_ NB513_526.out _; (with_reducible repeat (first | refine blk_drewN ?_ _ | refine blk_drew ?_ | refine blk_alloc ?_ _)); refine blk_far ?_ NB513_526.out _; (with_reducible repeat (first | refine blk_drewN ?_ _ | refine blk_drew ?_ | refine blk_alloc ?_ _)); exact BK513.out⟩, ⟨by (with_reducible repeat (first | refine blk_drewN ?_ _ | refine blk_drew ?_ | refine blk_alloc ?_ _)); refine blk_far ?_ NB519_527.out _; (with_reducible repeat (first | refine blk_drewN ?_ _ | refine blk_drew ?_ | refine blk_alloc ?_ _)); refine blk_far ?_ NB519_527.out _; (with_reducible repeat (first | refine blk_drewN ?_ _ | refine blk_drew ?_ | refine blk_alloc ?_ _)); refine blk_far ?_ NB519_526.out _; (with_reducible repeat (first | refine blk_drewN ?_ _ | refine blk_drew ?_ | refine blk_alloc ?_ _)); refine blk_far ?_ NB519_526.out _; (with_reducible repeat (first | refine blk_drewN ?_ _ | refine blk_drew ?_ | refine blk_alloc ?_ _)); exact BK519.out⟩, ⟨by (with_reducible repeat (first | refine blk_drewN ?_ _ | refine blk_drew ?_ | refine blk_alloc ?_ _)); refine blk_far ?_ NB520_527.out _; (with_reducible repeat (first | refine blk_drewN ?_ _ | refine blk_drew ?_ | refine blk_alloc ?_ _)); refine blk_far ?_ NB520_527.out _; (with_reducible repeat (first | refine blk_drewN ?_ _ | refine blk_drew ?_ | refine blk_alloc ?_ _)); refine blk_far ?_ NB520_526.out _; (with_reducible repeat (first | refine blk_drewN ?_ _ | refine blk_drew ?_ | refine blk_alloc ?_ _)); refine blk_far ?_ NB520_526.out _; (with_reducible repeat (first | refine blk_drewN ?_ _ | refine blk_drew ?_ | refine blk_alloc ?_ _)); exact BK520.out⟩, ⟨by (with_reducible repeat (first | refine blk_drewN ?_ _ | refine blk_drew ?_ | refine blk_alloc ?_ _)); refine blk_far ?_ NB526_527.out _; (with_reducible repeat (first | refine blk_drewN ?_ _ | refine blk_drew ?_ | refine blk_alloc ?_ _)); refine blk_far ?_ NB526_527.out _; (with_reducible repeat (first | refine blk_drewN ?_ _ | refine blk_drew ?_ | refine blk_alloc ?_ _)); refine blk_put (cs := #[.int .i64 t521, .int .i64 0]) ?_ 1 _ rfl; (with_reducible repeat (first | refine blk_drewN ?_ _ | refine blk_drew ?_ | refine blk_alloc ?_ _)); refine blk_put (cs := #[.int .i64 0, .int .i64 0]) ?_ 0 _ rfl; (with_reducible repeat (first | refine blk_drewN ?_ _ | refine blk_drew ?_ | refine blk_alloc ?_ _)); exact BK526.out⟩, ⟨by (with_reducible repeat (first | refine blk_drewN ?_ _ | refine blk_drew ?_ | refine blk_alloc ?_ _)); refine blk_put (cs := #[.int .i64 t523, .int .i64 0]) ?_ 1 _ rfl; (with_reducible repeat (first | refine blk_drewN ?_ _ | refine blk_drew ?_ | refine blk_alloc ?_ _)); refine blk_put (cs := #[.int .i64 0, .int .i64 0]) ?_ 0 _ rfl; (with_reducible repeat (first | refine blk_drewN ?_ _ | refine blk_drew ?_ | refine blk_alloc ?_ _)); refine blk_far ?_ NB527_526.out _; (with_reducible repeat (first | refine blk_drewN ?_ _ | refine blk_drew ?_ | refine blk_alloc ?_ _)); refine blk_far ?_ NB527_526.out _; (with_reducible repeat (first | refine blk_drewN ?_ _ | refine blk_drew ?_ | refine blk_alloc ?_ _)); exact BK527.out⟩, ⟨lb HB.out⟩⟩
          · rw [if_neg c75] at H
            have c75b0 : (!(t514 == t521) || (!(t515 == t522))) = false := by simpa using c75
            clear c75
            have H' := Aside0.mk H
            clear H
            have hnb102 := NB520_510.out
            have hnc102 := NB510_520.out
            have hnb103 := NB520_511.out
            have hnc103 := NB511_520.out
            have hnb104 := NB520_512.out
            have hnc104 := NB512_520.out
            have hnb105 := NB520_513.out
            have hnc105 := NB513_520.out
            have hnb106 := NB520_519.out
            have hnc106 := NB519_520.out
            have hnb107 := NB520_526.out
            have hnc107 := NB526_520.out
            have hnb108 := NB520_527.out
            have hnc108 := NB527_520.out
            have hcz109_0 : w42.cell? ⟨gb520, 0, none⟩ = some (.int .i64 t516) := (blk_cell BK520.out 0).trans rfl
            have hcz109_1 : w42.cell? ⟨gb520, 1, none⟩ = some (.int .i64 t517) := (blk_cell BK520.out 1).trans rfl
            have hfz109_0 := blk_frozen BK520.out 0
            have hfz109_1 := blk_frozen BK520.out 1
            have hnb110 := NB527_510.out
            have hnc110 := NB510_527.out
            have hnb111 := NB527_511.out
            have hnc111 := NB511_527.out
            have hnb112 := NB527_512.out
            have hnc112 := NB512_527.out
            have hnb113 := NB527_513.out
            have hnc113 := NB513_527.out
            have hnb114 := NB527_519.out
            have hnc114 := NB519_527.out
            have hnb115 := NB527_526.out
            have hnc115 := NB526_527.out
            have hcz116_0 : w42.cell? ⟨gb527, 0, none⟩ = some (.int .i64 0) := (blk_cell BK527.out 0).trans rfl
            have hcz116_1 : w42.cell? ⟨gb527, 1, none⟩ = some (.int .i64 0) := (blk_cell BK527.out 1).trans rfl
            have hfz116_0 := blk_frozen BK527.out 0
            have hfz116_1 := blk_frozen BK527.out 1
            have hnb117 := NB519_510.out
            have hnc117 := NB510_519.out
            have hnb118 := NB519_511.out
            have hnc118 := NB511_519.out
            have hnb119 := NB519_512.out
            have hnc119 := NB512_519.out
            have hnb120 := NB519_513.out
            have hnc120 := NB513_519.out
            have hnb121 := NB519_526.out
            have hnc121 := NB526_519.out
            have hcz122_0 : w42.cell? ⟨gb519, 0, none⟩ = some (.int .i64 t514) := (blk_cell BK519.out 0).trans rfl
            have hcz122_1 : w42.cell? ⟨gb519, 1, none⟩ = some (.int .i64 t515) := (blk_cell BK519.out 1).trans rfl
            have hfz122_0 := blk_frozen BK519.out 0
            have hfz122_1 := blk_frozen BK519.out 1
            have hnb123 := NB526_510.out
            have hnc123 := NB510_526.out
            have hnb124 := NB526_511.out
            have hnc124 := NB511_526.out
            have hnb125 := NB526_512.out
            have hnc125 := NB512_526.out
            have hnb126 := NB526_513.out
            have hnc126 := NB513_526.out
            have hcz127_0 : w42.cell? ⟨gb526, 0, none⟩ = some (.int .i64 0) := (blk_cell BK526.out 0).trans rfl
            have hcz127_1 : w42.cell? ⟨gb526, 1, none⟩ = some (.int .i64 0) := (blk_cell BK526.out 1).trans rfl
            have hfz127_0 := blk_frozen BK526.out 0
            have hfz127_1 := blk_frozen BK526.out 1
            go_wp2
            go_meet
            case rel => exact ⟨_, (!t518), (by first | rfl | (simp; done) | (simp [*]; done)), H', ⟨by first | omega | exact Nat.le_refl _⟩, ⟨by (with_reducible repeat (first | refine blk_drewN ?_ _ | refine blk_drew ?_ | refine blk_alloc ?_ _)); refine blk_far ?_ NB510_527.out _; (with_reducible repeat (first | refine blk_drewN ?_ _ | refine blk_drew ?_ | refine blk_alloc ?_ _)); refine blk_far ?_ NB510_527.out _; (with_reducible repeat (first | refine blk_drewN ?_ _ | refine blk_drew ?_ | refine blk_alloc ?_ _)); refine blk_far ?_ NB510_526.out _; (with_reducible repeat (first | refine blk_drewN ?_ _ | refine blk_drew ?_ | refine blk_alloc ?_ _)); refine blk_far ?_ NB510_526.out _; (with_reducible repeat (first | refine blk_drewN ?_ _ | refine blk_drew ?_ | refine blk_alloc ?_ _)); exact BK510.out⟩, ⟨by (with_reducible repeat (first | refine blk_drewN ?_ _ | refine blk_drew ?_ | refine blk_alloc ?_ _)); refine blk_far ?_ NB511_527.out _; (with_reducible repeat (first | refine blk_drewN ?_ _ | refine blk_drew ?_ | refine blk_alloc ?_ _)); refine blk_far ?_ NB511_527.out _; (with_reducible repeat (first | refine blk_drewN ?_ _ | refine blk_drew ?_ | refine blk_alloc ?_ _)); refine blk_far ?_ NB511_526.out _; (with_reducible repeat (first | refine blk_drewN ?_ _ | refine blk_drew ?_ | refine blk_alloc ?_ _)); refine blk_far ?_ NB511_526.out _; (with_reducible repeat (first | refine blk_drewN ?_ _ | refine blk_drew ?_ | refine blk_alloc ?_ _)); exact BK511.out⟩, ⟨by (with_reducible repeat (first | refine blk_drewN ?_ _ | refine blk_drew ?_ | refine blk_alloc ?_ _)); refine blk_far ?_ NB512_527.out _; (with_reducible repeat (first | refine blk_drewN ?_ _ | refine blk_drew ?_ | refine blk_alloc ?_ _)); refine blk_far ?_ NB512_527.out _; (with_reducible repeat (first | refine blk_drewN ?_ _ | refine blk_drew ?_ | refine blk_alloc ?_ _)); refine blk_far ?_ NB512_526.out _; (with_reducible repeat (first | refine blk_drewN ?_ _ | refine blk_drew ?_ | refine blk_alloc ?_ _)); refine blk_far ?_ NB512_526.out _; (with_reducible repeat (first | refine blk_drewN ?_ _ | refine blk_drew ?_ | refine blk_alloc ?_ _)); exact BK512.out⟩, ⟨by (with_reducible repeat (first | refine blk_drewN ?_ _ | refine blk_drew ?_ | refine blk_alloc ?_ _)); refine blk_far ?_ NB513_527.out _; (with_reducible repeat (first | refine blk_drewN ?_ _ | refine blk_drew ?_ | refine blk_alloc ?_ _)); refine blk_far ?_ NB513_527.out _; (with_reducible repeat (first | refine blk_drewN ?_ _ | refine blk_drew ?_ | refine blk_alloc ?_ _)); refine blk_far ?_ NB513_526.out _; (with_reducible repeat (first | refine blk_drewN ?_ _ | refine blk_drew ?_ | refine blk_alloc ?_ _)); refine blk_far ?_ NB513_526.out _; (with_reducible repeat (first | refine blk_drewN ?_ _ | refine blk_drew ?_ | refine blk_alloc ?_ _)); exact BK513.out⟩, ⟨by (with_reducible repeat (first | refine blk_drewN ?_ _ | refine blk_drew ?_ | refine blk_alloc ?_ _)); refine blk_far ?_ NB519_527.out _; (with_reducible repeat (first | refine blk_drewN ?_ _ | refine blk_drew ?_ | refine blk_alloc ?_ _)); refine blk_far ?_ NB519_527.out _; (with_reducible repeat (first | refine blk_drewN ?_ _ | refine blk_drew ?_ | refine blk_alloc ?_ _)); refine blk_far ?_ NB519_526.out _; (with_reducible repeat (first | refine blk_drewN ?_ _ | refine blk_drew ?_ | refine blk_alloc ?_ _)); refine blk_far ?_ NB519_526.out _; (with_reducible repeat (first | refine blk_drewN ?_ _ | refine blk_drew ?_ | refine blk_alloc ?_ _)); exact BK519.out⟩, ⟨by (with_reducible repeat (first | refine blk_drewN ?_ _ | refine blk_drew ?_ | refine blk_alloc ?_ _)); refine blk_far ?_ NB520_527.out _; (with_reducible repeat (first | refine blk_drewN ?_ _ | refine blk_drew ?_ | refine blk_alloc ?_ _)); refine blk_far ?_ NB520_527.out _; (with_reducible repeat (first | refine blk_drewN ?_ _ | refine blk_drew ?_ | refine blk_alloc ?_ _)); refine blk_far ?_ NB520_526.out _; (with_reducible repeat (first | refine blk_drewN ?_ _ | refine blk_drew ?_ | refine blk_alloc ?_ _)); refine blk_far ?_ NB520_526.out _; (with_reducible repeat (first | refine blk_drewN ?_ _ | refine blk_drew ?_ | refine blk_alloc ?_ _)); exact BK520.out⟩, ⟨by (with_reducible repeat (first | refine blk_drewN ?_ _ | refine blk_drew ?_ | refine blk_alloc ?_ _)); refine blk_far ?_ NB526_527.out _; (with_reducible repeat (first | refine blk_drewN ?_ _ | refine blk_drew ?_ | refine blk_alloc ?_ _)); refine blk_far ?_ NB526_527.out _; (with_reducible repeat (first | refine blk_drewN ?_ _ | refine blk_drew ?_ | refine blk_alloc ?_ _)); refine blk_put (cs := #[.int .i64 t521, .int .i64 0]) ?_ 1 _ rfl; (with_reducible repeat (first | refine blk_drewN ?_ _ | refine blk_drew ?_ | refine blk_alloc ?_ _)); refine blk_put (cs := #[.int .i64 0, .int .i64 0]) ?_ 0 _ rfl; (with_reducible repeat (first | refine blk_drewN ?_ _ | refine blk_drew ?_ | refine blk_alloc ?_ _)); exact BK526.out⟩, ⟨by (with_reducible repeat (first | refine blk_drewN ?_ _ | refine blk_drew ?_ | refine blk_alloc ?_ _)); refine blk_put (cs := #[.int .i64 t523, .int .i64 0]) ?_ 1 _ rfl; (with_reducible repeat (first | refine blk_drewN ?_ _ | refine blk_drew ?_ | refine blk_alloc ?_ _)); refine blk_put (cs := #[.int .i64 0, .int .i64 0]) ?_ 0 _ rfl; (with_reducible repeat (first | refine blk_drewN ?_ _ | refine blk_drew ?_ | refine blk_alloc ?_ _)); refine blk_far ?_ NB527_526.out _; (with_reducible repeat (first | refine blk_drewN ?_ _ | refine blk_drew ?_ | refine blk_alloc ?_ _)); refine blk_far ?_ NB527_526.out _; (with_reducible repeat (first | refine blk_drewN ?_ _ | refine blk_drew ?_ | refine blk_alloc ?_ _)); exact BK527.out⟩, ⟨lb HB.out⟩⟩
    case rest =>
      clear HC6
      try clear c1
      try clear c2
      try clear c2b0
      try clear c2b1
      try clear p2
      try clear c3
      try clear c4
      try clear c5
      try clear c6
      try clear c7
      try clear c8
      try clear c9
      try clear c10
      try clear c11
      try clear c12
      try clear c13
      try clear c14
      try clear c16
      try clear c17
      try clear c19
      try clear c20
      try clear c21
      try clear c25
      try clear c26
      try clear c27
      try clear c28
      try clear c29
      try clear c31
      try clear c32
      try clear c33
      try clear c34
      try clear c43
      try clear c44
      try clear c45
      try clear c46
      try clear c47
      try clear c48
      try clear c49
      try clear c51
      try clear c52
      try clear c53
      try clear c54
      try clear c55
      try clear c56
      try clear c58
      try clear c58b0
      try clear c58b1
      try clear c58b2
      try clear c59
      try clear c59b0
      try clear c60
      try clear c61
      try clear c62
      try clear c63
      try clear c64
      try clear c65
      try clear c66
      try clear c68
      try clear c69
      try clear c70
      try clear c71
      try clear c72
      try clear c73
      try clear c75
      try clear c75b0
      try clear c76
      try clear c77
      try clear c78
      try clear c79
      try clear c80
      try clear c81
      try clear c82
      try clear c84
      try clear c85
      try clear c86
      try clear c87
      try clear c88
      try clear c89
      try clear c91
      try clear c92
      try clear c93
      try clear c94
      try clear c95
      try clear c97
      try clear c98
      try clear c99
      try clear c100
      try clear c102
      try clear c103
      try clear c104
      try clear c105
      try clear c106
      try clear c107
      try clear c108
      try clear c110
      try clear c111
      try clear c112
      try clear c113
      try clear c114
      try clear c115
      try clear c117
      try clear c118
      try clear c119
      try clear c120
      try clear c121
      try clear c123
      try clear c124
      try clear c125
      try clear c126
      try clear hcz101_0
      try clear hcz101_1
      try clear hcz109_0
      try clear hcz109_1
      try clear hcz116_0
      try clear hcz116_1
      try clear hcz122_0
      try clear hcz122_1
      try clear hcz127_0
      try clear hcz127_1
      try clear hcz15_0
      try clear hcz15_1
      try clear hcz18_0
      try clear hcz18_1
      try clear hcz20_0
      try clear hcz20_1
      try clear hcz21_0
      try clear hcz21_1
      try clear hcz30_0
      try clear hcz30_1
      try clear hcz35_0
      try clear hcz35_1
      try clear hcz36_0
      try clear hcz36_1
      try clear hcz37_0
      try clear hcz37_1
      try clear hcz38_0
      try clear hcz38_1
      try clear hcz39_0
      try clear hcz39_1
      try clear hcz50_0
      try clear hcz50_1
      try clear hcz57_0
      try clear hcz57_1
      try clear hcz67_0
      try clear hcz67_1
      try clear hcz74_0
      try clear hcz74_1
      try clear hcz83_0
      try clear hcz83_1
      try clear hcz90_0
      try clear hcz90_1
      try clear hcz96_0
      try clear hcz96_1
      try clear hfz101_0
      try clear hfz101_1
      try clear hfz109_0
      try clear hfz109_1
      try clear hfz116_0
      try clear hfz116_1
      try clear hfz122_0
      try clear hfz122_1
      try clear hfz127_0
      try clear hfz127_1
      try clear hfz15_0
      try clear hfz15_1
      try clear hfz18_0
      try clear hfz18_1
      try clear hfz20_0
      try clear hfz20_1
      try clear hfz21_0
      try clear hfz21_1
      try clear hfz30_0
      try clear hfz30_1
      try clear hfz35_0
      try clear hfz35_1
      try clear hfz36_0
      try clear hfz36_1
      try clear hfz37_0
      try clear hfz37_1
      try clear hfz38_0
      try clear hfz38_1
      try clear hfz39_0
      try clear hfz39_1
      try clear hfz50_0
      try clear hfz50_1
      try clear hfz57_0
      try clear hfz57_1
      try clear hfz67_0
      try clear hfz67_1
      try clear hfz74_0
      try clear hfz74_1
      try clear hfz83_0
      try clear hfz83_1
      try clear hfz90_0
      try clear hfz90_1
      try clear hfz96_0
      try clear hfz96_1
      obtain ⟨kq, x65_5, rfl, HA, HJ5, BK510, BK511, BK512, BK513, BK519, BK520, BK526, BK527, HB⟩ := hcut
      cases kq with
      | zero => exact absurd HA.out (by simp [laws_FnCross.j0])
      | succ kj5 =>
        have H := HA.out
        clear HA
        simp only [laws_FnCross.j0] at H
        by_cases c128 : x65_5 = true
        · subst c128
          have H1 : (if (t518 == t525) = true then (if (t516 == t523 && (t517 == t524)) = true then (some (t514 == t521 && (t515 == t522))) else (some false)) else (some false)) = some r := by rw [if_pos rfl] at H; exact H
          clear H
          have H := H1
          clear H1
          by_cases c129 : (t518 == t525) = true
          · rw [if_pos c129] at H
            have c129b0 : (t518 == t525) = true := c129
            (try (have c129b1 : decide (t518 = t525) = true := by simpa using c129))
            (try (have c129b2 : (t518 == t525) = true := by simpa using c129))
            clear c129
            by_cases c130 : (t516 == t523 && (t517 == t524)) = true
            · rw [if_pos c130] at H
              have c130b0 : (t516 == t523 && (t517 == t524)) = true := c130
              (try (have c130b1 : decide (t516 = t523 && (t517 == t524)) = true := by simpa using c130))
              (try (have c130b2 : (t516 == t523 && (t517 == t524)) = true := by simpa using c130))
              clear c130
              obtain rfl := Option.some.inj H
              have hcz138_0 : wc.cell? ⟨gb520, 0, none⟩ = some (.int .i64 t516) := (blk_cell BK520.out 0).trans rfl
              have hcz138_1 : wc.cell? ⟨gb520, 1, none⟩ = some (.int .i64 t517) := (blk_cell BK520.out 1).trans rfl
              have hfz138_0 := blk_frozen BK520.out 0
              have hfz138_1 := blk_frozen BK520.out 1
              have hcz145_0 : wc.cell? ⟨gb527, 0, none⟩ = some (.int .i64 t523) := (blk_cell BK527.out 0).trans rfl
              have hcz145_1 : wc.cell? ⟨gb527, 1, none⟩ = some (.int .i64 t524) := (blk_cell BK527.out 1).trans rfl
              have hfz145_0 := blk_frozen BK527.out 0
              have hfz145_1 := blk_frozen BK527.out 1
              have hcz151_0 : wc.cell? ⟨gb519, 0, none⟩ = some (.int .i64 t514) := (blk_cell BK519.out 0).trans rfl
              have hcz151_1 : wc.cell? ⟨gb519, 1, none⟩ = some (.int .i64 t515) := (blk_cell BK519.out 1).trans rfl
              have hfz151_0 := blk_frozen BK519.out 0
              have hfz151_1 := blk_frozen BK519.out 1
              have hcz156_0 : wc.cell? ⟨gb526, 0, none⟩ = some (.int .i64 t521) := (blk_cell BK526.out 0).trans rfl
              have hcz156_1 : wc.cell? ⟨gb526, 1, none⟩ = some (.int .i64 t522) := (blk_cell BK526.out 1).trans rfl
              have hfz156_0 := blk_frozen BK526.out 0
              have hfz156_1 := blk_frozen BK526.out 1
              go_wp2
              go_ret
              exact ⟨er, lb HB.out⟩
            · rw [if_neg c130] at H
              have c130b0 : (t516 == t523 && (t517 == t524)) = false := by simpa using c130
              (try (have c130b1 : decide (t516 = t523 && (t517 == t524)) = false := by simpa using c130))
              (try (have c130b2 : (t516 == t523 && (t517 == t524)) = false := by simpa using c130))
              (try (have c130b3 : ¬ (t516 = t523 && (t517 == t524)) := by simpa using c130))
              clear c130
              obtain rfl := Option.some.inj H
              have hcz164_0 : wc.cell? ⟨gb520, 0, none⟩ = some (.int .i64 t516) := (blk_cell BK520.out 0).trans rfl
              have hcz164_1 : wc.cell? ⟨gb520, 1, none⟩ = some (.int .i64 t517) := (blk_cell BK520.out 1).trans rfl
              have hfz164_0 := blk_frozen BK520.out 0
              have hfz164_1 := blk_frozen BK520.out 1
              have hcz171_0 : wc.cell? ⟨gb527, 0, none⟩ = some (.int .i64 t523) := (blk_cell BK527.out 0).trans rfl
              have hcz171_1 : wc.cell? ⟨gb527, 1, none⟩ = some (.int .i64 t524) := (blk_cell BK527.out 1).trans rfl
              have hfz171_0 := blk_frozen BK527.out 0
              have hfz171_1 := blk_frozen BK527.out 1
              go_wp2
              go_ret
              exact ⟨er, lb HB.out⟩
          · rw [if_neg c129] at H
            have c129b0 : (t518 == t525) = false := by simpa using c129
            (try (have c129b1 : decide (t518 = t525) = false := by simpa using c129))
            (try (have c129b2 : (t518 == t525) = false := by simpa using c129))
            (try (have c129b3 : ¬ (t518 = t525) := by simpa using c129))
            clear c129
            obtain rfl := Option.some.inj H
            go_wp2
            go_ret
            exact ⟨er, lb HB.out⟩
        · replace c128 := Bool.eq_false_iff.mpr c128
          subst c128
          have H1 : ((impl_CrossAt.f kj5 t506 t507 t508 t509 t502 t503 t504 t505).bind fun bt528 => ((impl_CrossAt.f kj5 t504 t505 t502 t503 t506 t507 t508 t509).bind fun bt535 => (if bt528.2.2.2.2 = true then (if bt535.2.2.2.2 = true then (if (bt528.1 == t514 && (bt528.2.1 == t515)) = true then (if (bt528.2.2.1 == t516 && (bt528.2.2.2.1 == t517)) = true then (if (bt535.1 == t514 && (bt535.2.1 == t515)) = true then (if (bt535.2.2.1 == t516 && (bt535.2.2.2.1 == t517)) = true then (if (wrap64 ((wrap64 ((wrap64 (t504 - t502)) * (wrap64 (t516 - (wrap64 (t503 * t517)))))) * t515)) = (wrap64 ((wrap64 ((wrap64 (t505 - t503)) * (wrap64 (t514 - (wrap64 (t502 * t515)))))) * t517)) then (some ((wrap64 ((wrap64 ((wrap64 (t508 - t506)) * (wrap64 (t516 - (wrap64 (t507 * t517)))))) * t515)) == (wrap64 ((wrap64 ((wrap64 (t509 - t507)) * (wrap64 (t514 - (wrap64 (t506 * t515)))))) * t517)))) else (some false)) else (some false)) else (some false)) else (some false)) else (some false)) else (some false)) else (some false)))) = some r := by rw [if_neg (show ¬ (false = true) by decide)] at H; exact H
          clear H
          have H := H1
          clear H1
          replace H := Option.bind_eq_some_iff.mp H
          obtain ⟨⟨t528, t529, t530, t531, t532⟩, A1720, H⟩ := H
          replace H : ((impl_CrossAt.f kj5 t504 t505 t502 t503 t506 t507 t508 t509).bind fun bt535 => (if t532 = true then (if bt535.2.2.2.2 = true then (if (t528 == t514 && (t529 == t515)) = true then (if (t530 == t516 && (t531 == t517)) = true then (if (bt535.1 == t514 && (bt535.2.1 == t515)) = true then (if (bt535.2.2.1 == t516 && (bt535.2.2.2.1 == t517)) = true then (if (wrap64 ((wrap64 ((wrap64 (t504 - t502)) * (wrap64 (t516 - (wrap64 (t503 * t517)))))) * t515)) = (wrap64 ((wrap64 ((wrap64 (t505 - t503)) * (wrap64 (t514 - (wrap64 (t502 * t515)))))) * t517)) then (some ((wrap64 ((wrap64 ((wrap64 (t508 - t506)) * (wrap64 (t516 - (wrap64 (t507 * t517)))))) * t515)) == (wrap64 ((wrap64 ((wrap64 (t509 - t507)) * (wrap64 (t514 - (wrap64 (t506 * t515)))))) * t517)))) else (some false)) else (some false)) else (some false)) else (some false)) else (some false)) else (some false)) else (some false))) = some r := H
          have A172 := Aside0.mk A1720
          clear A1720
          replace H := Option.bind_eq_some_iff.mp H
          obtain ⟨⟨t535, t536, t537, t538, t539⟩, A1730, H⟩ := H
          replace H : (if t532 = true then (if t539 = true then (if (t528 == t514 && (t529 == t515)) = true then (if (t530 == t516 && (t531 == t517)) = true then (if (t535 == t514 && (t536 == t515)) = true then (if (t537 == t516 && (t538 == t517)) = true then (if (wrap64 ((wrap64 ((wrap64 (t504 - t502)) * (wrap64 (t516 - (wrap64 (t503 * t517)))))) * t515)) = (wrap64 ((wrap64 ((wrap64 (t505 - t503)) * (wrap64 (t514 - (wrap64 (t502 * t515)))))) * t517)) then (some ((wrap64 ((wrap64 ((wrap64 (t508 - t506)) * (wrap64 (t516 - (wrap64 (t507 * t517)))))) * t515)) == (wrap64 ((wrap64 ((wrap64 (t509 - t507)) * (wrap64 (t514 - (wrap64 (t506 * t515)))))) * t517)))) else (some false)) else (some false)) else (some false)) else (some false)) else (some false)) else (some false)) else (some false)) = some r := H
          have A173 := Aside0.mk A1730
          clear A1730
          have hcz188_0 : wc.cell? ⟨gb512, 0, none⟩ = some (.int .i64 t506) := (blk_cell BK512.out 0).trans rfl
          have hcz188_1 : wc.cell? ⟨gb512, 1, none⟩ = some (.int .i64 t507) := (blk_cell BK512.out 1).trans rfl
          have hfz188_0 := blk_frozen BK512.out 0
          have hfz188_1 := blk_frozen BK512.out 1
          have hcz195_0 : wc.cell? ⟨gb513, 0, none⟩ = some (.int .i64 t508) := (blk_cell BK513.out 0).trans rfl
          have hcz195_1 : wc.cell? ⟨gb513, 1, none⟩ = some (.int .i64 t509) := (blk_cell BK513.out 1).trans rfl
          have hfz195_0 := blk_frozen BK513.out 0
          have hfz195_1 := blk_frozen BK513.out 1
          have hcz201_0 : wc.cell? ⟨gb510, 0, none⟩ = some (.int .i64 t502) := (blk_cell BK510.out 0).trans rfl
          have hcz201_1 : wc.cell? ⟨gb510, 1, none⟩ = some (.int .i64 t503) := (blk_cell BK510.out 1).trans rfl
          have hfz201_0 := blk_frozen BK510.out 0
          have hfz201_1 := blk_frozen BK510.out 1
          have hcz206_0 : wc.cell? ⟨gb511, 0, none⟩ = some (.int .i64 t504) := (blk_cell BK511.out 0).trans rfl
          have hcz206_1 : wc.cell? ⟨gb511, 1, none⟩ = some (.int .i64 t505) := (blk_cell BK511.out 1).trans rfl
          have hfz206_0 := blk_frozen BK511.out 0
          have hfz206_1 := blk_frozen BK511.out 1
          go_upto_region 10 with (first | ((with_reducible refine gate_callee (f := 21) rfl ?_); refine goesL_ (some 84) rfl rfl Try.func21 (by kernel_rfl) rfl #[.agg #[.int .i64 t506, .int .i64 t507], .agg #[.int .i64 t508, .int .i64 t509], .agg #[.int .i64 t502, .int .i64 t503], .agg #[.int .i64 t504, .int .i64 t505]] rfl al ?_; (with_reducible refine (impl_CrossAt.calls kj5 t506 t507 t508 t509 t502 t503 t504 t505 t528 t529 t530 t531 _ _ A172.out).mono ?_); rintro e w207 ⟨rfl, hb⟩; refine ⟨_, rfl, ?_⟩; have n0_ := Aside0.mk (blk_below (bf BK510.out) hb); have n1_ := Aside0.mk (blk_below (bf BK511.out) hb); have n2_ := Aside0.mk (blk_below (bf BK512.out) hb); have n3_ := Aside0.mk (blk_below (bf BK513.out) hb); have n4_ := Aside0.mk (blk_below (bf BK519.out) hb); have n5_ := Aside0.mk (blk_below (bf BK520.out) hb); have n6_ := Aside0.mk (blk_below (bf BK526.out) hb); have n7_ := Aside0.mk (blk_below (bf BK527.out) hb); have n8_ := Aside0.mk (below_step (lb HB.out) hb); clear BK510; clear BK511; clear BK512; clear BK513; clear BK519; clear BK520; clear BK526; clear BK527; clear HB; have BK510 := n0_; have BK511 := n1_; have BK512 := n2_; have BK513 := n3_; have BK519 := n4_; have BK520 := n5_; have BK526 := n6_; have BK527 := n7_; have HB := n8_; clear n0_ n1_ n2_ n3_ n4_ n5_ n6_ n7_ n8_; (try clear hb); (try clear hb2); (try clear hk); (try clear hi)) | ((with_reducible refine gate_dst (N := 13) rfl ?_); refine box_event ?hg (N := 13) ?hd (cs := #[.int .i64 0, .int .i64 0]) (t := 29) ?hr ?_; (case hd => rfl); (case hg => rfl); (case hr => first | (go_simp; done) | (go_simp; rfl)); intro gb533 hg w208 hbox hb; have n0_ := Aside0.mk (blk_below (bf BK510.out) hb); have n1_ := Aside0.mk (blk_below (bf BK511.out) hb); have n2_ := Aside0.mk (blk_below (bf BK512.out) hb); have n3_ := Aside0.mk (blk_below (bf BK513.out) hb); have n4_ := Aside0.mk (blk_below (bf BK519.out) hb); have n5_ := Aside0.mk (blk_below (bf BK520.out) hb); have n6_ := Aside0.mk (blk_below (bf BK526.out) hb); have n7_ := Aside0.mk (blk_below (bf BK527.out) hb); have n8_ := Aside0.mk (below_step (lb HB.out) hb); have n9_ := Aside0.mk (hbox); have n10_ := Aside0.mk ((by rw [hg]; exact (below_size (lb HB.out)) : w.heap.size ≤ gb533)); have n11_ := Aside0.mk ((by rw [hg]; exact (below_size (lb HB.out)) : w.heap.size ≤ gb533)); have n12_ := Aside0.mk ((by rw [hg]; exact Nat.ne_of_lt (blk_lt (bf BK510.out)) : gb510 ≠ gb533)); have n13_ := Aside0.mk ((by rw [hg]; exact Nat.ne_of_gt (blk_lt (bf BK510.out)) : gb533 ≠ gb510)); have n14_ := Aside0.mk ((by rw [hg]; exact Nat.ne_of_lt (blk_lt (bf BK511.out)) : gb511 ≠ gb533)); have n15_ := Aside0.mk ((by rw [hg]; exact Nat.ne_of_gt (blk_lt (bf BK511.out)) : gb533 ≠ gb511)); have n16_ := Aside0.mk ((by rw [hg]; exact Nat.ne_of_lt (blk_lt (bf BK512.out)) : gb512 ≠ gb533)); have n17_ := Aside0.mk ((by rw [hg]; exact Nat.ne_of_gt (blk_lt (bf BK512.out)) : gb533 ≠ gb512)); have n18_ := Aside0.mk ((by rw [hg]; exact Nat.ne_of_lt (blk_lt (bf BK513.out)) : gb513 ≠ gb533)); have n19_ := Aside0.mk ((by rw [hg]; exact Nat.ne_of_gt (blk_lt (bf BK513.out)) : gb533 ≠ gb513)); have n20_ := Aside0.mk ((by rw [hg]; exact Nat.ne_of_lt (blk_lt (bf BK519.out)) : gb519 ≠ gb533)); have n21_ := Aside0.mk ((by rw [hg]; exact Nat.ne_of_gt (blk_lt (bf BK519.out)) : gb533 ≠ gb519)); have n22_ := Aside0.mk ((by rw [hg]; exact Nat.ne_of_lt (blk_lt (bf BK520.out)) : gb520 ≠ gb533)); have n23_ := Aside0.mk ((by rw [hg]; exact Nat.ne_of_gt (blk_lt (bf BK520.out)) : gb533 ≠ gb520)); have n24_ := Aside0.mk ((by rw [hg]; exact Nat.ne_of_lt (blk_lt (bf BK526.out)) : gb526 ≠ gb533)); have n25_ := Aside0.mk ((by rw [hg]; exact Nat.ne_of_gt (blk_lt (bf BK526.out)) : gb533 ≠ gb526)); have n26_ := Aside0.mk ((by rw [hg]; exact Nat.ne_of_lt (blk_lt (bf BK527.out)) : gb527 ≠ gb533)); have n27_ := Aside0.mk ((by rw [hg]; exact Nat.ne_of_gt (blk_lt (bf BK527.out)) : gb533 ≠ gb527)); clear BK510; clear BK511; clear BK512; clear BK513; clear BK519; clear BK520; clear BK526; clear BK527; clear HB; have BK510 := n0_; have BK511 := n1_; have BK512 := n2_; have BK513 := n3_; have BK519 := n4_; have BK520 := n5_; have BK526 := n6_; have BK527 := n7_; have HB := n8_; have BK533 := n9_; have GW533 := n10_; have GE533 := n11_; have NB510_533 := n12_; have NB533_510 := n13_; have NB511_533 := n14_; have NB533_511 := n15_; have NB512_533 := n16_; have NB533_512 := n17_; have NB513_533 := n18_; have NB533_513 := n19_; have NB519_533 := n20_; have NB533_519 := n21_; have NB520_533 := n22_; have NB533_520 := n23_; have NB526_533 := n24_; have NB533_526 := n25_; have NB527_533 := n26_; have NB533_527 := n27_; clear n0_ n1_ n2_ n3_ n4_ n5_ n6_ n7_ n8_ n9_ n10_ n11_ n12_ n13_ n14_ n15_ n16_ n17_ n18_ n19_ n20_ n21_ n22_ n23_ n24_ n25_ n26_ n27_; clear hb hbox hg) | ((with_reducible refine gate_dst (N := 14) rfl ?_); refine box_event ?hg (N := 14) ?hd (cs := #[.int .i64 0, .int .i64 0]) (t := 29) ?hr ?_; (case hd => rfl); (case hg => rfl); (case hr => first | (go_simp; done) | (go_simp; rfl)); intro gb534 hg w209 hbox hb; have n0_ := Aside0.mk (blk_below (bf BK510.out) hb); have n1_ := Aside0.mk (blk_below (bf BK511.out) hb); have n2_ := Aside0.mk (blk_below (bf BK512.out) hb); have n3_ := Aside0.mk (blk_below (bf BK513.out) hb); have n4_ := Aside0.mk (blk_below (bf BK519.out) hb); have n5_ := Aside0.mk (blk_below (bf BK520.out) hb); have n6_ := Aside0.mk (blk_below (bf BK526.out) hb); have n7_ := Aside0.mk (blk_below (bf BK527.out) hb); have n8_ := Aside0.mk (blk_below (bf BK533.out) hb); have n9_ := Aside0.mk (below_step (lb HB.out) hb); have n10_ := Aside0.mk (hbox); have n11_ := Aside0.mk ((by rw [hg]; exact (below_size (lb HB.out)) : w.heap.size ≤ gb534)); have n12_ := Aside0.mk ((by rw [hg]; exact (below_size (lb HB.out)) : w.heap.size ≤ gb534)); have n13_ := Aside0.mk ((by rw [hg]; exact Nat.ne_of_lt (blk_lt (bf BK510.out)) : gb510 ≠ gb534)); have n14_ := Aside0.mk ((by rw [hg]; exact Nat.ne_of_gt (blk_lt (bf BK510.out)) : gb534 ≠ gb510)); have n15_ := Aside0.mk ((by rw [hg]; exact Nat.ne_of_lt (blk_lt (bf BK511.out)) : gb511 ≠ gb534)); have n16_ := Aside0.mk ((by rw [hg]; exact Nat.ne_of_gt (blk_lt (bf BK511.out)) : gb534 ≠ gb511)); have n17_ := Aside0.mk ((by rw [hg]; exact Nat.ne_of_lt (blk_lt (bf BK512.out)) : gb512 ≠ gb534)); have n18_ := Aside0.mk ((by rw [hg]; exact Nat.ne_of_gt (blk_lt (bf BK512.out)) : gb534 ≠ gb512)); have n19_ := Aside0.mk ((by rw [hg]; exact Nat.ne_of_lt (blk_lt (bf BK513.out)) : gb513 ≠ gb534)); have n20_ := Aside0.mk ((by rw [hg]; exact Nat.ne_of_gt (blk_lt (bf BK513.out)) : gb534 ≠ gb513)); have n21_ := Aside0.mk ((by rw [hg]; exact Nat.ne_of_lt (blk_lt (bf BK519.out)) : gb519 ≠ gb534)); have n22_ := Aside0.mk ((by rw [hg]; exact Nat.ne_of_gt (blk_lt (bf BK519.out)) : gb534 ≠ gb519)); have n23_ := Aside0.mk ((by rw [hg]; exact Nat.ne_of_lt (blk_lt (bf BK520.out)) : gb520 ≠ gb534)); have n24_ := Aside0.mk ((by rw [hg]; exact Nat.ne_of_gt (blk_lt (bf BK520.out)) : gb534 ≠ gb520)); have n25_ := Aside0.mk ((by rw [hg]; exact Nat.ne_of_lt (blk_lt (bf BK526.out)) : gb526 ≠ gb534)); have n26_ := Aside0.mk ((by rw [hg]; exact Nat.ne_of_gt (blk_lt (bf BK526.out)) : gb534 ≠ gb526)); have n27_ := Aside0.mk ((by rw [hg]; exact Nat.ne_of_lt (blk_lt (bf BK527.out)) : gb527 ≠ gb534)); have n28_ := Aside0.mk ((by rw [hg]; exact Nat.ne_of_gt (blk_lt (bf BK527.out)) : gb534 ≠ gb527)); have n29_ := Aside0.mk ((by rw [hg]; exact Nat.ne_of_lt (blk_lt (bf BK533.out)) : gb533 ≠ gb534)); have n30_ := Aside0.mk ((by rw [hg]; exact Nat.ne_of_gt (blk_lt (bf BK533.out)) : gb534 ≠ gb533)); clear BK510; clear BK511; clear BK512; clear BK513; clear BK519; clear BK520; clear BK526; clear BK527; clear BK533; clear HB; have BK510 := n0_; have BK511 := n1_; have BK512 := n2_; have BK513 := n3_; have BK519 := n4_; have BK520 := n5_; have BK526 := n6_; have BK527 := n7_; have BK533 := n8_; have HB := n9_; have BK534 := n10_; have GW534 := n11_; have GE534 := n12_; have NB510_534 := n13_; have NB534_510 := n14_; have NB511_534 := n15_; have NB534_511 := n16_; have NB512_534 := n17_; have NB534_512 := n18_; have NB513_534 := n19_; have NB534_513 := n20_; have NB519_534 := n21_; have NB534_519 := n22_; have NB520_534 := n23_; have NB534_520 := n24_; have NB526_534 := n25_; have NB534_526 := n26_; have NB527_534 := n27_; have NB534_527 := n28_; have NB533_534 := n29_; have NB534_533 := n30_; clear n0_ n1_ n2_ n3_ n4_ n5_ n6_ n7_ n8_ n9_ n10_ n11_ n12_ n13_ n14_ n15_ n16_ n17_ n18_ n19_ n20_ n21_ n22_ n23_ n24_ n25_ n26_ n27_ n28_ n29_ n30_; clear hb hbox hg; have hnc210 := NB510_533.out; have hnc211 := NB511_533.out; have hnc212 := NB512_533.out; have hnc213 := NB513_533.out; have hnb218 := NB533_534.out; have hnc218 := NB534_533.out; have hcz219_0 : w209.cell? ⟨gb533, 0, none⟩ = some (.int .i64 0) := (blk_cell BK533.out 0).trans rfl; have hcz219_1 : w209.cell? ⟨gb533, 1, none⟩ = some (.int .i64 0) := (blk_cell BK533.out 1).trans rfl; have hfz219_0 := blk_frozen BK533.out 0; have hfz219_1 := blk_frozen BK533.out 1; have hnc220 := NB510_534.out; have hnc221 := NB511_534.out; have hnc222 := NB512_534.out; have hnc223 := NB513_534.out; have hcz228_0 : w209.cell? ⟨gb534, 0, none⟩ = some (.int .i64 0) := (blk_cell BK534.out 0).trans rfl; have hcz228_1 : w209.cell? ⟨gb534, 1, none⟩ = some (.int .i64 0) := (blk_cell BK534.out 1).trans rfl; have hfz228_0 := blk_frozen BK534.out 0; have hfz228_1 := blk_frozen BK534.out 1; have hcz229_0 : w209.cell? ⟨gb511, 0, none⟩ = some (.int .i64 t504) := (blk_cell BK511.out 0).trans rfl; have hcz229_1 : w209.cell? ⟨gb511, 1, none⟩ = some (.int .i64 t505) := (blk_cell BK511.out 1).trans rfl; have hfz229_0 := blk_frozen BK511.out 0; have hfz229_1 := blk_frozen BK511.out 1; have hcz230_0 : w209.cell? ⟨gb510, 0, none⟩ = some (.int .i64 t502) := (blk_cell BK510.out 0).trans rfl; have hcz230_1 : w209.cell? ⟨gb510, 1, none⟩ = some (.int .i64 t503) := (blk_cell BK510.out 1).trans rfl; have hfz230_0 := blk_frozen BK510.out 0; have hfz230_1 := blk_frozen BK510.out 1; have hcz231_0 : w209.cell? ⟨gb512, 0, none⟩ = some (.int .i64 t506) := (blk_cell BK512.out 0).trans rfl; have hcz231_1 : w209.cell? ⟨gb512, 1, none⟩ = some (.int .i64 t507) := (blk_cell BK512.out 1).trans rfl; have hfz231_0 := blk_frozen BK512.out 0; have hfz231_1 := blk_frozen BK512.out 1; have hcz232_0 : w209.cell? ⟨gb513, 0, none⟩ = some (.int .i64 t508) := (blk_cell BK513.out 0).trans rfl; have hcz232_1 : w209.cell? ⟨gb513, 1, none⟩ = some (.int .i64 t509) := (blk_cell BK513.out 1).trans rfl; have hfz232_0 := blk_frozen BK513.out 0; have hfz232_1 := blk_frozen BK513.out 1) | ((with_reducible refine gate_callee (f := 21) rfl ?_); refine goesL_ (some 93) rfl rfl Try.func21 (by kernel_rfl) rfl #[.agg #[.int .i64 t504, .int .i64 t505], .agg #[.int .i64 t502, .int .i64 t503], .agg #[.int .i64 t506, .int .i64 t507], .agg #[.int .i64 t508, .int .i64 t509]] rfl al ?_; (with_reducible refine (impl_CrossAt.calls kj5 t504 t505 t502 t503 t506 t507 t508 t509 t535 t536 t537 t538 _ _ A173.out).mono ?_); rintro e w233 ⟨rfl, hb⟩; refine ⟨_, rfl, ?_⟩; have n0_ := Aside0.mk (blk_below (bf BK510.out) hb); have n1_ := Aside0.mk (blk_below (bf BK511.out) hb); have n2_ := Aside0.mk (blk_below (bf BK512.out) hb); have n3_ := Aside0.mk (blk_below (bf BK513.out) hb); have n4_ := Aside0.mk (blk_below (bf BK519.out) hb); have n5_ := Aside0.mk (blk_below (bf BK520.out) hb); have n6_ := Aside0.mk (blk_below (bf BK526.out) hb); have n7_ := Aside0.mk (blk_below (bf BK527.out) hb); have n8_ := Aside0.mk (blk_below (g := gb533) (o := .cells #[.int .i64 t528, .int .i64 t529] 29 (0, 0)) (by (with_reducible repeat (first | refine blk_drewN ?_ _ | refine blk_drew ?_ | refine blk_alloc ?_ _)); refine blk_far ?_ NB533_534.out _; (with_reducible repeat (first | refine blk_drewN ?_ _ | refine blk_drew ?_ | refine blk_alloc ?_ _)); refine blk_far ?_ NB533_534.out _; (with_reducible repeat (first | refine blk_drewN ?_ _ | refine blk_drew ?_ | refine blk_alloc ?_ _)); refine blk_put (cs := #[.int .i64 t528, .int .i64 0]) ?_ 1 _ rfl; (with_reducible repeat (first | refine blk_drewN ?_ _ | refine blk_drew ?_ | refine blk_alloc ?_ _)); refine blk_put (cs := #[.int .i64 0, .int .i64 0]) ?_ 0 _ rfl; (with_reducible repeat (first | refine blk_drewN ?_ _ | refine blk_drew ?_ | refine blk_alloc ?_ _)); exact BK533.out) hb); have n9_ := Aside0.mk (blk_below (g := gb534) (o := .cells #[.int .i64 t530, .int .i64 t531] 29 (0, 0)) (by (with_reducible repeat (first | refine blk_drewN ?_ _ | refine blk_drew ?_ | refine blk_alloc ?_ _)); refine blk_put (cs := #[.int .i64 t530, .int .i64 0]) ?_ 1 _ rfl; (with_reducible repeat (first | refine blk_drewN ?_ _ | refine blk_drew ?_ | refine blk_alloc ?_ _)); refine blk_put (cs := #[.int .i64 0, .int .i64 0]) ?_ 0 _ rfl; (with_reducible repeat (first | refine blk_drewN ?_ _ | refine blk_drew ?_ | refine blk_alloc ?_ _)); refine blk_far ?_ NB534_533.out _; (with_reducible repeat (first | refine blk_drewN ?_ _ | refine blk_drew ?_ | refine blk_alloc ?_ _)); refine blk_far ?_ NB534_533.out _; (with_reducible repeat (first | refine blk_drewN ?_ _ | refine blk_drew ?_ | refine blk_alloc ?_ _)); exact BK534.out) hb); have n10_ := Aside0.mk (below_step (lb HB.out) hb); clear BK510; clear BK511; clear BK512; clear BK513; clear BK519; clear BK520; clear BK526; clear BK527; clear BK533; clear BK534; clear HB; have BK510 := n0_; have BK511 := n1_; have BK512 := n2_; have BK513 := n3_; have BK519 := n4_; have BK520 := n5_; have BK526 := n6_; have BK527 := n7_; have BK533 := n8_; have BK534 := n9_; have HB := n10_; clear n0_ n1_ n2_ n3_ n4_ n5_ n6_ n7_ n8_ n9_ n10_; (try clear hb); (try clear hb2); (try clear hk); (try clear hi)) | ((with_reducible refine gate_dst (N := 16) rfl ?_); refine box_event ?hg (N := 16) ?hd (cs := #[.int .i64 0, .int .i64 0]) (t := 29) ?hr ?_; (case hd => rfl); (case hg => rfl); (case hr => first | (go_simp; done) | (go_simp; rfl)); intro gb540 hg w234 hbox hb; have n0_ := Aside0.mk (blk_below (bf BK510.out) hb); have n1_ := Aside0.mk (blk_below (bf BK511.out) hb); have n2_ := Aside0.mk (blk_below (bf BK512.out) hb); have n3_ := Aside0.mk (blk_below (bf BK513.out) hb); have n4_ := Aside0.mk (blk_below (bf BK519.out) hb); have n5_ := Aside0.mk (blk_below (bf BK520.out) hb); have n6_ := Aside0.mk (blk_below (bf BK526.out) hb); have n7_ := Aside0.mk (blk_below (bf BK527.out) hb); have n8_ := Aside0.mk (blk_below (bf BK533.out) hb); have n9_ := Aside0.mk (blk_below (bf BK534.out) hb); have n10_ := Aside0.mk (below_step (lb HB.out) hb); have n11_ := Aside0.mk (hbox); have n12_ := Aside0.mk ((by rw [hg]; exact (below_size (lb HB.out)) : w.heap.size ≤ gb540)); have n13_ := Aside0.mk ((by rw [hg]; exact (below_size (lb HB.out)) : w.heap.size ≤ gb540)); have n14_ := Aside0.mk ((by rw [hg]; exact Nat.ne_of_lt (blk_lt (bf BK510.out)) : gb510 ≠ gb540)); have n15_ := Aside0.mk ((by rw [hg]; exact Nat.ne_of_gt (blk_lt (bf BK510.out)) : gb540 ≠ gb510)); have n16_ := Aside0.mk ((by rw [hg]; exact Nat.ne_of_lt (blk_lt (bf BK511.out)) : gb511 ≠ gb540)); have n17_ := Aside0.mk ((by rw [hg]; exact Nat.ne_of_gt (blk_lt (bf BK511.out)) : gb540 ≠ gb511)); have n18_ := Aside0.mk ((by rw [hg]; exact Nat.ne_of_lt (blk_lt (bf BK512.out)) : gb512 ≠ gb540)); have n19_ := Aside0.mk ((by rw [hg]; exact Nat.ne_of_gt (blk_lt (bf BK512.out)) : gb540 ≠ gb512)); have n20_ := Aside0.mk ((by rw [hg]; exact Nat.ne_of_lt (blk_lt (bf BK513.out)) : gb513 ≠ gb540)); have n21_ := Aside0.mk ((by rw [hg]; exact Nat.ne_of_gt (blk_lt (bf BK513.out)) : gb540 ≠ gb513)); have n22_ := Aside0.mk ((by rw [hg]; exact Nat.ne_of_lt (blk_lt (bf BK519.out)) : gb519 ≠ gb540)); have n23_ := Aside0.mk ((by rw [hg]; exact Nat.ne_of_gt (blk_lt (bf BK519.out)) : gb540 ≠ gb519)); have n24_ := Aside0.mk ((by rw [hg]; exact Nat.ne_of_lt (blk_lt (bf BK520.out)) : gb520 ≠ gb540)); have n25_ := Aside0.mk ((by rw [hg]; exact Nat.ne_of_gt (blk_lt (bf BK520.out)) : gb540 ≠ gb520)); have n26_ := Aside0.mk ((by rw [hg]; exact Nat.ne_of_lt (blk_lt (bf BK526.out)) : gb526 ≠ gb540)); have n27_ := Aside0.mk ((by rw [hg]; exact Nat.ne_of_gt (blk_lt (bf BK526.out)) : gb540 ≠ gb526)); have n28_ := Aside0.mk ((by rw [hg]; exact Nat.ne_of_lt (blk_lt (bf BK527.out)) : gb527 ≠ gb540)); have n29_ := Aside0.mk ((by rw [hg]; exact Nat.ne_of_gt (blk_lt (bf BK527.out)) : gb540 ≠ gb527)); have n30_ := Aside0.mk ((by rw [hg]; exact Nat.ne_of_lt (blk_lt (bf BK533.out)) : gb533 ≠ gb540)); have n31_ := Aside0.mk ((by rw [hg]; exact Nat.ne_of_gt (blk_lt (bf BK533.out)) : gb540 ≠ gb533)); have n32_ := Aside0.mk ((by rw [hg]; exact Nat.ne_of_lt (blk_lt (bf BK534.out)) : gb534 ≠ gb540)); have n33_ := Aside0.mk ((by rw [hg]; exact Nat.ne_of_gt (blk_lt (bf BK534.out)) : gb540 ≠ gb534)); clear BK510; clear BK511; clear BK512; clear BK513; clear BK519; clear BK520; clear BK526; clear BK527; clear BK533; clear BK534; clear HB; have BK510 := n0_; have BK511 := n1_; have BK512 := n2_; have BK513 := n3_; have BK519 := n4_; have BK520 := n5_; have BK526 := n6_; have BK527 := n7_; have BK533 := n8_; have BK534 := n9_; have HB := n10_; have BK540 := n11_; have GW540 := n12_; have GE540 := n13_; have NB510_540 := n14_; have NB540_510 := n15_; have NB511_540 := n16_; have NB540_511 := n17_; have NB512_540 := n18_; have NB540_512 := n19_; have NB513_540 := n20_; have NB540_513 := n21_; have NB519_540 := n22_; have NB540_519 := n23_; have NB520_540 := n24_; have NB540_520 := n25_; have NB526_540 := n26_; have NB540_526 := n27_; have NB527_540 := n28_; have NB540_527 := n29_; have NB533_540 := n30_; have NB540_533 := n31_; have NB534_540 := n32_; have NB540_534 := n33_; clear n0_ n1_ n2_ n3_ n4_ n5_ n6_ n7_ n8_ n9_ n10_ n11_ n12_ n13_ n14_ n15_ n16_ n17_ n18_ n19_ n20_ n21_ n22_ n23_ n24_ n25_ n26_ n27_ n28_ n29_ n30_ n31_ n32_ n33_; clear hb hbox hg) | ((with_reducible refine gate_dst (N := 17) rfl ?_); refine box_event ?hg (N := 17) ?hd (cs := #[.int .i64 0, .int .i64 0]) (t := 29) ?hr ?_; (case hd => rfl); (case hg => rfl); (case hr => first | (go_simp; done) | (go_simp; rfl)); intro gb541 hg w235 hbox hb; have n0_ := Aside0.mk (blk_below (bf BK510.out) hb); have n1_ := Aside0.mk (blk_below (bf BK511.out) hb); have n2_ := Aside0.mk (blk_below (bf BK512.out) hb); have n3_ := Aside0.mk (blk_below (bf BK513.out) hb); have n4_ := Aside0.mk (blk_below (bf BK519.out) hb); have n5_ := Aside0.mk (blk_below (bf BK520.out) hb); have n6_ := Aside0.mk (blk_below (bf BK526.out) hb); have n7_ := Aside0.mk (blk_below (bf BK527.out) hb); have n8_ := Aside0.mk (blk_below (bf BK533.out) hb); have n9_ := Aside0.mk (blk_below (bf BK534.out) hb); have n10_ := Aside0.mk (blk_below (bf BK540.out) hb); have n11_ := Aside0.mk (below_step (lb HB.out) hb); have n12_ := Aside0.mk (hbox); have n13_ := Aside0.mk ((by rw [hg]; exact (below_size (lb HB.out)) : w.heap.size ≤ gb541)); have n14_ := Aside0.mk ((by rw [hg]; exact (below_size (lb HB.out)) : w.heap.size ≤ gb541)); have n15_ := Aside0.mk ((by rw [hg]; exact Nat.ne_of_lt (blk_lt (bf BK510.out)) : gb510 ≠ gb541)); have n16_ := Aside0.mk ((by rw [hg]; exact Nat.ne_of_gt (blk_lt (bf BK510.out)) : gb541 ≠ gb510)); have n17_ := Aside0.mk ((by rw [hg]; exact Nat.ne_of_lt (blk_lt (bf BK511.out)) : gb511 ≠ gb541)); have n18_ := Aside0.mk ((by rw [hg]; exact Nat.ne_of_gt (blk_lt (bf BK511.out)) : gb541 ≠ gb511)); have n19_ := Aside0.mk ((by rw [hg]; exact Nat.ne_of_lt (blk_lt (bf BK512.out)) : gb512 ≠ gb541)); have n20_ := Aside0.mk ((by rw [hg]; exact Nat.ne_of_gt (blk_lt (bf BK512.out)) : gb541 ≠ gb512)); have n21_ := Aside0.mk ((by rw [hg]; exact Nat.ne_of_lt (blk_lt (bf BK513.out)) : gb513 ≠ gb541)); have n22_ := Aside0.mk ((by rw [hg]; exact Nat.ne_of_gt (blk_lt (bf BK513.out)) : gb541 ≠ gb513)); have n23_ := Aside0.mk ((by rw [hg]; exact Nat.ne_of_lt (blk_lt (bf BK519.out)) : gb519 ≠ gb541)); have n24_ := Aside0.mk ((by rw [hg]; exact Nat.ne_of_gt (blk_lt (bf BK519.out)) : gb541 ≠ gb519)); have n25_ := Aside0.mk ((by rw [hg]; exact Nat.ne_of_lt (blk_lt (bf BK520.out)) : gb520 ≠ gb541)); have n26_ := Aside0.mk ((by rw [hg]; exact Nat.ne_of_gt (blk_lt (bf BK520.out)) : gb541 ≠ gb520)); have n27_ := Aside0.mk ((by rw [hg]; exact Nat.ne_of_lt (blk_lt (bf BK526.out)) : gb526 ≠ gb541)); have n28_ := Aside0.mk ((by rw [hg]; exact Nat.ne_of_gt (blk_lt (bf BK526.out)) : gb541 ≠ gb526)); have n29_ := Aside0.mk ((by rw [hg]; exact Nat.ne_of_lt (blk_lt (bf BK527.out)) : gb527 ≠ gb541)); have n30_ := Aside0.mk ((by rw [hg]; exact Nat.ne_of_gt (blk_lt (bf BK527.out)) : gb541 ≠ gb527)); have n31_ := Aside0.mk ((by rw [hg]; exact Nat.ne_of_lt (blk_lt (bf BK533.out)) : gb533 ≠ gb541)); have n32_ := Aside0.mk ((by rw [hg]; exact Nat.ne_of_gt (blk_lt (bf BK533.out)) : gb541 ≠ gb533)); have n33_ := Aside0.mk ((by rw [hg]; exact Nat.ne_of_lt (blk_lt (bf BK534.out)) : gb534 ≠ gb541)); have n34_ := Aside0.mk ((by rw [hg]; exact Nat.ne_of_gt (blk_lt (bf BK534.out)) : gb541 ≠ gb534)); have n35_ := Aside0.mk ((by rw [hg]; exact Nat.ne_of_lt (blk_lt (bf BK540.out)) : gb540 ≠ gb541)); have n36_ := Aside0.mk ((by rw [hg]; exact Nat.ne_of_gt (blk_lt (bf BK540.out)) : gb541 ≠ gb540)); clear BK510; clear BK511; clear BK512; clear BK513; clear BK519; clear BK520; clear BK526; clear BK527; clear BK533; clear BK534; clear BK540; clear HB; have BK510 := n0_; have BK511 := n1_; have BK512 := n2_; have BK513 := n3_; have BK519 := n4_; have BK520 := n5_; have BK526 := n6_; have BK527 := n7_; have BK533 := n8_; have BK534 := n9_; have BK540 := n10_; have HB := n11_; have BK541 := n12_; have GW541 := n13_; have GE541 := n14_; have NB510_541 := n15_; have NB541_510 := n16_; have NB511_541 := n17_; have NB541_511 := n18_; have NB512_541 := n19_; have NB541_512 := n20_; have NB513_541 := n21_; have NB541_513 := n22_; have NB519_541 := n23_; have NB541_519 := n24_; have NB520_541 := n25_; have NB541_520 := n26_; have NB526_541 := n27_; have NB541_526 := n28_; have NB527_541 := n29_; have NB541_527 := n30_; have NB533_541 := n31_; have NB541_533 := n32_; have NB534_541 := n33_; have NB541_534 := n34_; have NB540_541 := n35_; have NB541_540 := n36_; clear n0_ n1_ n2_ n3_ n4_ n5_ n6_ n7_ n8_ n9_ n10_ n11_ n12_ n13_ n14_ n15_ n16_ n17_ n18_ n19_ n20_ n21_ n22_ n23_ n24_ n25_ n26_ n27_ n28_ n29_ n30_ n31_ n32_ n33_ n34_ n35_ n36_; clear hb hbox hg; have hnb246 := NB540_541.out; have hnc246 := NB541_540.out; have hcz247_0 : w235.cell? ⟨gb540, 0, none⟩ = some (.int .i64 0) := (blk_cell BK540.out 0).trans rfl; have hcz247_1 : w235.cell? ⟨gb540, 1, none⟩ = some (.int .i64 0) := (blk_cell BK540.out 1).trans rfl; have hfz247_0 := blk_frozen BK540.out 0; have hfz247_1 := blk_frozen BK540.out 1; have hcz258_0 : w235.cell? ⟨gb541, 0, none⟩ = some (.int .i64 0) := (blk_cell BK541.out 0).trans rfl; have hcz258_1 : w235.cell? ⟨gb541, 1, none⟩ = some (.int .i64 0) := (blk_cell BK541.out 1).trans rfl; have hfz258_0 := blk_frozen BK541.out 0; have hfz258_1 := blk_frozen BK541.out 1; have hcz259_0 : w235.cell? ⟨gb511, 0, none⟩ = some (.int .i64 t504) := (blk_cell BK511.out 0).trans rfl; have hcz259_1 : w235.cell? ⟨gb511, 1, none⟩ = some (.int .i64 t505) := (blk_cell BK511.out 1).trans rfl; have hfz259_0 := blk_frozen BK511.out 0; have hfz259_1 := blk_frozen BK511.out 1; have hcz260_0 : w235.cell? ⟨gb510, 0, none⟩ = some (.int .i64 t502) := (blk_cell BK510.out 0).trans rfl; have hcz260_1 : w235.cell? ⟨gb510, 1, none⟩ = some (.int .i64 t503) := (blk_cell BK510.out 1).trans rfl; have hfz260_0 := blk_frozen BK510.out 0; have hfz260_1 := blk_frozen BK510.out 1; have hcz264_0 : w235.cell? ⟨gb520, 0, none⟩ = some (.int .i64 t516) := (blk_cell BK520.out 0).trans rfl; have hcz264_1 : w235.cell? ⟨gb520, 1, none⟩ = some (.int .i64 t517) := (blk_cell BK520.out 1).trans rfl; have hfz264_0 := blk_frozen BK520.out 0; have hfz264_1 := blk_frozen BK520.out 1; have hcz267_0 : w235.cell? ⟨gb519, 0, none⟩ = some (.int .i64 t514) := (blk_cell BK519.out 0).trans rfl; have hcz267_1 : w235.cell? ⟨gb519, 1, none⟩ = some (.int .i64 t515) := (blk_cell BK519.out 1).trans rfl; have hfz267_0 := blk_frozen BK519.out 0; have hfz267_1 := blk_frozen BK519.out 1; have hcz268_0 : w235.cell? ⟨gb513, 0, none⟩ = some (.int .i64 t508) := (blk_cell BK513.out 0).trans rfl; have hcz268_1 : w235.cell? ⟨gb513, 1, none⟩ = some (.int .i64 t509) := (blk_cell BK513.out 1).trans rfl; have hfz268_0 := blk_frozen BK513.out 0; have hfz268_1 := blk_frozen BK513.out 1; have hcz269_0 : w235.cell? ⟨gb512, 0, none⟩ = some (.int .i64 t506) := (blk_cell BK512.out 0).trans rfl; have hcz269_1 : w235.cell? ⟨gb512, 1, none⟩ = some (.int .i64 t507) := (blk_cell BK512.out 1).trans rfl; have hfz269_0 := blk_frozen BK512.out 0; have hfz269_1 := blk_frozen BK512.out 1; have hcz270_0 : w235.cell? ⟨gb533, 0, none⟩ = some (.int .i64 t528) := (blk_cell BK533.out 0).trans rfl; have hcz270_1 : w235.cell? ⟨gb533, 1, none⟩ = some (.int .i64 t529) := (blk_cell BK533.out 1).trans rfl; have hfz270_0 := blk_frozen BK533.out 0; have hfz270_1 := blk_frozen BK533.out 1; have hcz271_0 : w235.cell? ⟨gb534, 0, none⟩ = some (.int .i64 t530) := (blk_cell BK534.out 0).trans rfl; have hcz271_1 : w235.cell? ⟨gb534, 1, none⟩ = some (.int .i64 t531) := (blk_cell BK534.out 1).trans rfl; have hfz271_0 := blk_frozen BK534.out 0; have hfz271_1 := blk_frozen BK534.out 1))
          refine laws_FnCross.anew (fun w' => (w'.heap[gb510]? = some (.cells #[.int .i64 t502, .int .i64 t503] 25 (0, 0)) ∧ w'.heap[gb511]? = some (.cells #[.int .i64 t504, .int .i64 t505] 25 (0, 0)) ∧ w'.heap[gb512]? = some (.cells #[.int .i64 t506, .int .i64 t507] 25 (0, 0)) ∧ w'.heap[gb513]? = some (.cells #[.int .i64 t508, .int .i64 t509] 25 (0, 0)) ∧ w'.heap[gb519]? = some (.cells #[.int .i64 t514, .int .i64 t515] 29 (0, 0)) ∧ w'.heap[gb520]? = some (.cells #[.int .i64 t516, .int .i64 t517] 29 (0, 0)) ∧ w'.heap[gb533]? = some (.cells #[.int .i64 t528, .int .i64 t529] 29 (0, 0)) ∧ w'.heap[gb534]? = some (.cells #[.int .i64 t530, .int .i64 t531] 29 (0, 0)) ∧ w'.heap[gb540]? = some (.cells #[.int .i64 t535, .int .i64 t536] 29 (0, 0)) ∧ w'.heap[gb541]? = some (.cells #[.int .i64 t537, .int .i64 t538] 29 (0, 0))) ∧ Below w.heap.size w w') ⟨⟨bf BK510.out, bf BK511.out, bf BK512.out, bf BK513.out, bf BK519.out, bf BK520.out, bf BK533.out, bf BK534.out, (by refine blk_far ?_ NB540_541.out _; refine blk_far ?_ NB540_541.out _; refine blk_put (cs := #[.int .i64 t535, .int .i64 0]) ?_ 1 _ rfl; refine blk_put (cs := #[.int .i64 0, .int .i64 0]) ?_ 0 _ rfl; exact BK540.out), (by refine blk_put (cs := #[.int .i64 t537, .int .i64 0]) ?_ 1 _ rfl; refine blk_put (cs := #[.int .i64 0, .int .i64 0]) ?_ 0 _ rfl; refine blk_far ?_ NB541_540.out _; refine blk_far ?_ NB541_540.out _; exact BK541.out)⟩, lb HB.out⟩ ?_
          clear HB BK510 BK511 BK512 BK513 BK519 BK520 BK533 BK534 BK540 BK541
          rintro w9 ⟨⟨B510, B511, B512, B513, B519, B520, B533, B534, B540, B541⟩, HB0⟩
          have HB := Aside0.mk HB0
          clear HB0
          have y510_0 : w9.cell? ⟨gb510, 0, none⟩ = some (.int .i64 t502) := (blk_cell B510 0).trans rfl
          have y510_1 : w9.cell? ⟨gb510, 1, none⟩ = some (.int .i64 t503) := (blk_cell B510 1).trans rfl
          have y511_0 : w9.cell? ⟨gb511, 0, none⟩ = some (.int .i64 t504) := (blk_cell B511 0).trans rfl
          have y511_1 : w9.cell? ⟨gb511, 1, none⟩ = some (.int .i64 t505) := (blk_cell B511 1).trans rfl
          have y512_0 : w9.cell? ⟨gb512, 0, none⟩ = some (.int .i64 t506) := (blk_cell B512 0).trans rfl
          have y512_1 : w9.cell? ⟨gb512, 1, none⟩ = some (.int .i64 t507) := (blk_cell B512 1).trans rfl
          have y513_0 : w9.cell? ⟨gb513, 0, none⟩ = some (.int .i64 t508) := (blk_cell B513 0).trans rfl
          have y513_1 : w9.cell? ⟨gb513, 1, none⟩ = some (.int .i64 t509) := (blk_cell B513 1).trans rfl
          have y519_0 : w9.cell? ⟨gb519, 0, none⟩ = some (.int .i64 t514) := (blk_cell B519 0).trans rfl
          have y519_1 : w9.cell? ⟨gb519, 1, none⟩ = some (.int .i64 t515) := (blk_cell B519 1).trans rfl
          have y520_0 : w9.cell? ⟨gb520, 0, none⟩ = some (.int .i64 t516) := (blk_cell B520 0).trans rfl
          have y520_1 : w9.cell? ⟨gb520, 1, none⟩ = some (.int .i64 t517) := (blk_cell B520 1).trans rfl
          have y533_0 : w9.cell? ⟨gb533, 0, none⟩ = some (.int .i64 t528) := (blk_cell B533 0).trans rfl
          have y533_1 : w9.cell? ⟨gb533, 1, none⟩ = some (.int .i64 t529) := (blk_cell B533 1).trans rfl
          have y534_0 : w9.cell? ⟨gb534, 0, none⟩ = some (.int .i64 t530) := (blk_cell B534 0).trans rfl
          have y534_1 : w9.cell? ⟨gb534, 1, none⟩ = some (.int .i64 t531) := (blk_cell B534 1).trans rfl
          have y540_0 : w9.cell? ⟨gb540, 0, none⟩ = some (.int .i64 t535) := (blk_cell B540 0).trans rfl
          have y540_1 : w9.cell? ⟨gb540, 1, none⟩ = some (.int .i64 t536) := (blk_cell B540 1).trans rfl
          have y541_0 : w9.cell? ⟨gb541, 0, none⟩ = some (.int .i64 t537) := (blk_cell B541 0).trans rfl
          have y541_1 : w9.cell? ⟨gb541, 1, none⟩ = some (.int .i64 t538) := (blk_cell B541 1).trans rfl
          clear B510 B511 B512 B513 B519 B520 B533 B534 B540 B541
          go_upto_region 12 with fail
          by_cases c174 : t532 = true
          · subst c174
            have H1 : (if t539 = true then (if (t528 == t514 && (t529 == t515)) = true then (if (t530 == t516 && (t531 == t517)) = true then (if (t535 == t514 && (t536 == t515)) = true then (if (t537 == t516 && (t538 == t517)) = true then (if (wrap64 ((wrap64 ((wrap64 (t504 - t502)) * (wrap64 (t516 - (wrap64 (t503 * t517)))))) * t515)) = (wrap64 ((wrap64 ((wrap64 (t505 - t503)) * (wrap64 (t514 - (wrap64 (t502 * t515)))))) * t517)) then (some ((wrap64 ((wrap64 ((wrap64 (t508 - t506)) * (wrap64 (t516 - (wrap64 (t507 * t517)))))) * t515)) == (wrap64 ((wrap64 ((wrap64 (t509 - t507)) * (wrap64 (t514 - (wrap64 (t506 * t515)))))) * t517)))) else (some false)) else (some false)) else (some false)) else (some false)) else (some false)) else (some false)) = some r := by rw [if_pos rfl] at H; exact H
            clear H
            have H := H1
            clear H1
            by_cases c175 : t539 = true
            · subst c175
              have H1 : (if (t528 == t514 && (t529 == t515)) = true then (if (t530 == t516 && (t531 == t517)) = true then (if (t535 == t514 && (t536 == t515)) = true then (if (t537 == t516 && (t538 == t517)) = true then (if (wrap64 ((wrap64 ((wrap64 (t504 - t502)) * (wrap64 (t516 - (wrap64 (t503 * t517)))))) * t515)) = (wrap64 ((wrap64 ((wrap64 (t505 - t503)) * (wrap64 (t514 - (wrap64 (t502 * t515)))))) * t517)) then (some ((wrap64 ((wrap64 ((wrap64 (t508 - t506)) * (wrap64 (t516 - (wrap64 (t507 * t517)))))) * t515)) == (wrap64 ((wrap64 ((wrap64 (t509 - t507)) * (wrap64 (t514 - (wrap64 (t506 * t515)))))) * t517)))) else (some false)) else (some false)) else (some false)) else (some false)) else (some false)) = some r := by rw [if_pos rfl] at H; exact H
              clear H
              have H := H1
              clear H1
              by_cases c176 : (t528 == t514 && (t529 == t515)) = true
              · rw [if_pos c176] at H
                have c176b0 : (t528 == t514 && (t529 == t515)) = true := c176
                (try (have c176b1 : decide (t528 = t514 && (t529 == t515)) = true := by simpa using c176))
                (try (have c176b2 : (t528 == t514 && (t529 == t515)) = true := by simpa using c176))
                clear c176
                by_cases c177 : (t530 == t516 && (t531 == t517)) = true
                · rw [if_pos c177] at H
                  have c177b0 : (t530 == t516 && (t531 == t517)) = true := c177
                  (try (have c177b1 : decide (t530 = t516 && (t531 == t517)) = true := by simpa using c177))
                  (try (have c177b2 : (t530 == t516 && (t531 == t517)) = true := by simpa using c177))
                  clear c177
                  by_cases c178 : (t535 == t514 && (t536 == t515)) = true
                  · rw [if_pos c178] at H
                    have c178b0 : (t535 == t514 && (t536 == t515)) = true := c178
                    (try (have c178b1 : decide (t535 = t514 && (t536 == t515)) = true := by simpa using c178))
                    (try (have c178b2 : (t535 == t514 && (t536 == t515)) = true := by simpa using c178))
                    clear c178
                    by_cases c179 : (t537 == t516 && (t538 == t517)) = true
                    · rw [if_pos c179] at H
                      have c179b0 : (t537 == t516 && (t538 == t517)) = true := c179
                      (try (have c179b1 : decide (t537 = t516 && (t538 == t517)) = true := by simpa using c179))
                      (try (have c179b2 : (t537 == t516 && (t538 == t517)) = true := by simpa using c179))
                      clear c179
                      by_cases c180 : (wrap64 ((wrap64 ((wrap64 (t504 - t502)) * (wrap64 (t516 - (wrap64 (t503 * t517)))))) * t515)) = (wrap64 ((wrap64 ((wrap64 (t505 - t503)) * (wrap64 (t514 - (wrap64 (t502 * t515)))))) * t517))
                      · rw [if_pos c180] at H
                        have c180b0 : ((wrap64 ((wrap64 ((wrap64 (t504 - t502)) * (wrap64 (t516 - (wrap64 (t503 * t517)))))) * t515)) == (wrap64 ((wrap64 ((wrap64 (t505 - t503)) * (wrap64 (t514 - (wrap64 (t502 * t515)))))) * t517))) = true := beq_iff_eq.mpr c180
                        have c180b1 : ((wrap64 ((wrap64 ((wrap64 (t504 - t502)) * (wrap64 (t516 - (wrap64 (t503 * t517)))))) * t515)) != (wrap64 ((wrap64 ((wrap64 (t505 - t503)) * (wrap64 (t514 - (wrap64 (t502 * t515)))))) * t517))) = false := bne_eq_false_iff_eq.mpr c180
                        clear c180
                        obtain rfl := Option.some.inj H
                        go_wp2_with fail
                        go_ret
                        exact ⟨er, lb HB.out⟩
                      · rw [if_neg c180] at H
                        have c180b0 : ((wrap64 ((wrap64 ((wrap64 (t504 - t502)) * (wrap64 (t516 - (wrap64 (t503 * t517)))))) * t515)) == (wrap64 ((wrap64 ((wrap64 (t505 - t503)) * (wrap64 (t514 - (wrap64 (t502 * t515)))))) * t517))) = false := beq_eq_false_iff_ne.mpr c180
                        have c180b1 : ((wrap64 ((wrap64 ((wrap64 (t504 - t502)) * (wrap64 (t516 - (wrap64 (t503 * t517)))))) * t515)) != (wrap64 ((wrap64 ((wrap64 (t505 - t503)) * (wrap64 (t514 - (wrap64 (t502 * t515)))))) * t517))) = true := bne_iff_ne.mpr c180
                        obtain rfl := Option.some.inj H
                        go_wp2_with fail
                        go_ret
                        exact ⟨er, lb HB.out⟩
                    · rw [if_neg c179] at H
                      have c179b0 : (t537 == t516 && (t538 == t517)) = false := by simpa using c179
                      (try (have c179b1 : decide (t537 = t516 && (t538 == t517)) = false := by simpa using c179))
                      (try (have c179b2 : (t537 == t516 && (t538 == t517)) = false := by simpa using c179))
                      (try (have c179b3 : ¬ (t537 = t516 && (t538 == t517)) := by simpa using c179))
                      clear c179
                      obtain rfl := Option.some.inj H
                      go_wp2_with fail
                      go_ret
                      exact ⟨er, lb HB.out⟩
                  · rw [if_neg c178] at H
                    have c178b0 : (t535 == t514 && (t536 == t515)) = false := by simpa using c178
                    (try (have c178b1 : decide (t535 = t514 && (t536 == t515)) = false := by simpa using c178))
                    (try (have c178b2 : (t535 == t514 && (t536 == t515)) = false := by simpa using c178))
                    (try (have c178b3 : ¬ (t535 = t514 && (t536 == t515)) := by simpa using c178))
                    clear c178
                    obtain rfl := Option.some.inj H
                    go_wp2_with fail
                    go_ret
                    exact ⟨er, lb HB.out⟩
                · rw [if_neg c177] at H
                  have c177b0 : (t530 == t516 && (t531 == t517)) = false := by simpa using c177
                  (try (have c177b1 : decide (t530 = t516 && (t531 == t517)) = false := by simpa using c177))
                  (try (have c177b2 : (t530 == t516 && (t531 == t517)) = false := by simpa using c177))
                  (try (have c177b3 : ¬ (t530 = t516 && (t531 == t517)) := by simpa using c177))
                  clear c177
                  obtain rfl := Option.some.inj H
                  go_wp2_with fail
                  go_ret
                  exact ⟨er, lb HB.out⟩
              · rw [if_neg c176] at H
                have c176b0 : (t528 == t514 && (t529 == t515)) = false := by simpa using c176
                (try (have c176b1 : decide (t528 = t514 && (t529 == t515)) = false := by simpa using c176))
                (try (have c176b2 : (t528 == t514 && (t529 == t515)) = false := by simpa using c176))
                (try (have c176b3 : ¬ (t528 = t514 && (t529 == t515)) := by simpa using c176))
                clear c176
                obtain rfl := Option.some.inj H
                go_wp2_with fail
                go_ret
                exact ⟨er, lb HB.out⟩
            · replace c175 := Bool.eq_false_iff.mpr c175
              subst c175
              have H1 : (some false) = some r := by rw [if_neg (show ¬ (false = true) by decide)] at H; exact H
              clear H
              have H := H1
              clear H1
              obtain rfl := Option.some.inj H
              go_wp2_with fail
              go_ret
              exact ⟨er, lb HB.out⟩
          · replace c174 := Bool.eq_false_iff.mpr c174
            subst c174
            have H1 : (some false) = some r := by rw [if_neg (show ¬ (false = true) by decide)] at H; exact H
            clear H
            have H := H1
            clear H1
            obtain rfl := Option.some.inj H
            go_wp2_with fail
            go_ret
            exact ⟨er, lb HB.out⟩

/-- THE ONE PURE STATEMENT of laws_FnCross: yours. -/
def laws_FnCross.Pure : Prop := ∀ (l0 : List Int), l0.length ≤ maxLen → l0.length * 1 ≤ 140737488351232 → (∀ x ∈ l0, (Lit.int .u8 x).wf = true) → ∃ k, laws_FnCross.f k l0 = some true
theorem laws_FnCross.walk (P : laws_FnCross.Pure) (a0 : Option Addr) (len0 cap0 : Nat) (z0 : List Int) (w : World) (w0 : (a0 = none ∧ len0 = 0 ∧ cap0 = 0 ∧ z0 = []) ∨ ∃ x, a0 = some x ∧ len0 ≤ cap0 ∧ cap0 ≤ maxLen ∧ z0.length = cap0 ∧ (∀ i, i < z0.length → w.cell? (x.add i) = some (.int .u8 (z0.getD i 0))) ∧ ∀ n ∈ z0, (Lit.int .u8 n).wf = true) (y0 : len0 * 1 ≤ 140737488351232) :
    Calls Try.prog 9 #[.slice a0 len0 cap0] w fun e w' => e = .returned (.bool true) ∧ Below w.heap.size w w' := by
  obtain ⟨l0, rfl, hr0, hm0, hw0, hc0⟩ := ReadsInt.ofRowC w0
  obtain ⟨k, h⟩ := P l0 hm0 y0 hw0
  refine (laws_FnCross.calls k _ _ l0 true w (Kd.C_of_reads (d := (0 : Int)) (h1 := fun _ => rfl) hr0) hc0 h).mono ?_
  rintro e w' ⟨rfl, hd⟩
  exact ⟨rfl, hd⟩

end Go.Proofs.Ytgoejfdciejikaa.P

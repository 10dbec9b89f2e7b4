import Derived.Test.YtfonigbkoligmaaPx0
import Derived.Test.YtfonigbkoligmaaPx2
import Derived.Test.YtfonigbkoligmaaPx3
import Derived.Test.YtfonigbkoligmaaPx4
import Derived.Test.YtfonigbkoligmaaPx5
namespace Go.Proofs.Ytfonigbkoligmaa.P
open Go.RowKit Go.Proofs.YtfonigbkoligmaaW.PrintWords Go.Proofs.YtfonigbkoligmaaW.PrintLast Go.Proofs.YtfonigbkoligmaaW.PrintMore
attribute [local go_sem] max2_int min2_int max_two min_two max_three min_three max_four min_four
set_option linter.unusedVariables false
set_option linter.unusedSimpArgs false
def spec_l92Poly.l0 : Nat → List (S33) → Int → Int → List Int → Int → Option ((List (S33)) × Int)
 | 0, _, _, _, _, _ => none
 | k + 1, x3, x4, x5, x1000, x1001 => if x5 < x4 then ((spec_l91Point.f k x1000 x1001).bind fun bt202 => (if x3.length < 8796093022208 then (spec_l92Poly.l0 k (x3 ++ [(⟨bt202.1, bt202.2.1⟩ : S33)]) x4 (wrap64 (x5 + 1)) x1000 bt202.2.2) else (none))) else (some (x3, x1001))
def spec_l92Poly.f (k : Nat) (s0_0 : List Int) (s0_1 : Int) : Option ((List (S33)) × Int) := (spec_l6Rd_pick.f k s0_0 s0_1 8).bind fun bt195 => (if bt195.1 = 0 then ((spec_l6Rd_pick.f k s0_0 bt195.2 6).bind fun bt200 => (spec_l92Poly.l0 k (([] : List (S33))) bt200.1 0 s0_0 bt200.2)) else (if bt195.1 = 1 then ((spec_l92Box.f k s0_0 bt195.2).bind fun bt208 => (some (bt208.1, bt208.2))) else (if bt195.1 = 2 then ((spec_l92Box.f k s0_0 bt195.2).bind fun bt212 => (some (bt212.1, bt212.2))) else (if bt195.1 = 3 then ((spec_l92Box.f k s0_0 bt195.2).bind fun bt216 => (some (bt216.1, bt216.2))) else ((spec_l92Star.f k s0_0 bt195.2).bind fun bt220 => ((spec_l6Rd_pick.f k s0_0 bt220.2 5).bind fun bt224 => (if bt224.1 = 0 then ((spec_PolyBack.f k bt220.1).bind fun bt226 => (some (bt226.1, bt224.2))) else (some (bt220.1, bt224.2)))))))))
theorem spec_l92Poly.mono_l : ∀ k, (∀ y0 y1 y2 y3 y4, LeO (spec_l92Poly.l0 k y0 y1 y2 y3 y4) (spec_l92Poly.l0 (k + 1) y0 y1 y2 y3 y4))
 | 0 => fun _ _ _ _ _ r h => by simp [spec_l92Poly.l0] at h
 | k + 1 => by
  have ih0 := spec_l92Poly.mono_l k
  ·intro y0 y1 y2 y3 y4
   unfold spec_l92Poly.l0
   repeat' first
   | (with_reducible exact ih0 _ _ _ _ _)
   | (with_reducible exact spec_PolyBack.mono _ _)
   | (with_reducible exact spec_l6Rd_pick.mono _ _ _ _)
   | (with_reducible exact spec_l91Point.mono _ _ _)
   | (with_reducible exact spec_l92Box.mono _ _ _)
   | (with_reducible exact spec_l92Star.mono _ _ _)
   | (with_reducible exact LeO.refl _)
   | (with_reducible exact LeO.none _)
   | (with_reducible refine LeO.ite ?_ ?_)
   | (with_reducible refine LeO.bind ?_ (fun _ => ?_))
   | exact ih0 _ _ _ _ _
   | exact spec_PolyBack.mono _ _
   | exact spec_l6Rd_pick.mono _ _ _ _
   | exact spec_l91Point.mono _ _ _
   | exact spec_l92Box.mono _ _ _
   | exact spec_l92Star.mono _ _ _
   | exact LeO.none _
   | refine LeO.ite ?_ ?_
   | refine LeO.bind ?_ (fun _ => ?_)
theorem spec_l92Poly.mono : ∀ a0 a1 k, LeO (spec_l92Poly.f k a0 a1) (spec_l92Poly.f (k + 1) a0 a1) := by
 intro a0 a1 k
 have ih0 := spec_l92Poly.mono_l k
 unfold spec_l92Poly.f
 repeat' first
   | (with_reducible exact ih0 _ _ _ _ _)
   | (with_reducible exact spec_PolyBack.mono _ _)
   | (with_reducible exact spec_l6Rd_pick.mono _ _ _ _)
   | (with_reducible exact spec_l91Point.mono _ _ _)
   | (with_reducible exact spec_l92Box.mono _ _ _)
   | (with_reducible exact spec_l92Star.mono _ _ _)
   | (with_reducible exact LeO.refl _)
   | (with_reducible exact LeO.none _)
   | (with_reducible refine LeO.ite ?_ ?_)
   | (with_reducible refine LeO.bind ?_ (fun _ => ?_))
   | exact ih0 _ _ _ _ _
   | exact spec_PolyBack.mono _ _
   | exact spec_l6Rd_pick.mono _ _ _ _
   | exact spec_l91Point.mono _ _ _
   | exact spec_l92Box.mono _ _ _
   | exact spec_l92Star.mono _ _ _
   | exact LeO.none _
   | refine LeO.ite ?_ ?_
   | refine LeO.bind ?_ (fun _ => ?_)
set_option maxHeartbeats 8000000 in
set_option maxRecDepth 100000 in
theorem spec_l92Poly.calls (k : Nat) (g : Nat) (s0_0 : List Int) (s0_1 : Int) (r1 : List (S33)) (r2 : Int) (w0 w : World) (hI : IsS93 w0 w g s0_0 s0_1) (hB : Below w0.heap.size w0 w) (h : spec_l92Poly.f k s0_0 s0_1 = some (r1, r2)) :
  Calls Try.prog 53 #[.pointer (some ⟨g, 0, none⟩)] w fun e w' => ∃ v0_ : Value, e = .returned (v0_) ∧ Kd.Q k33 33 w' w.heap.size (fun _ => True) v0_ r1 ∧ IsS93 w0 w' g s0_0 r2 ∧ Below w0.heap.size w0 w' ∧ KeepBut w w' g none := by
 have HI0 := Aside0.mk hI
 have HK := Aside0.mk (KeepBut.refl w g none)
 have HL := Aside0.mk hB.size
 clear hI
 have HW0 := Aside0.mk hB.size
 have HB := Aside0.mk hB
 clear hB
 have H : ((spec_l6Rd_pick.f k s0_0 s0_1 8).bind fun bt195 => (if bt195.1 = 0 then ((spec_l6Rd_pick.f k s0_0 bt195.2 6).bind fun bt200 => (spec_l92Poly.l0 k (([] : List (S33))) bt200.1 0 s0_0 bt200.2)) else (if bt195.1 = 1 then ((spec_l92Box.f k s0_0 bt195.2).bind fun bt208 => (some (bt208.1, bt208.2))) else (if bt195.1 = 2 then ((spec_l92Box.f k s0_0 bt195.2).bind fun bt212 => (some (bt212.1, bt212.2))) else (if bt195.1 = 3 then ((spec_l92Box.f k s0_0 bt195.2).bind fun bt216 => (some (bt216.1, bt216.2))) else ((spec_l92Star.f k s0_0 bt195.2).bind fun bt220 => ((spec_l6Rd_pick.f k s0_0 bt220.2 5).bind fun bt224 => (if bt224.1 = 0 then ((spec_PolyBack.f k bt220.1).bind fun bt226 => (some (bt226.1, bt224.2))) else (some (bt220.1, bt224.2)))))))))) = some (r1, r2) := h
 clear h
 replace H := Option.bind_eq_some_iff.mp H
 obtain ⟨⟨t195, t196⟩, A20, H⟩ := H
 replace H : (if t195 = 0 then ((spec_l6Rd_pick.f k s0_0 t196 6).bind fun bt200 => (spec_l92Poly.l0 k (([] : List (S33))) bt200.1 0 s0_0 bt200.2)) else (if t195 = 1 then ((spec_l92Box.f k s0_0 t196).bind fun bt208 => (some (bt208.1, bt208.2))) else (if t195 = 2 then ((spec_l92Box.f k s0_0 t196).bind fun bt212 => (some (bt212.1, bt212.2))) else (if t195 = 3 then ((spec_l92Box.f k s0_0 t196).bind fun bt216 => (some (bt216.1, bt216.2))) else ((spec_l92Star.f k s0_0 t196).bind fun bt220 => ((spec_l6Rd_pick.f k s0_0 bt220.2 5).bind fun bt224 => (if bt224.1 = 0 then ((spec_PolyBack.f k bt220.1).bind fun bt226 => (some (bt226.1, bt224.2))) else (some (bt220.1, bt224.2))))))))) = some (r1, r2) := H
 have A2 := Aside0.mk A20
 clear A20
 by_cases c3 : t195 = 0
 ·rw [if_pos c3] at H
  have c3b0 : (t195 == 0) = true := beq_iff_eq.mpr c3
  have c3b1 : (t195 != 0) = false := bne_eq_false_iff_eq.mpr c3
  clear c3
  obtain ⟨y197, hy197⟩ : ∃ y_ : List (S33), y_ = (([] : List (S33))) := ⟨_, rfl⟩
  replace H : ((spec_l6Rd_pick.f k s0_0 t196 6).bind fun bt200 => (spec_l92Poly.l0 k y197 bt200.1 0 s0_0 bt200.2)) = some (r1, r2) := by first | (rw [hy197]; with_reducible exact H) | (have H2_ := (Option.bind_some _ _).symm.trans H; rw [hy197]; with_reducible exact H2_) | (have H2_ := (Option.bind_some _ _).symm.trans H; with_reducible exact H2_) | with_reducible exact H | (rw [hy197]; exact H) | exact H
  have Ny197 := Aside0.mk hy197
  clear hy197
  replace H := Option.bind_eq_some_iff.mp H
  obtain ⟨⟨t200, t201⟩, A40, H⟩ := H
  replace H : (spec_l92Poly.l0 k y197 t200 0 s0_0 t201) = some (r1, r2) := H
  have A4 := Aside0.mk A40
  clear A40
  have H' := Aside0.mk H
  clear H
  go_enter Try.func53, Try.ntmps53
  go_wp2_with (first | ((with_reducible refine gate_callee (f := 65) rfl ?_); refine goesL_ (some 10) rfl rfl Try.func65 (by kernel_rfl) rfl #[.pointer (some ⟨g, 0, none⟩), .int .i64 8] rfl al ?_; (with_reducible refine (spec_l6Rd_pick.calls k g s0_0 s0_1 8 t195 t196 w0 _ ?side1 ?side2 A2.out).mono ?_); (case side1 => exact iz); (case side2 => exact bz); rintro e w5 ⟨rfl, hi, hb, hk⟩; refine ⟨_, rfl, ?_⟩; have n0_ := Aside0.mk (KeepBut.trans kp hk (.inl rfl)); have n1_ := Aside0.mk (hb); have n2_ := Aside0.mk (hi); clear HK; clear HB; clear HI0; have HK := n0_; have HB := n1_; have HI0 := n2_; clear n0_ n1_ n2_; (try clear hb); (try clear hb2); (try clear hk); (try clear hi)) | ((with_reducible refine gate_dst (N := 13) rfl ?_); refine Kd.R_lit k33 _ 33 ?hg (N := 13) ?hd (xs := ([] : List (S33))) (inner := []) (ok := fun _ => True) (okp := fun _ => True) ?hr ?hp (fun _ hk => hk) trivial (Below.refl _ _) (Nat.le_refl _) (by simp) ?_; (case hd => rfl); (case hg => rfl); (case hr => first | (go_simp; done) | (go_simp; rfl)); (case hp => exact (Reps.none _ _)); intro v198 w6 ho7 hb hg_ hnew_; clear hg_ hnew_; (first | rw [← Ny197.out] at ho7 | (simp only [Int.reduceToNat] at ho7; rw [← Ny197.out] at ho7)); have n0_ := Aside0.mk (Kd.R_lower ho7 (keep_size (w := w) (g := g) (row := none) kp)); have n1_ := Aside0.mk (IsS93.below iz hb); have n2_ := Aside0.mk (KeepBut.trans kp (KeepBut.of_below hb g none) (.inl rfl)); have n3_ := Aside0.mk (below_step bz hb); clear HI0; clear HK; clear HB; have HO199 := n0_; have HI0 := n1_; have HK := n2_; have HB := n3_; clear n0_ n1_ n2_ n3_; clear hb ho7) | ((with_reducible refine gate_callee (f := 65) rfl ?_); refine goesL_ (some 15) rfl rfl Try.func65 (by kernel_rfl) rfl #[.pointer (some ⟨g, 0, none⟩), .int .i64 6] rfl al ?_; (with_reducible refine (spec_l6Rd_pick.calls k g s0_0 t196 6 t200 t201 w0 _ ?side1 ?side2 A4.out).mono ?_); (case side1 => exact iz); (case side2 => exact bz); rintro e w8 ⟨rfl, hi, hb, hk⟩; refine ⟨_, rfl, ?_⟩; have n0_ := Aside0.mk (Kd.R_mono (Kd.R_keep (IsS93.apart (show IsS93 w0 _ g s0_0 t196 from iz) (rm HO199.out) (by decide)) hk (fun _ h => h.2)) (fun _ h => h.1)); have n1_ := Aside0.mk (KeepBut.trans kp hk (.inl rfl)); have n2_ := Aside0.mk (hb); have n3_ := Aside0.mk (hi); clear HO199; clear HK; clear HB; clear HI0; have HO199 := n0_; have HK := n1_; have HB := n2_; have HI0 := n3_; clear n0_ n1_ n2_ n3_; (try clear hb); (try clear hb2); (try clear hk); (try clear hi)))
  go_loopg [3, 5] k (fun kq v3 v5 w' => ∃ (x3_1 : List (S33)) (x5_1 : Int) (x1001_1 : Int), v5 = .int .i64 x5_1 ∧ Aside0 (spec_l92Poly.l0 kq x3_1 t200 x5_1 s0_0 x1001_1 = some (r1, r2)) ∧ Aside0 (kq ≤ k) ∧ Aside0 (Kd.R k33 33 w' w.heap.size (fun _ => True) v3 x3_1) ∧ Aside0 (IsS93 w0 w' g s0_0 x1001_1) ∧ Aside0 (KeepBut w w' g none) ∧ Aside0 (Below w0.heap.size w0 w'))
  case atStart => exact ⟨(y197), (0), (t201), (by first | rfl | (simp; done) | (simp [*]; done)), H', ⟨Nat.le_refl _⟩, ⟨rm HO199.out⟩, ⟨iz⟩, ⟨kp⟩, ⟨bz⟩⟩
  case round =>
   clear H'
   try clear p2
   try clear c3
   try clear c3b0
   try clear c3b1
   try clear c5
   try clear c6
   obtain ⟨x3_1, x5_1, x1001_1, rfl, HA, HK1, HO_3, HI0, HK, HB⟩ := hrel
   cases gk with
   | zero => exact absurd HA.out (by simp [spec_l92Poly.l0])
   | succ k1 =>
    have H := HA.out
    clear HA
    simp only [spec_l92Poly.l0] at H
    by_cases c9 : x5_1 < t200
    ·rw [if_pos c9] at H
     have c9b0 : decide (x5_1 < t200) = true := decide_eq_true c9
     clear c9
     replace H := Option.bind_eq_some_iff.mp H
     obtain ⟨⟨t202, t203, t204⟩, A100, H⟩ := H
     replace H : (if x3_1.length < 8796093022208 then (spec_l92Poly.l0 k1 (x3_1 ++ [(⟨t202, t203⟩ : S33)]) t200 (wrap64 (x5_1 + 1)) s0_0 t204) else (none)) = some (r1, r2) := H
     have A10 := Aside0.mk A100
     clear A100
     by_cases c11 : x3_1.length < 8796093022208
     ·rw [if_pos c11] at H
      have LMc11 := Aside0.mk c11
      clear c11
      obtain ⟨y205, hy205⟩ : ∃ y_ : List (S33), y_ = (x3_1 ++ [(⟨t202, t203⟩ : S33)]) := ⟨_, rfl⟩
      replace H : (spec_l92Poly.l0 k1 y205 t200 (wrap64 (x5_1 + 1)) s0_0 t204) = some (r1, r2) := by first | (rw [hy205]; with_reducible exact H) | (have H2_ := (Option.bind_some _ _).symm.trans H; rw [hy205]; with_reducible exact H2_) | (have H2_ := (Option.bind_some _ _).symm.trans H; with_reducible exact H2_) | with_reducible exact H | (rw [hy205]; exact H) | exact H
      have Ny205 := Aside0.mk hy205
      clear hy205
      have H' := Aside0.mk H
      clear H
      go_wp2_with (first | ((with_reducible refine gate_callee (f := 79) rfl ?_); refine goesL_ (some 23) rfl rfl Try.func79 (by kernel_rfl) rfl #[.pointer (some ⟨g, 0, none⟩)] rfl al ?_; (with_reducible refine (spec_l91Point.calls k1 g s0_0 x1001_1 t202 t203 t204 w0 _ ?side1 ?side2 A10.out).mono ?_); (case side1 => exact iz); (case side2 => exact bz); rintro e w12 ⟨rfl, hi, hb, hk⟩; refine ⟨_, rfl, ?_⟩; have n0_ := Aside0.mk (Kd.R_mono (Kd.R_keep (IsS93.apart (show IsS93 w0 _ g s0_0 x1001_1 from iz) (rm HO_3.out) (by decide)) hk (fun _ h => h.2)) (fun _ h => h.1)); have n1_ := Aside0.mk (KeepBut.trans kp hk (.inl rfl)); have n2_ := Aside0.mk (hb); have n3_ := Aside0.mk (hi); clear HO_3; clear HK; clear HB; clear HI0; have HO_3 := n0_; have HK := n1_; have HB := n2_; have HI0 := n3_; clear n0_ n1_ n2_ n3_; (try clear hb); (try clear hb2); (try clear hk); (try clear hi)) | ((with_reducible refine gate_builtin (b := .append) (xs := #[.tmp 21, .tmp 24]) rfl ?_); at_builtin; refine Kd.R_append k33 w.heap.size rfl (.tmp 21) (.tmp 24) 23 33 (.agg #[(.int .i64 0), (.int .i64 0)]) 16 rfl Try.underlying23 info33 rfl (by decide) (by omega) u3 x3_1 (⟨t202, t203⟩ : S33) [.int .i64 t202, .int .i64 t203] (fun _ => True) (fun _ => False) rfl rfl ?aP (fun _ hk => hk.elim) ?aF ?aO (Below.refl _ _) ?aS ?aL ?_; (case aP => exact k33_mkM _ _ _ (⟨t202, t203⟩ : S33)); (case aF => exact (fun _ _ => trivial)); (case aO => exact (rm HO_3.out)); (case aS => exact (keep_size (w := w) (g := g) (row := none) kp)); (case aL => have := LMc11.out; omega); intro v206 w13 ho hb hg hat; rw [← Ny205.out] at ho; have n0_ := Aside0.mk (IsS93.grown iz hg (IsS93.own_ne HI0.out HO_3.out (by decide))); have n1_ := Aside0.mk (below_weaken bz HL.out hb); have n2_ := Aside0.mk (KeepBut.trans kp (KeepBut.of_grown hg g) (Kd.R_base2 HO_3.out)); have n3_ := Aside0.mk (ho); clear HI0; clear HB; clear HK; clear HO_3; have HI0 := n0_; have HB := n1_; have HK := n2_; have HO207 := n3_; clear n0_ n1_ n2_ n3_; clear ho hb hg hat))
      go_roundg k1
      case measure => have := HK1.out; omega
      case rel => exact ⟨(y205), (wrap64 (x5_1 + 1)), (t204), (by first | rfl | (simp; done) | (simp [*]; done)), H', ⟨by have := HK1.out; omega⟩, ⟨rm HO207.out⟩, ⟨iz⟩, ⟨kp⟩, ⟨bz⟩⟩
     ·rw [if_neg c11] at H
      exact absurd H (by simp)
    ·rw [if_neg c9] at H
     have c9b0 : decide (x5_1 < t200) = false := decide_eq_false c9
     clear c9
     simp only [Option.some.injEq, Prod.mk.injEq] at H
     obtain ⟨rfl, rfl⟩ := H
     go_wp2
     go_ret
     exact ⟨_, er, Kd.Q_of_R (rm HO_3.out), iz, bz, kp⟩
 ·rw [if_neg c3] at H
  have c3b0 : (t195 == 0) = false := beq_eq_false_iff_ne.mpr c3
  have c3b1 : (t195 != 0) = true := bne_iff_ne.mpr c3
  by_cases c14 : t195 = 1
  ·rw [if_pos c14] at H
   have c14b0 : (t195 == 1) = true := beq_iff_eq.mpr c14
   have c14b1 : (t195 != 1) = false := bne_eq_false_iff_eq.mpr c14
   clear c14
   replace H := Option.bind_eq_some_iff.mp H
   obtain ⟨⟨t208, t211⟩, A150, H⟩ := H
   replace H : (some (t208, t211)) = some (r1, r2) := H
   have A15 := Aside0.mk A150
   clear A150
   simp only [Option.some.injEq, Prod.mk.injEq] at H
   obtain ⟨rfl, rfl⟩ := H
   go_enter Try.func53, Try.ntmps53
   go_wp2_with (first | ((with_reducible refine gate_callee (f := 65) rfl ?_); refine goesL_ (some 10) rfl rfl Try.func65 (by kernel_rfl) rfl #[.pointer (some ⟨g, 0, none⟩), .int .i64 8] rfl al ?_; (with_reducible refine (spec_l6Rd_pick.calls k g s0_0 s0_1 8 t195 t196 w0 _ ?side1 ?side2 A2.out).mono ?_); (case side1 => exact iz); (case side2 => exact bz); rintro e w16 ⟨rfl, hi, hb, hk⟩; refine ⟨_, rfl, ?_⟩; have n0_ := Aside0.mk (KeepBut.trans kp hk (.inl rfl)); have n1_ := Aside0.mk (hb); have n2_ := Aside0.mk (hi); clear HK; clear HB; clear HI0; have HK := n0_; have HB := n1_; have HI0 := n2_; clear n0_ n1_ n2_; (try clear hb); (try clear hb2); (try clear hk); (try clear hi)) | ((with_reducible refine gate_callee (f := 80) rfl ?_); refine goesL_ (some 32) rfl rfl Try.func80 (by kernel_rfl) rfl #[.pointer (some ⟨g, 0, none⟩)] rfl al ?_; (with_reducible refine (spec_l92Box.calls k g s0_0 t196 t208 t211 w0 _ ?side1 ?side2 A15.out).mono ?_); (case side1 => exact iz); (case side2 => exact bz); rintro e w17 ⟨v209, rfl, ho0, hi, hb, hk⟩; refine ⟨_, rfl, ?_⟩; have n0_ := Aside0.mk (Kd.Q_lower ho0 (keep_size (w := w) (g := g) (row := none) kp)); have n1_ := Aside0.mk (KeepBut.trans kp hk (.inl rfl)); have n2_ := Aside0.mk (hb); have n3_ := Aside0.mk (hi); clear HK; clear HB; clear HI0; have HO210 := n0_; have HK := n1_; have HB := n2_; have HI0 := n3_; clear n0_ n1_ n2_ n3_; (try clear hb); (try clear hb2); (try clear hk); (try clear hi); (try clear ho0)))
   go_ret
   exact ⟨_, er, qm HO210.out, iz, bz, kp⟩
  ·rw [if_neg c14] at H
   have c14b0 : (t195 == 1) = false := beq_eq_false_iff_ne.mpr c14
   have c14b1 : (t195 != 1) = true := bne_iff_ne.mpr c14
   by_cases c18 : t195 = 2
   ·rw [if_pos c18] at H
    have c18b0 : (t195 == 2) = true := beq_iff_eq.mpr c18
    have c18b1 : (t195 != 2) = false := bne_eq_false_iff_eq.mpr c18
    clear c18
    replace H := Option.bind_eq_some_iff.mp H
    obtain ⟨⟨t212, t215⟩, A190, H⟩ := H
    replace H : (some (t212, t215)) = some (r1, r2) := H
    have A19 := Aside0.mk A190
    clear A190
    simp only [Option.some.injEq, Prod.mk.injEq] at H
    obtain ⟨rfl, rfl⟩ := H
    go_enter Try.func53, Try.ntmps53
    go_wp2_with (first | ((with_reducible refine gate_callee (f := 65) rfl ?_); refine goesL_ (some 10) rfl rfl Try.func65 (by kernel_rfl) rfl #[.pointer (some ⟨g, 0, none⟩), .int .i64 8] rfl al ?_; (with_reducible refine (spec_l6Rd_pick.calls k g s0_0 s0_1 8 t195 t196 w0 _ ?side1 ?side2 A2.out).mono ?_); (case side1 => exact iz); (case side2 => exact bz); rintro e w20 ⟨rfl, hi, hb, hk⟩; refine ⟨_, rfl, ?_⟩; have n0_ := Aside0.mk (KeepBut.trans kp hk (.inl rfl)); have n1_ := Aside0.mk (hb); have n2_ := Aside0.mk (hi); clear HK; clear HB; clear HI0; have HK := n0_; have HB := n1_; have HI0 := n2_; clear n0_ n1_ n2_; (try clear hb); (try clear hb2); (try clear hk); (try clear hi)) | ((with_reducible refine gate_callee (f := 80) rfl ?_); refine goesL_ (some 32) rfl rfl Try.func80 (by kernel_rfl) rfl #[.pointer (some ⟨g, 0, none⟩)] rfl al ?_; (with_reducible refine (spec_l92Box.calls k g s0_0 t196 t212 t215 w0 _ ?side1 ?side2 A19.out).mono ?_); (case side1 => exact iz); (case side2 => exact bz); rintro e w21 ⟨v213, rfl, ho0, hi, hb, hk⟩; refine ⟨_, rfl, ?_⟩; have n0_ := Aside0.mk (Kd.Q_lower ho0 (keep_size (w := w) (g := g) (row := none) kp)); have n1_ := Aside0.mk (KeepBut.trans kp hk (.inl rfl)); have n2_ := Aside0.mk (hb); have n3_ := Aside0.mk (hi); clear HK; clear HB; clear HI0; have HO214 := n0_; have HK := n1_; have HB := n2_; have HI0 := n3_; clear n0_ n1_ n2_ n3_; (try clear hb); (try clear hb2); (try clear hk); (try clear hi); (try clear ho0)))
    go_ret
    exact ⟨_, er, qm HO214.out, iz, bz, kp⟩
   ·rw [if_neg c18] at H
    have c18b0 : (t195 == 2) = false := beq_eq_false_iff_ne.mpr c18
    have c18b1 : (t195 != 2) = true := bne_iff_ne.mpr c18
    by_cases c22 : t195 = 3
    ·rw [if_pos c22] at H
     have c22b0 : (t195 == 3) = true := beq_iff_eq.mpr c22
     have c22b1 : (t195 != 3) = false := bne_eq_false_iff_eq.mpr c22
     clear c22
     replace H := Option.bind_eq_some_iff.mp H
     obtain ⟨⟨t216, t219⟩, A230, H⟩ := H
     replace H : (some (t216, t219)) = some (r1, r2) := H
     have A23 := Aside0.mk A230
     clear A230
     simp only [Option.some.injEq, Prod.mk.injEq] at H
     obtain ⟨rfl, rfl⟩ := H
     go_enter Try.func53, Try.ntmps53
     go_wp2_with (first | ((with_reducible refine gate_callee (f := 65) rfl ?_); refine goesL_ (some 10) rfl rfl Try.func65 (by kernel_rfl) rfl #[.pointer (some ⟨g, 0, none⟩), .int .i64 8] rfl al ?_; (with_reducible refine (spec_l6Rd_pick.calls k g s0_0 s0_1 8 t195 t196 w0 _ ?side1 ?side2 A2.out).mono ?_); (case side1 => exact iz); (case side2 => exact bz); rintro e w24 ⟨rfl, hi, hb, hk⟩; refine ⟨_, rfl, ?_⟩; have n0_ := Aside0.mk (KeepBut.trans kp hk (.inl rfl)); have n1_ := Aside0.mk (hb); have n2_ := Aside0.mk (hi); clear HK; clear HB; clear HI0; have HK := n0_; have HB := n1_; have HI0 := n2_; clear n0_ n1_ n2_; (try clear hb); (try clear hb2); (try clear hk); (try clear hi)) | ((with_reducible refine gate_callee (f := 80) rfl ?_); refine goesL_ (some 32) rfl rfl Try.func80 (by kernel_rfl) rfl #[.pointer (some ⟨g, 0, none⟩)] rfl al ?_; (with_reducible refine (spec_l92Box.calls k g s0_0 t196 t216 t219 w0 _ ?side1 ?side2 A23.out).mono ?_); (case side1 => exact iz); (case side2 => exact bz); rintro e w25 ⟨v217, rfl, ho0, hi, hb, hk⟩; refine ⟨_, rfl, ?_⟩; have n0_ := Aside0.mk (Kd.Q_lower ho0 (keep_size (w := w) (g := g) (row := none) kp)); have n1_ := Aside0.mk (KeepBut.trans kp hk (.inl rfl)); have n2_ := Aside0.mk (hb); have n3_ := Aside0.mk (hi); clear HK; clear HB; clear HI0; have HO218 := n0_; have HK := n1_; have HB := n2_; have HI0 := n3_; clear n0_ n1_ n2_ n3_; (try clear hb); (try clear hb2); (try clear hk); (try clear hi); (try clear ho0)))
     go_ret
     exact ⟨_, er, qm HO218.out, iz, bz, kp⟩
    ·rw [if_neg c22] at H
     have c22b0 : (t195 == 3) = false := beq_eq_false_iff_ne.mpr c22
     have c22b1 : (t195 != 3) = true := bne_iff_ne.mpr c22
     replace H := Option.bind_eq_some_iff.mp H
     obtain ⟨⟨t220, t223⟩, A260, H⟩ := H
     replace H : ((spec_l6Rd_pick.f k s0_0 t223 5).bind fun bt224 => (if bt224.1 = 0 then ((spec_PolyBack.f k t220).bind fun bt226 => (some (bt226.1, bt224.2))) else (some (t220, bt224.2)))) = some (r1, r2) := H
     have A26 := Aside0.mk A260
     clear A260
     replace H := Option.bind_eq_some_iff.mp H
     obtain ⟨⟨t224, t225⟩, A270, H⟩ := H
     replace H : (if t224 = 0 then ((spec_PolyBack.f k t220).bind fun bt226 => (some (bt226.1, t225))) else (some (t220, t225))) = some (r1, r2) := H
     have A27 := Aside0.mk A270
     clear A270
     by_cases c28 : t224 = 0
     ·rw [if_pos c28] at H
      have c28b0 : (t224 == 0) = true := beq_iff_eq.mpr c28
      have c28b1 : (t224 != 0) = false := bne_eq_false_iff_eq.mpr c28
      clear c28
      replace H := Option.bind_eq_some_iff.mp H
      obtain ⟨⟨t226, t227⟩, A290, H⟩ := H
      replace H : (some (t226, t225)) = some (r1, r2) := H
      have A29 := Aside0.mk A290
      clear A290
      simp only [Option.some.injEq, Prod.mk.injEq] at H
      obtain ⟨rfl, rfl⟩ := H
      go_enter Try.func53, Try.ntmps53
      go_wp2_with (first | ((with_reducible refine gate_callee (f := 65) rfl ?_); refine goesL_ (some 10) rfl rfl Try.func65 (by kernel_rfl) rfl #[.pointer (some ⟨g, 0, none⟩), .int .i64 8] rfl al ?_; (with_reducible refine (spec_l6Rd_pick.calls k g s0_0 s0_1 8 t195 t196 w0 _ ?side1 ?side2 A2.out).mono ?_); (case side1 => exact iz); (case side2 => exact bz); rintro e w30 ⟨rfl, hi, hb, hk⟩; refine ⟨_, rfl, ?_⟩; have n0_ := Aside0.mk (KeepBut.trans kp hk (.inl rfl)); have n1_ := Aside0.mk (hb); have n2_ := Aside0.mk (hi); clear HK; clear HB; clear HI0; have HK := n0_; have HB := n1_; have HI0 := n2_; clear n0_ n1_ n2_; (try clear hb); (try clear hb2); (try clear hk); (try clear hi)) | ((with_reducible refine gate_callee (f := 81) rfl ?_); refine goesL_ (some 34) rfl rfl Try.func81 (by kernel_rfl) rfl #[.pointer (some ⟨g, 0, none⟩)] rfl al ?_; (with_reducible refine (spec_l92Star.calls k g s0_0 t196 t220 t223 w0 _ ?side1 ?side2 A26.out).mono ?_); (case side1 => exact iz); (case side2 => exact bz); rintro e w31 ⟨v221, rfl, ho0, hi, hb, hk⟩; refine ⟨_, rfl, ?_⟩; have n0_ := Aside0.mk (Kd.R_lower ho0 (keep_size (w := w) (g := g) (row := none) kp)); have n1_ := Aside0.mk (KeepBut.trans kp hk (.inl rfl)); have n2_ := Aside0.mk (hb); have n3_ := Aside0.mk (hi); clear HK; clear HB; clear HI0; have HO222 := n0_; have HK := n1_; have HB := n2_; have HI0 := n3_; clear n0_ n1_ n2_ n3_; (try clear hb); (try clear hb2); (try clear hk); (try clear hi); (try clear ho0)) | ((with_reducible refine gate_callee (f := 65) rfl ?_); refine goesL_ (some 36) rfl rfl Try.func65 (by kernel_rfl) rfl #[.pointer (some ⟨g, 0, none⟩), .int .i64 5] rfl al ?_; (with_reducible refine (spec_l6Rd_pick.calls k g s0_0 t223 5 t224 t225 w0 _ ?side1 ?side2 A27.out).mono ?_); (case side1 => exact iz); (case side2 => exact bz); rintro e w32 ⟨rfl, hi, hb, hk⟩; refine ⟨_, rfl, ?_⟩; have n0_ := Aside0.mk (Kd.R_mono (Kd.R_keep (IsS93.apart (show IsS93 w0 _ g s0_0 t223 from iz) (rm HO222.out) (by decide)) hk (fun _ h => h.2)) (fun _ h => h.1)); have n1_ := Aside0.mk (KeepBut.trans kp hk (.inl rfl)); have n2_ := Aside0.mk (hb); have n3_ := Aside0.mk (hi); clear HO222; clear HK; clear HB; clear HI0; have HO222 := n0_; have HK := n1_; have HB := n2_; have HI0 := n3_; clear n0_ n1_ n2_ n3_; (try clear hb); (try clear hb2); (try clear hk); (try clear hi); obtain ⟨Ao33, co33, eo33⟩ := Kd.R_slice HO222.out; subst eo33) | ((with_reducible refine gate_callee (f := 82) rfl ?_); refine goesL_ (some 40) rfl rfl Try.func82 (by kernel_rfl) rfl #[.slice Ao33 t220.length co33] rfl al ?_; (with_reducible refine (spec_PolyBack.calls k _ _ t220 t226 t227 _ ?side1 ?side2 A29.out).mono ?_); (case side1 => exact cm (Kd.R_reads' HO222.out).2.2); (case side2 => exact (Kd.R_reads' HO222.out).2.1); rintro e w34 ⟨v228, rfl, ho0, hb⟩; refine ⟨_, rfl, ?_⟩; have n0_ := Aside0.mk (Kd.R_elder' (rm HO222.out) (Kd.R_base ho0) hb); have n1_ := Aside0.mk (Kd.R_lower (Kd.R_new' ho0 (Kd.R_lt (rm HO222.out))) (keep_size (w := w) (g := g) (row := none) kp)); have n2_ := Aside0.mk (IsS93.below iz hb); have n3_ := Aside0.mk (KeepBut.trans kp (KeepBut.of_below hb g none) (.inl rfl)); have n4_ := Aside0.mk (below_step bz hb); clear HO222; clear HI0; clear HK; clear HB; have HO222 := n0_; have HO229 := n1_; have HI0 := n2_; have HK := n3_; have HB := n4_; clear n0_ n1_ n2_ n3_ n4_; (try clear hb); (try clear hb2); (try clear hk); (try clear hi); (try clear ho0)))
      go_ret
      exact ⟨_, er, Kd.Q_of_R (by (with_reducible repeat (first | apply Kd.R_alloc | apply Kd.R_drewN | apply Kd.R_drew)); exact Kd.R_mono HO229.out (fun _ hk => trivial)), iz, bz, kp⟩
     ·rw [if_neg c28] at H
      have c28b0 : (t224 == 0) = false := beq_eq_false_iff_ne.mpr c28
      have c28b1 : (t224 != 0) = true := bne_iff_ne.mpr c28
      simp only [Option.some.injEq, Prod.mk.injEq] at H
      obtain ⟨rfl, rfl⟩ := H
      go_enter Try.func53, Try.ntmps53
      go_wp2_with (first | ((with_reducible refine gate_callee (f := 65) rfl ?_); refine goesL_ (some 10) rfl rfl Try.func65 (by kernel_rfl) rfl #[.pointer (some ⟨g, 0, none⟩), .int .i64 8] rfl al ?_; (with_reducible refine (spec_l6Rd_pick.calls k g s0_0 s0_1 8 t195 t196 w0 _ ?side1 ?side2 A2.out).mono ?_); (case side1 => exact iz); (case side2 => exact bz); rintro e w35 ⟨rfl, hi, hb, hk⟩; refine ⟨_, rfl, ?_⟩; have n0_ := Aside0.mk (KeepBut.trans kp hk (.inl rfl)); have n1_ := Aside0.mk (hb); have n2_ := Aside0.mk (hi); clear HK; clear HB; clear HI0; have HK := n0_; have HB := n1_; have HI0 := n2_; clear n0_ n1_ n2_; (try clear hb); (try clear hb2); (try clear hk); (try clear hi)) | ((with_reducible refine gate_callee (f := 81) rfl ?_); refine goesL_ (some 34) rfl rfl Try.func81 (by kernel_rfl) rfl #[.pointer (some ⟨g, 0, none⟩)] rfl al ?_; (with_reducible refine (spec_l92Star.calls k g s0_0 t196 t220 t223 w0 _ ?side1 ?side2 A26.out).mono ?_); (case side1 => exact iz); (case side2 => exact bz); rintro e w36 ⟨v221, rfl, ho0, hi, hb, hk⟩; refine ⟨_, rfl, ?_⟩; have n0_ := Aside0.mk (Kd.R_lower ho0 (keep_size (w := w) (g := g) (row := none) kp)); have n1_ := Aside0.mk (KeepBut.trans kp hk (.inl rfl)); have n2_ := Aside0.mk (hb); have n3_ := Aside0.mk (hi); clear HK; clear HB; clear HI0; have HO222 := n0_; have HK := n1_; have HB := n2_; have HI0 := n3_; clear n0_ n1_ n2_ n3_; (try clear hb); (try clear hb2); (try clear hk); (try clear hi); (try clear ho0)) | ((with_reducible refine gate_callee (f := 65) rfl ?_); refine goesL_ (some 36) rfl rfl Try.func65 (by kernel_rfl) rfl #[.pointer (some ⟨g, 0, none⟩), .int .i64 5] rfl al ?_; (with_reducible refine (spec_l6Rd_pick.calls k g s0_0 t223 5 t224 t225 w0 _ ?side1 ?side2 A27.out).mono ?_); (case side1 => exact iz); (case side2 => exact bz); rintro e w37 ⟨rfl, hi, hb, hk⟩; refine ⟨_, rfl, ?_⟩; have n0_ := Aside0.mk (Kd.R_mono (Kd.R_keep (IsS93.apart (show IsS93 w0 _ g s0_0 t223 from iz) (rm HO222.out) (by decide)) hk (fun _ h => h.2)) (fun _ h => h.1)); have n1_ := Aside0.mk (KeepBut.trans kp hk (.inl rfl)); have n2_ := Aside0.mk (hb); have n3_ := Aside0.mk (hi); clear HO222; clear HK; clear HB; clear HI0; have HO222 := n0_; have HK := n1_; have HB := n2_; have HI0 := n3_; clear n0_ n1_ n2_ n3_; (try clear hb); (try clear hb2); (try clear hk); (try clear hi)))
      go_ret
      exact ⟨_, er, Kd.Q_of_R (rm HO222.out), iz, bz, kp⟩
def spec_DrawParcelMarks.f (k : Nat) (l0 : List Int) : Option ((List (S33))) := (spec_l6Open.f l0).bind fun bt230 => ((spec_l92Poly.f k bt230.1 bt230.2).bind fun bt233 => (some bt233.1))
theorem spec_DrawParcelMarks.mono : ∀ a0 k, LeO (spec_DrawParcelMarks.f k a0) (spec_DrawParcelMarks.f (k + 1) a0) := by
 intro a0 k
 unfold spec_DrawParcelMarks.f
 repeat' first
   | (with_reducible exact spec_l92Poly.mono _ _ _)
   | (with_reducible exact LeO.refl _)
   | (with_reducible exact LeO.none _)
   | (with_reducible refine LeO.ite ?_ ?_)
   | (with_reducible refine LeO.bind ?_ (fun _ => ?_))
   | exact spec_l92Poly.mono _ _ _
   | exact LeO.none _
   | refine LeO.ite ?_ ?_
   | refine LeO.bind ?_ (fun _ => ?_)
set_option maxHeartbeats 8000000 in
set_option maxRecDepth 100000 in
theorem spec_DrawParcelMarks.calls (k : Nat) (A0 : Option Addr) (c0 : Nat) (l0 : List Int) (r : List (S33)) (w : World) (hr0 : Kd.C (Kd.int .u8) w A0 l0.length l0) (hc0 : l0.length ≤ c0) (h : spec_DrawParcelMarks.f k l0 = some r) :
  Calls Try.prog 22 #[.slice A0 l0.length c0] w fun e w' => ∃ v0_ : Value, e = .returned (v0_) ∧ Kd.Q k33 33 w' w.heap.size (fun _ => True) v0_ r ∧ Below w.heap.size w w' := by
 have HR0 := Aside0.mk hr0
 have HC0 := Aside0.mk hc0
 clear hr0 hc0
 have HB := Aside0.mk (Below.refl w.heap.size w)
 have H : ((spec_l6Open.f l0).bind fun bt230 => ((spec_l92Poly.f k bt230.1 bt230.2).bind fun bt233 => (some bt233.1))) = some r := h
 clear h
 replace H := Option.bind_eq_some_iff.mp H
 obtain ⟨⟨t230, t231⟩, A20, H⟩ := H
 replace H : ((spec_l92Poly.f k t230 t231).bind fun bt233 => (some bt233.1)) = some r := H
 have A2 := Aside0.mk A20
 clear A20
 replace H := Option.bind_eq_some_iff.mp H
 obtain ⟨⟨t233, t236⟩, A30, H⟩ := H
 replace H : (some t233) = some r := H
 have A3 := Aside0.mk A30
 clear A30
 obtain rfl := Option.some.inj H
 go_enter Try.func22, Try.ntmps22
 go_wp2_with (first | ((with_reducible refine gate_callee (f := 34) rfl ?_); refine goesL_ (some 4) rfl rfl Try.func34 (by kernel_rfl) rfl #[.slice A0 l0.length c0] rfl al ?_; (with_reducible refine (spec_l6Open.calls _ _ l0 t230 t231 w _ ?side1 ?side2 ?side3 A2.out).mono ?_); (case side1 => repeat (first | (with_reducible first | exact HB.out | apply below_alloc | apply pw_below_drewN | apply below_drew1) | exact HB.out)); (case side2 => exact HR0.out); (case side3 => exact HC0.out); rintro e w4 ⟨g232, rfl, hi, hb, hb2⟩; refine ⟨_, rfl, ?_⟩; have n0_ := Aside0.mk (hb); have n1_ := Aside0.mk (hi); clear HB; have HB := n0_; have HI232 := n1_; clear n0_ n1_; (try clear hb); (try clear hb2); (try clear hk); (try clear hi)) | ((with_reducible refine gate_callee (f := 53) rfl ?_); refine goesL_ (some 5) rfl rfl Try.func53 (by kernel_rfl) rfl #[.pointer (some ⟨g232, 0, none⟩)] rfl al ?_; (with_reducible refine (spec_l92Poly.calls k g232 t230 t231 t233 t236 w _ ?side1 ?side2 A3.out).mono ?_); (case side1 => repeat (first | (with_reducible first | exact HI232.out | apply IsS93.alloc | apply IsS93.drewN | apply IsS93.drew | apply IsS93.set_1) | exact HI232.out)); (case side2 => repeat (first | (with_reducible first | exact HB.out | apply below_alloc | apply pw_below_drewN | apply below_drew1 | refine below_set ?_ (IsS93.ge HI232.out)) | exact HB.out)); rintro e w5 ⟨v234, rfl, ho0, hi, hb, hk⟩; refine ⟨_, rfl, ?_⟩; have n0_ := Aside0.mk (Kd.Q_lower ho0 (below_size (by repeat (first | (with_reducible first | exact HB.out | apply below_alloc | apply pw_below_drewN | apply below_drew1 | refine below_set ?_ (IsS93.ge HI232.out)) | exact HB.out)))); have n1_ := Aside0.mk (hb); have n2_ := Aside0.mk (hi); clear HB; clear HI232; have HO235 := n0_; have HB := n1_; have HI232 := n2_; clear n0_ n1_ n2_; (try clear hb); (try clear hb2); (try clear hk); (try clear hi); (try clear ho0)))
 go_ret
 exact ⟨_, er, qm HO235.out, by repeat (first | (with_reducible first | exact HB.out | apply below_alloc | apply pw_below_drewN | apply below_drew1 | refine below_set ?_ (IsS93.ge HI232.out)) | exact HB.out)⟩
def impl_ParcelMarks.l0 : Nat → List (S33) → List (S33) → List (S33) → Int → Int → Option ((List (S33)) × Bool)
 | 0, _, _, _, _, _ => none
 | k + 1, x0, x4, x16, x17, x18 => if x18 < x17 then (if 0 ≤ x18 then (if x18 < (x16.length : Int) then (if (x0.length : Int) = 0 then (none) else (if 0 ≤ (Int.tmod (wrap64 ((wrap64 (x18 + (x0.length : Int))) - 1)) (x0.length : Int)) then (if (Int.tmod (wrap64 ((wrap64 (x18 + (x0.length : Int))) - 1)) (x0.length : Int)) < (x0.length : Int) then (if 0 ≤ (Int.tmod (wrap64 (x18 + 1)) (x0.length : Int)) then (if (Int.tmod (wrap64 (x18 + 1)) (x0.length : Int)) < (x0.length : Int) then ((impl_PointSide.f ((rd_T33 x0 (Int.tmod (wrap64 ((wrap64 (x18 + (x0.length : Int))) - 1)) (x0.length : Int))).f0) ((rd_T33 x0 (Int.tmod (wrap64 ((wrap64 (x18 + (x0.length : Int))) - 1)) (x0.length : Int))).f1) ((rd_T33 x16 x18).f0) ((rd_T33 x16 x18).f1) ((rd_T33 x0 (Int.tmod (wrap64 (x18 + 1)) (x0.length : Int))).f0) ((rd_T33 x0 (Int.tmod (wrap64 (x18 + 1)) (x0.length : Int))).f1)).bind fun bt250 => (if bt250.1 = 0 then (impl_ParcelMarks.l0 k x0 x4 x16 x17 (wrap64 (x18 + 1))) else (if x4.length < 8796093022208 then (impl_ParcelMarks.l0 k x0 (x4 ++ [(⟨(rd_T33 x16 x18).f0, (rd_T33 x16 x18).f1⟩ : S33)]) x16 x17 (wrap64 (x18 + 1))) else (none)))) else (none)) else (none)) else (none)) else (none))) else (none)) else (none)) else (some (x4, true))
def impl_ParcelMarks.f (k : Nat) (l0 : List (S33)) : Option ((List (S33)) × Bool) := (impl_ParcelValid.f l0).bind fun t237 => (if t237 = true then (impl_ParcelMarks.l0 k l0 (([] : List (S33))) l0 (l0.length : Int) 0) else (some ((([] : List (S33))), false)))
theorem impl_ParcelMarks.mono_l : ∀ k, (∀ y0 y1 y2 y3 y4, LeO (impl_ParcelMarks.l0 k y0 y1 y2 y3 y4) (impl_ParcelMarks.l0 (k + 1) y0 y1 y2 y3 y4))
 | 0 => fun _ _ _ _ _ r h => by simp [impl_ParcelMarks.l0] at h
 | k + 1 => by
  have ih0 := impl_ParcelMarks.mono_l k
  ·intro y0 y1 y2 y3 y4
   unfold impl_ParcelMarks.l0
   repeat' first
   | (with_reducible exact ih0 _ _ _ _ _)
   | (with_reducible exact LeO.refl _)
   | (with_reducible exact LeO.none _)
   | (with_reducible refine LeO.ite ?_ ?_)
   | (with_reducible refine LeO.bind ?_ (fun _ => ?_))
   | exact ih0 _ _ _ _ _
   | exact LeO.none _
   | refine LeO.ite ?_ ?_
   | refine LeO.bind ?_ (fun _ => ?_)
theorem impl_ParcelMarks.mono : ∀ a0 k, LeO (impl_ParcelMarks.f k a0) (impl_ParcelMarks.f (k + 1) a0) := by
 intro a0 k
 have ih0 := impl_ParcelMarks.mono_l k
 unfold impl_ParcelMarks.f
 repeat' first
   | (with_reducible exact ih0 _ _ _ _ _)
   | (with_reducible exact LeO.refl _)
   | (with_reducible exact LeO.none _)
   | (with_reducible refine LeO.ite ?_ ?_)
   | (with_reducible refine LeO.bind ?_ (fun _ => ?_))
   | exact ih0 _ _ _ _ _
   | exact LeO.none _
   | refine LeO.ite ?_ ?_
   | refine LeO.bind ?_ (fun _ => ?_)
set_option maxHeartbeats 8000000 in
set_option maxRecDepth 100000 in
theorem impl_ParcelMarks.calls (k : Nat) (A0 : Option Addr) (c0 : Nat) (l0 : List (S33)) (r1 : List (S33)) (r2 : Bool) (w : World) (hr0 : Kd.C k33 w A0 l0.length l0) (hc0 : l0.length ≤ c0) (h : impl_ParcelMarks.f k l0 = some (r1, r2)) :
  Calls Try.prog 23 #[.slice A0 l0.length c0] w fun e w' => ∃ v0_ : Value, e = .returned (.tuple #[v0_, .bool r2]) ∧ Kd.R k33 33 w' w.heap.size (fun _ => True) v0_ r1 ∧ Below w.heap.size w w' := by
 have hu33 := Try.underlying33
 have HR0 := Aside0.mk hr0
 have HC0 := Aside0.mk hc0
 clear hr0 hc0
 have HB := Aside0.mk (Below.refl w.heap.size w)
 have H : ((impl_ParcelValid.f l0).bind fun t237 => (if t237 = true then (impl_ParcelMarks.l0 k l0 (([] : List (S33))) l0 (l0.length : Int) 0) else (some ((([] : List (S33))), false)))) = some (r1, r2) := h
 clear h
 replace H := Option.bind_eq_some_iff.mp H
 obtain ⟨t237, A20, H⟩ := H
 replace H : (if t237 = true then (impl_ParcelMarks.l0 k l0 (([] : List (S33))) l0 (l0.length : Int) 0) else (some ((([] : List (S33))), false))) = some (r1, r2) := H
 have A2 := Aside0.mk A20
 clear A20
 by_cases c3 : t237 = true
 ·subst c3
  have H1 : (impl_ParcelMarks.l0 k l0 (([] : List (S33))) l0 (l0.length : Int) 0) = some (r1, r2) := by rw [if_pos rfl] at H; exact H
  clear H
  have H := H1
  clear H1
  obtain ⟨y241, hy241⟩ : ∃ y_ : List (S33), y_ = (([] : List (S33))) := ⟨_, rfl⟩
  replace H : (impl_ParcelMarks.l0 k l0 y241 l0 (l0.length : Int) 0) = some (r1, r2) := by first | (rw [hy241]; with_reducible exact H) | (have H2_ := (Option.bind_some _ _).symm.trans H; rw [hy241]; with_reducible exact H2_) | (have H2_ := (Option.bind_some _ _).symm.trans H; with_reducible exact H2_) | with_reducible exact H | (rw [hy241]; exact H) | exact H
  have Ny241 := Aside0.mk hy241
  clear hy241
  have H' := Aside0.mk H
  clear H
  go_enter Try.func23, Try.ntmps23
  go_wp2_with (first | ((with_reducible refine gate_callee (f := 13) rfl ?_); refine goesL_ (some 12) rfl rfl Try.func13 (by kernel_rfl) rfl #[.slice A0 l0.length c0] rfl al ?_; (with_reducible refine (impl_ParcelValid.calls _ _ l0 true _ ?side1 ?side2 A2.out).mono ?_); (case side1 => repeat (first | exact HR0.out | (with_reducible refine Kd.C_alloc ?_ _) | (with_reducible refine Kd.C_drewN ?_ _) | (with_reducible refine Kd.C_drew ?_))); (case side2 => exact HC0.out); rintro e w4 ⟨rfl, hb⟩; refine ⟨_, rfl, ?_⟩; have n0_ := Aside0.mk (below_step (lb HB.out) hb); clear HB; have HB := n0_; clear n0_; (try clear hb); (try clear hb2); (try clear hk); (try clear hi)) | ((with_reducible refine gate_dst (N := 15) rfl ?_); refine Kd.R_lit k33 _ 33 ?hg (N := 15) ?hd (xs := ([] : List (S33))) (inner := []) (ok := fun _ => True) (okp := fun _ => True) ?hr ?hp (fun _ hk => hk) trivial (Below.refl _ _) (Nat.le_refl _) (by simp) ?_; (case hd => rfl); (case hg => rfl); (case hr => first | (go_simp; done) | (go_simp; rfl)); (case hp => exact (Reps.none _ _)); intro v242 w5 ho6 hb hg_ hnew_; clear hg_ hnew_; (first | rw [← Ny241.out] at ho6 | (simp only [Int.reduceToNat] at ho6; rw [← Ny241.out] at ho6)); have n0_ := Aside0.mk (Kd.R_lower ho6 (below_size (lb HB.out))); have n1_ := Aside0.mk (below_step (lb HB.out) hb); clear HB; have HO243 := n0_; have HB := n1_; clear n0_ n1_; clear hb ho6))
  go_loopg [4, 18] k (fun kq v4 v18 w' => ∃ (x4_1 : List (S33)) (x18_1 : Int), v18 = .int .i64 x18_1 ∧ Aside0 (impl_ParcelMarks.l0 kq l0 x4_1 l0 (l0.length : Int) x18_1 = some (r1, r2)) ∧ Aside0 (kq ≤ k) ∧ Aside0 (Kd.R k33 33 w' w.heap.size (fun _ => True) v4 x4_1) ∧ Aside0 (Below w.heap.size w w'))
  case atStart => exact ⟨(y241), (0), (by first | rfl | (simp; done) | (simp [*]; done)), H', ⟨Nat.le_refl _⟩, ⟨rm HO243.out⟩, ⟨lb HB.out⟩⟩
  case round =>
   clear H'
   try clear c1
   try clear c2
   try clear p2
   try clear c3
   obtain ⟨x4_1, x18_1, rfl, HA, HK1, HO_4, HB⟩ := hrel
   cases gk with
   | zero => exact absurd HA.out (by simp [impl_ParcelMarks.l0])
   | succ k1 =>
    have H := HA.out
    clear HA
    simp only [impl_ParcelMarks.l0] at H
    by_cases c7 : x18_1 < (l0.length : Int)
    ·rw [if_pos c7] at H
     have c7b0 : decide (x18_1 < (l0.length : Int)) = true := decide_eq_true c7
     clear c7
     by_cases c8 : 0 ≤ x18_1
     ·rw [if_pos c8] at H
      have c8b0 : decide (0 ≤ x18_1) = true := decide_eq_true c8
      clear c8
      by_cases c9 : x18_1 < (l0.length : Int)
      ·rw [if_pos c9] at H
       have c9b0 : decide (x18_1 < (l0.length : Int)) = true := decide_eq_true c9
       clear c9
       by_cases c10 : (l0.length : Int) = 0
       ·rw [if_pos c10] at H
        exact absurd H (by simp)
       ·rw [if_neg c10] at H
        have c10b0 : ((l0.length : Int) == 0) = false := beq_eq_false_iff_ne.mpr c10
        have c10b1 : ((l0.length : Int) != 0) = true := bne_iff_ne.mpr c10
        have c10b2 : ¬ (l0 = []) := fun h_ => c10 (by rw [h_]; rfl)
        obtain ⟨ji11, hji11⟩ : ∃ j_ : Int, (Int.tmod (wrap64 ((wrap64 (x18_1 + (l0.length : Int))) - 1)) (l0.length : Int)) = j_ := ⟨_, rfl⟩
        replace H : (if 0 ≤ (ji11) then (if (ji11) < (l0.length : Int) then (if 0 ≤ (Int.tmod (wrap64 (x18_1 + 1)) (l0.length : Int)) then (if (Int.tmod (wrap64 (x18_1 + 1)) (l0.length : Int)) < (l0.length : Int) then ((impl_PointSide.f ((rd_T33 l0 (ji11)).f0) ((rd_T33 l0 (ji11)).f1) ((rd_T33 l0 x18_1).f0) ((rd_T33 l0 x18_1).f1) ((rd_T33 l0 (Int.tmod (wrap64 (x18_1 + 1)) (l0.length : Int))).f0) ((rd_T33 l0 (Int.tmod (wrap64 (x18_1 + 1)) (l0.length : Int))).f1)).bind fun bt250 => (if bt250.1 = 0 then (impl_ParcelMarks.l0 k1 l0 x4_1 l0 (l0.length : Int) (wrap64 (x18_1 + 1))) else (if x4_1.length < 8796093022208 then (impl_ParcelMarks.l0 k1 l0 (x4_1 ++ [(⟨(rd_T33 l0 x18_1).f0, (rd_T33 l0 x18_1).f1⟩ : S33)]) l0 (l0.length : Int) (wrap64 (x18_1 + 1))) else (none)))) else (none)) else (none)) else (none)) else (none)) = some (r1, r2) := by first | (rw [hji11] at H; exact H) | (simp only [hji11] at H ⊢; exact H)
        by_cases c12 : 0 ≤ (ji11)
        ·rw [if_pos c12] at H
         have c12b0 : decide (0 ≤ (ji11)) = true := decide_eq_true c12
         clear c12
         by_cases c13 : (ji11) < (l0.length : Int)
         ·rw [if_pos c13] at H
          have c13b0 : decide ((ji11) < (l0.length : Int)) = true := decide_eq_true c13
          clear c13
          obtain ⟨ji14, hji14⟩ : ∃ j_ : Int, (Int.tmod (wrap64 (x18_1 + 1)) (l0.length : Int)) = j_ := ⟨_, rfl⟩
          replace H : (if 0 ≤ (ji14) then (if (ji14) < (l0.length : Int) then ((impl_PointSide.f ((rd_T33 l0 (ji11)).f0) ((rd_T33 l0 (ji11)).f1) ((rd_T33 l0 x18_1).f0) ((rd_T33 l0 x18_1).f1) ((rd_T33 l0 (ji14)).f0) ((rd_T33 l0 (ji14)).f1)).bind fun bt250 => (if bt250.1 = 0 then (impl_ParcelMarks.l0 k1 l0 x4_1 l0 (l0.length : Int) (wrap64 (x18_1 + 1))) else (if x4_1.length < 8796093022208 then (impl_ParcelMarks.l0 k1 l0 (x4_1 ++ [(⟨(rd_T33 l0 x18_1).f0, (rd_T33 l0 x18_1).f1⟩ : S33)]) l0 (l0.length : Int) (wrap64 (x18_1 + 1))) else (none)))) else (none)) else (none)) = some (r1, r2) := by first | (rw [hji14] at H; exact H) | (simp only [hji14] at H ⊢; exact H)
          by_cases c15 : 0 ≤ (ji14)
          ·rw [if_pos c15] at H
           have c15b0 : decide (0 ≤ (ji14)) = true := decide_eq_true c15
           clear c15
           by_cases c16 : (ji14) < (l0.length : Int)
           ·rw [if_pos c16] at H
            have c16b0 : decide ((ji14) < (l0.length : Int)) = true := decide_eq_true c16
            clear c16
            replace H := Option.bind_eq_some_iff.mp H
            obtain ⟨⟨t250, t251⟩, A170, H⟩ := H
            replace H : (if t250 = 0 then (impl_ParcelMarks.l0 k1 l0 x4_1 l0 (l0.length : Int) (wrap64 (x18_1 + 1))) else (if x4_1.length < 8796093022208 then (impl_ParcelMarks.l0 k1 l0 (x4_1 ++ [(⟨(rd_T33 l0 x18_1).f0, (rd_T33 l0 x18_1).f1⟩ : S33)]) l0 (l0.length : Int) (wrap64 (x18_1 + 1))) else (none))) = some (r1, r2) := H
            have A17 := Aside0.mk A170
            clear A170
            by_cases c18 : t250 = 0
            ·rw [if_pos c18] at H
             have c18b0 : (t250 == 0) = true := beq_iff_eq.mpr c18
             have c18b1 : (t250 != 0) = false := bne_eq_false_iff_eq.mpr c18
             clear c18
             have H' := Aside0.mk H
             clear H
             have p244 : 0 ≤ (x18_1 : Int) := oa
             have q244 : x18_1 < (l0.length : Int) := oa
             obtain ⟨ad244, e244, hx244_0, hx244_1⟩ := at_T33 HR0.out x18_1 p244 q244
             cases e244
             replace hx244_0 := (HB.out.cell (World.block_lt_of_cell? w _ hx244_0)).trans hx244_0
             replace hx244_1 := (HB.out.cell (World.block_lt_of_cell? w _ hx244_1)).trans hx244_1
             replace p244 := eq_true p244
             replace q244 := eq_true q244
             go_wp2_with (first | ((with_reducible refine gate_dst (N := 6) rfl ?_); refine bx_ 6 (cs := #[.int .i64 0, .int .i64 0]) (t := 33) ?_; intro gb245 hg w19 hbox hb; have n0_ := Aside0.mk (Kd.R_below (Kd.R_elderB (rm HO_4.out) gb245 (Nat.le_of_eq hg.symm)) hb); have n1_ := Aside0.mk (below_step (lb HB.out) hb); have n2_ := Aside0.mk (hbox); have n3_ := Aside0.mk ((by rw [hg]; exact (below_size (lb HB.out)) : w.heap.size ≤ gb245)); have n4_ := Aside0.mk ((by rw [hg]; exact (below_size (lb HB.out)) : w.heap.size ≤ gb245)); clear HO_4; clear HB; have HO_4 := n0_; have HB := n1_; have BK245 := n2_; have GW245 := n3_; have GE245 := n4_; clear n0_ n1_ n2_ n3_ n4_; clear hb hbox hg; have hcz20_0 : w19.cell? ⟨gb245, 0, none⟩ = some (.int .i64 0) := (blk_cell BK245.out 0).trans rfl; have hcz20_1 : w19.cell? ⟨gb245, 1, none⟩ = some (.int .i64 0) := (blk_cell BK245.out 1).trans rfl; have hfz20_0 := blk_frozen BK245.out 0; have hfz20_1 := blk_frozen BK245.out 1; have p246 : 0 ≤ ((ji11) : Int) := oa; have q246 : (ji11) < (l0.length : Int) := oa; obtain ⟨ad246, e246, hx246_0, hx246_1⟩ := at_T33 HR0.out (ji11) p246 q246; obtain rfl : ad244 = ad246 := (by injection e246); have hn246_0 : ad244.block ≠ gb245 := Nat.ne_of_lt (cl hx246_0 GW245.out); have hn246_1 : ad244.block ≠ gb245 := Nat.ne_of_lt (cl hx246_0 GW245.out); replace hx246_0 := (HB.out.cell (World.block_lt_of_cell? w _ hx246_0)).trans hx246_0; replace hx246_1 := (HB.out.cell (World.block_lt_of_cell? w _ hx246_1)).trans hx246_1; replace hx246_0 := (cell_far (p := ⟨gb245, 0, none⟩) (nb hn246_0) (.int .i64 ((rd_T33 l0 x18_1).f0))).trans hx246_0; replace hx246_1 := (cell_far (p := ⟨gb245, 0, none⟩) (nb hn246_0) (.int .i64 ((rd_T33 l0 x18_1).f0))).trans hx246_1; replace hx246_0 := (cell_far (p := ⟨gb245, 1, none⟩) (nb hn246_1) (.int .i64 ((rd_T33 l0 x18_1).f1))).trans hx246_0; replace hx246_1 := (cell_far (p := ⟨gb245, 1, none⟩) (nb hn246_1) (.int .i64 ((rd_T33 l0 x18_1).f1))).trans hx246_1; clear hn246_0; clear hn246_1; replace p246 := eq_true p246; replace q246 := eq_true q246) | ((with_reducible refine gate_dst (N := 7) rfl ?_); refine bx_ 7 (cs := #[.int .i64 0, .int .i64 0]) (t := 33) ?_; intro gb247 hg w21 hbox hb; have n0_ := Aside0.mk (Kd.R_below (Kd.R_elderB (by (with_reducible repeat (first | apply Kd.R_alloc | apply Kd.R_drewN | apply Kd.R_drew)); exact (Kd.R_mono (Kd.R_far (p := ⟨gb245, 1, none⟩) (Kd.R_far (p := ⟨gb245, 0, none⟩) (Kd.R_mono HO_4.out (fun k_ hk => (⟨hk, hk.2⟩ : _ ∧ k_ ≠ gb245))) (fun _ hk => hk.2) (.int .i64 ((rd_T33 l0 x18_1).f0))) (fun _ hk => hk.2) (.int .i64 ((rd_T33 l0 x18_1).f1))) (fun _ h_ => h_.1))) gb247 (Nat.le_of_eq hg.symm)) hb); have n1_ := Aside0.mk (blk_below (bp BK245.out) hb); have n2_ := Aside0.mk (below_step (lb HB.out) hb); have n3_ := Aside0.mk (hbox); have n4_ := Aside0.mk ((by rw [hg]; exact (below_size (lb HB.out)) : w.heap.size ≤ gb247)); have n5_ := Aside0.mk ((by rw [hg]; exact (below_size (lb HB.out)) : w.heap.size ≤ gb247)); have n6_ := Aside0.mk ((by rw [hg]; exact Nat.ne_of_lt (blk_lt (bp BK245.out)) : gb245 ≠ gb247)); have n7_ := Aside0.mk ((by rw [hg]; exact Nat.ne_of_gt (blk_lt (bp BK245.out)) : gb247 ≠ gb245)); clear HO_4; clear BK245; clear HB; have HO_4 := n0_; have BK245 := n1_; have HB := n2_; have BK247 := n3_; have GW247 := n4_; have GE247 := n5_; have NB245_247 := n6_; have NB247_245 := n7_; clear n0_ n1_ n2_ n3_ n4_ n5_ n6_ n7_; clear hb hbox hg; have hnb22 := NB247_245.out; have hnc22 := NB245_247.out; have hcz23_0 : w21.cell? ⟨gb247, 0, none⟩ = some (.int .i64 0) := (blk_cell BK247.out 0).trans rfl; have hcz23_1 : w21.cell? ⟨gb247, 1, none⟩ = some (.int .i64 0) := (blk_cell BK247.out 1).trans rfl; have hfz23_0 := blk_frozen BK247.out 0; have hfz23_1 := blk_frozen BK247.out 1; have p248 : 0 ≤ ((ji14) : Int) := oa; have q248 : (ji14) < (l0.length : Int) := oa; obtain ⟨ad248, e248, hx248_0, hx248_1⟩ := at_T33 HR0.out (ji14) p248 q248; obtain rfl : ad244 = ad248 := (by injection e248); have hn248_0 : ad244.block ≠ gb247 := Nat.ne_of_lt (cl hx248_0 GW247.out); have hn248_1 : ad244.block ≠ gb247 := Nat.ne_of_lt (cl hx248_0 GW247.out); replace hx248_0 := (HB.out.cell (World.block_lt_of_cell? w _ hx248_0)).trans hx248_0; replace hx248_1 := (HB.out.cell (World.block_lt_of_cell? w _ hx248_1)).trans hx248_1; replace hx248_0 := (cell_far (p := ⟨gb247, 0, none⟩) (nb hn248_0) (.int .i64 ((rd_T33 l0 (ji11)).f0))).trans hx248_0; replace hx248_1 := (cell_far (p := ⟨gb247, 0, none⟩) (nb hn248_0) (.int .i64 ((rd_T33 l0 (ji11)).f0))).trans hx248_1; replace hx248_0 := (cell_far (p := ⟨gb247, 1, none⟩) (nb hn248_1) (.int .i64 ((rd_T33 l0 (ji11)).f1))).trans hx248_0; replace hx248_1 := (cell_far (p := ⟨gb247, 1, none⟩) (nb hn248_1) (.int .i64 ((rd_T33 l0 (ji11)).f1))).trans hx248_1; clear hn248_0; clear hn248_1; replace p248 := eq_true p248; replace q248 := eq_true q248) | ((with_reducible refine gate_dst (N := 8) rfl ?_); refine bx_ 8 (cs := #[.int .i64 0, .int .i64 0]) (t := 33) ?_; intro gb249 hg w24 hbox hb; have n0_ := Aside0.mk (Kd.R_below (Kd.R_elderB (by (with_reducible repeat (first | apply Kd.R_alloc | apply Kd.R_drewN | apply Kd.R_drew)); exact (Kd.R_mono (Kd.R_far (p := ⟨gb247, 1, none⟩) (Kd.R_far (p := ⟨gb247, 0, none⟩) (Kd.R_mono HO_4.out (fun k_ hk => (⟨hk, hk.2⟩ : _ ∧ k_ ≠ gb247))) (fun _ hk => hk.2) (.int .i64 ((rd_T33 l0 (ji11)).f0))) (fun _ hk => hk.2) (.int .i64 ((rd_T33 l0 (ji11)).f1))) (fun _ h_ => h_.1))) gb249 (Nat.le_of_eq hg.symm)) hb); have n1_ := Aside0.mk (blk_below (bf BK245.out) hb); have n2_ := Aside0.mk (blk_below (bp BK247.out) hb); have n3_ := Aside0.mk (below_step (lb HB.out) hb); have n4_ := Aside0.mk (hbox); have n5_ := Aside0.mk ((by rw [hg]; exact (below_size (lb HB.out)) : w.heap.size ≤ gb249)); have n6_ := Aside0.mk ((by rw [hg]; exact (below_size (lb HB.out)) : w.heap.size ≤ gb249)); have n7_ := Aside0.mk ((by rw [hg]; exact Nat.ne_of_lt (blk_lt (bf BK245.out)) : gb245 ≠ gb249)); have n8_ := Aside0.mk ((by rw [hg]; exact Nat.ne_of_gt (blk_lt (bf BK245.out)) : gb249 ≠ gb245)); have n9_ := Aside0.mk ((by rw [hg]; exact Nat.ne_of_lt (blk_lt (bp BK247.out)) : gb247 ≠ gb249)); have n10_ := Aside0.mk ((by rw [hg]; exact Nat.ne_of_gt (blk_lt (bp BK247.out)) : gb249 ≠ gb247)); clear HO_4; clear BK245; clear BK247; clear HB; have HO_4 := n0_; have BK245 := n1_; have BK247 := n2_; have HB := n3_; have BK249 := n4_; have GW249 := n5_; have GE249 := n6_; have NB245_249 := n7_; have NB249_245 := n8_; have NB247_249 := n9_; have NB249_247 := n10_; clear n0_ n1_ n2_ n3_ n4_ n5_ n6_ n7_ n8_ n9_ n10_; clear hb hbox hg; have hnb25 := NB249_245.out; have hnc25 := NB245_249.out; have hnb26 := NB249_247.out; have hnc26 := NB247_249.out; have hcz27_0 : w24.cell? ⟨gb249, 0, none⟩ = some (.int .i64 0) := (blk_cell BK249.out 0).trans rfl; have hcz27_1 : w24.cell? ⟨gb249, 1, none⟩ = some (.int .i64 0) := (blk_cell BK249.out 1).trans rfl; have hfz27_0 := blk_frozen BK249.out 0; have hfz27_1 := blk_frozen BK249.out 1; have hcz28_0 : w24.cell? ⟨gb247, 0, none⟩ = some (.int .i64 ((rd_T33 l0 (ji11)).f0)) := (blk_cell BK247.out 0).trans rfl; have hcz28_1 : w24.cell? ⟨gb247, 1, none⟩ = some (.int .i64 ((rd_T33 l0 (ji11)).f1)) := (blk_cell BK247.out 1).trans rfl; have hfz28_0 := blk_frozen BK247.out 0; have hfz28_1 := blk_frozen BK247.out 1; have hcz29_0 : w24.cell? ⟨gb245, 0, none⟩ = some (.int .i64 ((rd_T33 l0 x18_1).f0)) := (blk_cell BK245.out 0).trans rfl; have hcz29_1 : w24.cell? ⟨gb245, 1, none⟩ = some (.int .i64 ((rd_T33 l0 x18_1).f1)) := (blk_cell BK245.out 1).trans rfl; have hfz29_0 := blk_frozen BK245.out 0; have hfz29_1 := blk_frozen BK245.out 1) | ((with_reducible refine gate_callee (f := 54) rfl ?_); refine goesL_ (some 46) rfl rfl Try.func54 (by kernel_rfl) rfl #[.agg #[.int .i64 ((rd_T33 l0 (ji11)).f0), .int .i64 ((rd_T33 l0 (ji11)).f1)], .agg #[.int .i64 ((rd_T33 l0 x18_1).f0), .int .i64 ((rd_T33 l0 x18_1).f1)], .agg #[.int .i64 ((rd_T33 l0 (ji14)).f0), .int .i64 ((rd_T33 l0 (ji14)).f1)]] rfl (by (try simp only [List.map_toArray, List.map_cons, List.map_nil]); first | done | (simp only [hji11, hji14]; rfl) | rfl | (simp only [List.length_drop, List.length_take]; rfl)) ?_; (with_reducible refine (impl_PointSide.calls ((rd_T33 l0 (ji11)).f0) ((rd_T33 l0 (ji11)).f1) ((rd_T33 l0 x18_1).f0) ((rd_T33 l0 x18_1).f1) ((rd_T33 l0 (ji14)).f0) ((rd_T33 l0 (ji14)).f1) t250 t251 _ A17.out).mono ?_); rintro e w30 ⟨rfl, hb⟩; refine ⟨_, rfl, ?_⟩; have n0_ := Aside0.mk (Kd.R_below (by (with_reducible repeat (first | apply Kd.R_alloc | apply Kd.R_drewN | apply Kd.R_drew)); exact (Kd.R_mono (Kd.R_far (p := ⟨gb249, 1, none⟩) (Kd.R_far (p := ⟨gb249, 0, none⟩) (Kd.R_mono HO_4.out (fun k_ hk => (⟨hk, hk.2⟩ : _ ∧ k_ ≠ gb249))) (fun _ hk => hk.2) (.int .i64 ((rd_T33 l0 (ji14)).f0))) (fun _ hk => hk.2) (.int .i64 ((rd_T33 l0 (ji14)).f1))) (fun _ h_ => h_.1))) hb); have n1_ := Aside0.mk (blk_below (bf BK245.out) hb); have n2_ := Aside0.mk (blk_below (bf BK247.out) hb); have n3_ := Aside0.mk (blk_below (bp BK249.out) hb); have n4_ := Aside0.mk (below_step (lb HB.out) hb); clear HO_4; clear BK245; clear BK247; clear BK249; clear HB; have HO_4 := n0_; have BK245 := n1_; have BK247 := n2_; have BK249 := n3_; have HB := n4_; clear n0_ n1_ n2_ n3_ n4_; (try clear hb); (try clear hb2); (try clear hk); (try clear hi)))
             go_roundg k1
             case measure => have := HK1.out; omega
             case rel => exact ⟨(x4_1), (wrap64 (x18_1 + 1)), (by first | rfl | (simp; done) | (simp [*]; done)), H', ⟨by have := HK1.out; omega⟩, ⟨rm (Kd.R_mono HO_4.out (fun _ hk => trivial))⟩, ⟨lb HB.out⟩⟩
            ·rw [if_neg c18] at H
             have c18b0 : (t250 == 0) = false := beq_eq_false_iff_ne.mpr c18
             have c18b1 : (t250 != 0) = true := bne_iff_ne.mpr c18
             by_cases c31 : x4_1.length < 8796093022208
             ·rw [if_pos c31] at H
              have LMc31 := Aside0.mk c31
              clear c31
              obtain ⟨y252, hy252⟩ : ∃ y_ : List (S33), y_ = (x4_1 ++ [(⟨(rd_T33 l0 x18_1).f0, (rd_T33 l0 x18_1).f1⟩ : S33)]) := ⟨_, rfl⟩
              replace H : (impl_ParcelMarks.l0 k1 l0 y252 l0 (l0.length : Int) (wrap64 (x18_1 + 1))) = some (r1, r2) := by first | (rw [hy252]; with_reducible exact H) | (have H2_ := (Option.bind_some _ _).symm.trans H; rw [hy252]; with_reducible exact H2_) | (have H2_ := (Option.bind_some _ _).symm.trans H; with_reducible exact H2_) | with_reducible exact H | (rw [hy252]; exact H) | exact H
              have Ny252 := Aside0.mk hy252
              clear hy252
              have H' := Aside0.mk H
              clear H
              have p244 : 0 ≤ (x18_1 : Int) := oa
              have q244 : x18_1 < (l0.length : Int) := oa
              obtain ⟨ad244, e244, hx244_0, hx244_1⟩ := at_T33 HR0.out x18_1 p244 q244
              cases e244
              replace hx244_0 := (HB.out.cell (World.block_lt_of_cell? w _ hx244_0)).trans hx244_0
              replace hx244_1 := (HB.out.cell (World.block_lt_of_cell? w _ hx244_1)).trans hx244_1
              replace p244 := eq_true p244
              replace q244 := eq_true q244
              go_wp2_with (first | ((with_reducible refine gate_dst (N := 6) rfl ?_); refine bx_ 6 (cs := #[.int .i64 0, .int .i64 0]) (t := 33) ?_; intro gb245 hg w32 hbox hb; have n0_ := Aside0.mk (Kd.R_below (Kd.R_elderB (rm HO_4.out) gb245 (Nat.le_of_eq hg.symm)) hb); have n1_ := Aside0.mk (below_step (lb HB.out) hb); have n2_ := Aside0.mk (hbox); have n3_ := Aside0.mk ((by rw [hg]; exact (below_size (lb HB.out)) : w.heap.size ≤ gb245)); have n4_ := Aside0.mk ((by rw [hg]; exact (below_size (lb HB.out)) : w.heap.size ≤ gb245)); clear HO_4; clear HB; have HO_4 := n0_; have HB := n1_; have BK245 := n2_; have GW245 := n3_; have GE245 := n4_; clear n0_ n1_ n2_ n3_ n4_; clear hb hbox hg; have hcz33_0 : w32.cell? ⟨gb245, 0, none⟩ = some (.int .i64 0) := (blk_cell BK245.out 0).trans rfl; have hcz33_1 : w32.cell? ⟨gb245, 1, none⟩ = some (.int .i64 0) := (blk_cell BK245.out 1).trans rfl; have hfz33_0 := blk_frozen BK245.out 0; have hfz33_1 := blk_frozen BK245.out 1; have p246 : 0 ≤ ((ji11) : Int) := oa; have q246 : (ji11) < (l0.length : Int) := oa; obtain ⟨ad246, e246, hx246_0, hx246_1⟩ := at_T33 HR0.out (ji11) p246 q246; obtain rfl : ad244 = ad246 := (by injection e246); have hn246_0 : ad244.block ≠ gb245 := Nat.ne_of_lt (cl hx246_0 GW245.out); have hn246_1 : ad244.block ≠ gb245 := Nat.ne_of_lt (cl hx246_0 GW245.out); replace hx246_0 := (HB.out.cell (World.block_lt_of_cell? w _ hx246_0)).trans hx246_0; replace hx246_1 := (HB.out.cell (World.block_lt_of_cell? w _ hx246_1)).trans hx246_1; replace hx246_0 := (cell_far (p := ⟨gb245, 0, none⟩) (nb hn246_0) (.int .i64 ((rd_T33 l0 x18_1).f0))).trans hx246_0; replace hx246_1 := (cell_far (p := ⟨gb245, 0, none⟩) (nb hn246_0) (.int .i64 ((rd_T33 l0 x18_1).f0))).trans hx246_1; replace hx246_0 := (cell_far (p := ⟨gb245, 1, none⟩) (nb hn246_1) (.int .i64 ((rd_T33 l0 x18_1).f1))).trans hx246_0; replace hx246_1 := (cell_far (p := ⟨gb245, 1, none⟩) (nb hn246_1) (.int .i64 ((rd_T33 l0 x18_1).f1))).trans hx246_1; clear hn246_0; clear hn246_1; replace p246 := eq_true p246; replace q246 := eq_true q246) | ((with_reducible refine gate_dst (N := 7) rfl ?_); refine bx_ 7 (cs := #[.int .i64 0, .int .i64 0]) (t := 33) ?_; intro gb247 hg w34 hbox hb; have n0_ := Aside0.mk (Kd.R_below (Kd.R_elderB (by (with_reducible repeat (first | apply Kd.R_alloc | apply Kd.R_drewN | apply Kd.R_drew)); exact (Kd.R_mono (Kd.R_far (p := ⟨gb245, 1, none⟩) (Kd.R_far (p := ⟨gb245, 0, none⟩) (Kd.R_mono HO_4.out (fun k_ hk => (⟨hk, hk.2⟩ : _ ∧ k_ ≠ gb245))) (fun _ hk => hk.2) (.int .i64 ((rd_T33 l0 x18_1).f0))) (fun _ hk => hk.2) (.int .i64 ((rd_T33 l0 x18_1).f1))) (fun _ h_ => h_.1))) gb247 (Nat.le_of_eq hg.symm)) hb); have n1_ := Aside0.mk (blk_below (bp BK245.out) hb); have n2_ := Aside0.mk (below_step (lb HB.out) hb); have n3_ := Aside0.mk (hbox); have n4_ := Aside0.mk ((by rw [hg]; exact (below_size (lb HB.out)) : w.heap.size ≤ gb247)); have n5_ := Aside0.mk ((by rw [hg]; exact (below_size (lb HB.out)) : w.heap.size ≤ gb247)); have n6_ := Aside0.mk ((by rw [hg]; exact Nat.ne_of_lt (blk_lt (bp BK245.out)) : gb245 ≠ gb247)); have n7_ := Aside0.mk ((by rw [hg]; exact Nat.ne_of_gt (blk_lt (bp BK245.out)) : gb247 ≠ gb245)); clear HO_4; clear BK245; clear HB; have HO_4 := n0_; have BK245 := n1_; have HB := n2_; have BK247 := n3_; have GW247 := n4_; have GE247 := n5_; have NB245_247 := n6_; have NB247_245 := n7_; clear n0_ n1_ n2_ n3_ n4_ n5_ n6_ n7_; clear hb hbox hg; have hnb35 := NB247_245.out; have hnc35 := NB245_247.out; have hcz36_0 : w34.cell? ⟨gb247, 0, none⟩ = some (.int .i64 0) := (blk_cell BK247.out 0).trans rfl; have hcz36_1 : w34.cell? ⟨gb247, 1, none⟩ = some (.int .i64 0) := (blk_cell BK247.out 1).trans rfl; have hfz36_0 := blk_frozen BK247.out 0; have hfz36_1 := blk_frozen BK247.out 1; have p248 : 0 ≤ ((ji14) : Int) := oa; have q248 : (ji14) < (l0.length : Int) := oa; obtain ⟨ad248, e248, hx248_0, hx248_1⟩ := at_T33 HR0.out (ji14) p248 q248; obtain rfl : ad244 = ad248 := (by injection e248); have hn248_0 : ad244.block ≠ gb247 := Nat.ne_of_lt (cl hx248_0 GW247.out); have hn248_1 : ad244.block ≠ gb247 := Nat.ne_of_lt (cl hx248_0 GW247.out); replace hx248_0 := (HB.out.cell (World.block_lt_of_cell? w _ hx248_0)).trans hx248_0; replace hx248_1 := (HB.out.cell (World.block_lt_of_cell? w _ hx248_1)).trans hx248_1; replace hx248_0 := (cell_far (p := ⟨gb247, 0, none⟩) (nb hn248_0) (.int .i64 ((rd_T33 l0 (ji11)).f0))).trans hx248_0; replace hx248_1 := (cell_far (p := ⟨gb247, 0, none⟩) (nb hn248_0) (.int .i64 ((rd_T33 l0 (ji11)).f0))).trans hx248_1; replace hx248_0 := (cell_far (p := ⟨gb247, 1, none⟩) (nb hn248_1) (.int .i64 ((rd_T33 l0 (ji11)).f1))).trans hx248_0; replace hx248_1 := (cell_far (p := ⟨gb247, 1, none⟩) (nb hn248_1) (.int .i64 ((rd_T33 l0 (ji11)).f1))).trans hx248_1; clear hn248_0; clear hn248_1; replace p248 := eq_true p248; replace q248 := eq_true q248) | ((with_reducible refine gate_dst (N := 8) rfl ?_); refine bx_ 8 (cs := #[.int .i64 0, .int .i64 0]) (t := 33) ?_; intro gb249 hg w37 hbox hb; have n0_ := Aside0.mk (Kd.R_below (Kd.R_elderB (by (with_reducible repeat (first | apply Kd.R_alloc | apply Kd.R_drewN | apply Kd.R_drew)); exact (Kd.R_mono (Kd.R_far (p := ⟨gb247, 1, none⟩) (Kd.R_far (p := ⟨gb247, 0, none⟩) (Kd.R_mono HO_4.out (fun k_ hk => (⟨hk, hk.2⟩ : _ ∧ k_ ≠ gb247))) (fun _ hk => hk.2) (.int .i64 ((rd_T33 l0 (ji11)).f0))) (fun _ hk => hk.2) (.int .i64 ((rd_T33 l0 (ji11)).f1))) (fun _ h_ => h_.1))) gb249 (Nat.le_of_eq hg.symm)) hb); have n1_ := Aside0.mk (blk_below (bf BK245.out) hb); have n2_ := Aside0.mk (blk_below (bp BK247.out) hb); have n3_ := Aside0.mk (below_step (lb HB.out) hb); have n4_ := Aside0.mk (hbox); have n5_ := Aside0.mk ((by rw [hg]; exact (below_size (lb HB.out)) : w.heap.size ≤ gb249)); have n6_ := Aside0.mk ((by rw [hg]; exact (below_size (lb HB.out)) : w.heap.size ≤ gb249)); have n7_ := Aside0.mk ((by rw [hg]; exact Nat.ne_of_lt (blk_lt (bf BK245.out)) : gb245 ≠ gb249)); have n8_ := Aside0.mk ((by rw [hg]; exact Nat.ne_of_gt (blk_lt (bf BK245.out)) : gb249 ≠ gb245)); have n9_ := Aside0.mk ((by rw [hg]; exact Nat.ne_of_lt (blk_lt (bp BK247.out)) : gb247 ≠ gb249)); have n10_ := Aside0.mk ((by rw [hg]; exact Nat.ne_of_gt (blk_lt (bp BK247.out)) : gb249 ≠ gb247)); clear HO_4; clear BK245; clear BK247; clear HB; have HO_4 := n0_; have BK245 := n1_; have BK247 := n2_; have HB := n3_; have BK249 := n4_; have GW249 := n5_; have GE249 := n6_; have NB245_249 := n7_; have NB249_245 := n8_; have NB247_249 := n9_; have NB249_247 := n10_; clear n0_ n1_ n2_ n3_ n4_ n5_ n6_ n7_ n8_ n9_ n10_; clear hb hbox hg; have hnb38 := NB249_245.out; have hnc38 := NB245_249.out; have hnb39 := NB249_247.out; have hnc39 := NB247_249.out; have hcz40_0 : w37.cell? ⟨gb249, 0, none⟩ = some (.int .i64 0) := (blk_cell BK249.out 0).trans rfl; have hcz40_1 : w37.cell? ⟨gb249, 1, none⟩ = some (.int .i64 0) := (blk_cell BK249.out 1).trans rfl; have hfz40_0 := blk_frozen BK249.out 0; have hfz40_1 := blk_frozen BK249.out 1; have hcz41_0 : w37.cell? ⟨gb247, 0, none⟩ = some (.int .i64 ((rd_T33 l0 (ji11)).f0)) := (blk_cell BK247.out 0).trans rfl; have hcz41_1 : w37.cell? ⟨gb247, 1, none⟩ = some (.int .i64 ((rd_T33 l0 (ji11)).f1)) := (blk_cell BK247.out 1).trans rfl; have hfz41_0 := blk_frozen BK247.out 0; have hfz41_1 := blk_frozen BK247.out 1; have hcz42_0 : w37.cell? ⟨gb245, 0, none⟩ = some (.int .i64 ((rd_T33 l0 x18_1).f0)) := (blk_cell BK245.out 0).trans rfl; have hcz42_1 : w37.cell? ⟨gb245, 1, none⟩ = some (.int .i64 ((rd_T33 l0 x18_1).f1)) := (blk_cell BK245.out 1).trans rfl; have hfz42_0 := blk_frozen BK245.out 0; have hfz42_1 := blk_frozen BK245.out 1) | ((with_reducible refine gate_callee (f := 54) rfl ?_); refine goesL_ (some 46) rfl rfl Try.func54 (by kernel_rfl) rfl #[.agg #[.int .i64 ((rd_T33 l0 (ji11)).f0), .int .i64 ((rd_T33 l0 (ji11)).f1)], .agg #[.int .i64 ((rd_T33 l0 x18_1).f0), .int .i64 ((rd_T33 l0 x18_1).f1)], .agg #[.int .i64 ((rd_T33 l0 (ji14)).f0), .int .i64 ((rd_T33 l0 (ji14)).f1)]] rfl (by (try simp only [List.map_toArray, List.map_cons, List.map_nil]); first | done | (simp only [hji11, hji14]; rfl) | rfl | (simp only [List.length_drop, List.length_take]; rfl)) ?_; (with_reducible refine (impl_PointSide.calls ((rd_T33 l0 (ji11)).f0) ((rd_T33 l0 (ji11)).f1) ((rd_T33 l0 x18_1).f0) ((rd_T33 l0 x18_1).f1) ((rd_T33 l0 (ji14)).f0) ((rd_T33 l0 (ji14)).f1) t250 t251 _ A17.out).mono ?_); rintro e w43 ⟨rfl, hb⟩; refine ⟨_, rfl, ?_⟩; have n0_ := Aside0.mk (Kd.R_below (by (with_reducible repeat (first | apply Kd.R_alloc | apply Kd.R_drewN | apply Kd.R_drew)); exact (Kd.R_mono (Kd.R_far (p := ⟨gb249, 1, none⟩) (Kd.R_far (p := ⟨gb249, 0, none⟩) (Kd.R_mono HO_4.out (fun k_ hk => (⟨hk, hk.2⟩ : _ ∧ k_ ≠ gb249))) (fun _ hk => hk.2) (.int .i64 ((rd_T33 l0 (ji14)).f0))) (fun _ hk => hk.2) (.int .i64 ((rd_T33 l0 (ji14)).f1))) (fun _ h_ => h_.1))) hb); have n1_ := Aside0.mk (blk_below (bf BK245.out) hb); have n2_ := Aside0.mk (blk_below (bf BK247.out) hb); have n3_ := Aside0.mk (blk_below (bp BK249.out) hb); have n4_ := Aside0.mk (below_step (lb HB.out) hb); clear HO_4; clear BK245; clear BK247; clear BK249; clear HB; have HO_4 := n0_; have BK245 := n1_; have BK247 := n2_; have BK249 := n3_; have HB := n4_; clear n0_ n1_ n2_ n3_ n4_; (try clear hb); (try clear hb2); (try clear hk); (try clear hi); have hcz44_0 : w43.cell? ⟨gb245, 0, none⟩ = some (.int .i64 ((rd_T33 l0 x18_1).f0)) := (blk_cell BK245.out 0).trans rfl; have hcz44_1 : w43.cell? ⟨gb245, 1, none⟩ = some (.int .i64 ((rd_T33 l0 x18_1).f1)) := (blk_cell BK245.out 1).trans rfl; have hfz44_0 := blk_frozen BK245.out 0; have hfz44_1 := blk_frozen BK245.out 1) | ((with_reducible refine gate_builtin (b := .append) (xs := #[.tmp 51, .tmp 53]) rfl ?_); at_builtin; refine Kd.R_append k33 (w0 := w) w.heap.size rfl (.tmp 51) (.tmp 53) 23 33 (.agg #[(.int .i64 0), (.int .i64 0)]) 16 rfl Try.underlying23 info33 rfl (by decide) (by omega) u4 x4_1 (⟨(rd_T33 l0 x18_1).f0, (rd_T33 l0 x18_1).f1⟩ : S33) [.int .i64 ((rd_T33 l0 x18_1).f0), .int .i64 ((rd_T33 l0 x18_1).f1)] (fun k_ => k_ ≠ gb245 ∧ k_ ≠ gb247 ∧ k_ ≠ gb249) (fun _ => False) rfl rfl ?aP (fun _ hk => hk.elim) ?aF ?aO ?aB ?aS ?aL ?_; (case aP => exact k33_mkM _ _ _ (⟨(rd_T33 l0 x18_1).f0, (rd_T33 l0 x18_1).f1⟩ : S33)); (case aB => exact (lb HB.out)); (case aF => exact (fun k_ hk => ⟨Kd.freshB (g := gb245) (o := .cells #[.int .i64 ((rd_T33 l0 x18_1).f0), .int .i64 ((rd_T33 l0 x18_1).f1)] 33 (0, 0)) (bf BK245.out) k_ hk, Kd.freshB (g := gb247) (o := .cells #[.int .i64 ((rd_T33 l0 (ji11)).f0), .int .i64 ((rd_T33 l0 (ji11)).f1)] 33 (0, 0)) (bf BK247.out) k_ hk, Kd.freshB (g := gb249) (o := .cells #[.int .i64 ((rd_T33 l0 (ji14)).f0), .int .i64 ((rd_T33 l0 (ji14)).f1)] 33 (0, 0)) (bf BK249.out) k_ hk⟩)); (case aO => exact (by (with_reducible repeat (first | apply Kd.R_alloc | apply Kd.R_drewN | apply Kd.R_drew)); exact Kd.R_mono HO_4.out (fun _ hk => ⟨hk.1.1.2, ⟨hk.1.2, hk.2⟩⟩))); (case aS => exact (below_size (lb HB.out))); (case aL => have := LMc31.out; omega); intro v253 w45 ho hb hg hat; rw [← Ny252.out] at ho; have n0_ := Aside0.mk (blk_grown (g := gb245) (o := .cells #[.int .i64 ((rd_T33 l0 x18_1).f0), .int .i64 ((rd_T33 l0 x18_1).f1)] 33 (0, 0)) (bf BK245.out) hg (Kd.R_away HO_4.out (fun _ hk => hk.1.1.2))); have n1_ := Aside0.mk (blk_grown (g := gb247) (o := .cells #[.int .i64 ((rd_T33 l0 (ji11)).f0), .int .i64 ((rd_T33 l0 (ji11)).f1)] 33 (0, 0)) (bf BK247.out) hg (Kd.R_away HO_4.out (fun _ hk => hk.1.2))); have n2_ := Aside0.mk (blk_grown (g := gb249) (o := .cells #[.int .i64 ((rd_T33 l0 (ji14)).f0), .int .i64 ((rd_T33 l0 (ji14)).f1)] 33 (0, 0)) (bf BK249.out) hg (Kd.R_away HO_4.out (fun _ hk => hk.2))); have n3_ := Aside0.mk (hb); have n4_ := Aside0.mk (ho); clear BK245; clear BK247; clear BK249; clear HB; clear HO_4; have BK245 := n0_; have BK247 := n1_; have BK249 := n2_; have HB := n3_; have HO254 := n4_; clear n0_ n1_ n2_ n3_ n4_; clear ho hb hg hat))
              go_roundg k1
              case measure => have := HK1.out; omega
              case rel => exact ⟨(y252), (wrap64 (x18_1 + 1)), (by first | rfl | (simp; done) | (simp [*]; done)), H', ⟨by have := HK1.out; omega⟩, ⟨rm (Kd.R_mono HO254.out (fun _ hk => trivial))⟩, ⟨lb HB.out⟩⟩
             ·rw [if_neg c31] at H
              exact absurd H (by simp)
           ·rw [if_neg c16] at H
            exact absurd H (by simp)
          ·rw [if_neg c15] at H
           exact absurd H (by simp)
         ·rw [if_neg c13] at H
          exact absurd H (by simp)
        ·rw [if_neg c12] at H
         exact absurd H (by simp)
      ·rw [if_neg c9] at H
       exact absurd H (by simp)
     ·rw [if_neg c8] at H
      exact absurd H (by simp)
    ·rw [if_neg c7] at H
     have c7b0 : decide (x18_1 < (l0.length : Int)) = false := decide_eq_false c7
     clear c7
     simp only [Option.some.injEq, Prod.mk.injEq] at H
     obtain ⟨rfl, rfl⟩ := H
     go_wp2
     go_ret2
     exact ⟨_, er, rm HO_4.out, lb HB.out⟩
 ·replace c3 := Bool.eq_false_iff.mpr c3
  subst c3
  have H1 : (some ((([] : List (S33))), false)) = some (r1, r2) := by rw [if_neg (show ¬ (false = true) by decide)] at H; exact H
  clear H
  have H := H1
  clear H1
  obtain ⟨y238, hy238⟩ : ∃ y_ : List (S33), y_ = (([] : List (S33))) := ⟨_, rfl⟩
  replace H : (some (y238, false)) = some (r1, r2) := by first | (rw [hy238]; with_reducible exact H) | (have H2_ := (Option.bind_some _ _).symm.trans H; rw [hy238]; with_reducible exact H2_) | (have H2_ := (Option.bind_some _ _).symm.trans H; with_reducible exact H2_) | with_reducible exact H | (rw [hy238]; exact H) | exact H
  have Ny238 := Aside0.mk hy238
  clear hy238
  simp only [Option.some.injEq, Prod.mk.injEq] at H
  obtain ⟨rfl, rfl⟩ := H
  go_enter Try.func23, Try.ntmps23
  go_wp2_with (first | ((with_reducible refine gate_callee (f := 13) rfl ?_); refine goesL_ (some 12) rfl rfl Try.func13 (by kernel_rfl) rfl #[.slice A0 l0.length c0] rfl al ?_; (with_reducible refine (impl_ParcelValid.calls _ _ l0 false _ ?side1 ?side2 A2.out).mono ?_); (case side1 => repeat (first | exact HR0.out | (with_reducible refine Kd.C_alloc ?_ _) | (with_reducible refine Kd.C_drewN ?_ _) | (with_reducible refine Kd.C_drew ?_))); (case side2 => exact HC0.out); rintro e w46 ⟨rfl, hb⟩; refine ⟨_, rfl, ?_⟩; have n0_ := Aside0.mk (below_step (lb HB.out) hb); clear HB; have HB := n0_; clear n0_; (try clear hb); (try clear hb2); (try clear hk); (try clear hi)) | ((with_reducible refine gate_dst (N := 14) rfl ?_); refine Kd.R_lit k33 _ 33 ?hg (N := 14) ?hd (xs := ([] : List (S33))) (inner := []) (ok := fun _ => True) (okp := fun _ => True) ?hr ?hp (fun _ hk => hk) trivial (Below.refl _ _) (Nat.le_refl _) (by simp) ?_; (case hd => rfl); (case hg => rfl); (case hr => first | (go_simp; done) | (go_simp; rfl)); (case hp => exact (Reps.none _ _)); intro v239 w47 ho48 hb hg_ hnew_; clear hg_ hnew_; (first | rw [← Ny238.out] at ho48 | (simp only [Int.reduceToNat] at ho48; rw [← Ny238.out] at ho48)); have n0_ := Aside0.mk (Kd.R_lower ho48 (below_size (lb HB.out))); have n1_ := Aside0.mk (below_step (lb HB.out) hb); clear HB; have HO240 := n0_; have HB := n1_; clear n0_ n1_; clear hb ho48))
  go_ret2
  exact ⟨_, er, rm HO240.out, lb HB.out⟩
def spec_l2Cross.f (a0_0 : Int) (a0_1 : Int) (a1_0 : Int) (a1_1 : Int) : Option (Int) := some (wrap64 ((wrap64 (a0_0 * a1_1)) - (wrap64 (a0_1 * a1_0))))
set_option maxHeartbeats 8000000 in
set_option maxRecDepth 100000 in
theorem spec_l2Cross.calls (a0_0 : Int) (a0_1 : Int) (a1_0 : Int) (a1_1 : Int) (r : Int) (w : World) (h : spec_l2Cross.f a0_0 a0_1 a1_0 a1_1 = some r) :
  Calls Try.prog 78 #[.agg #[.int .i64 a0_0, .int .i64 a0_1], .agg #[.int .i64 a1_0, .int .i64 a1_1]] w fun e w' => e = .returned (.int .i64 r) ∧ Below w.heap.size w w' := by
 have hu33 := Try.underlying33
 have HB := Aside0.mk (Below.refl w.heap.size w)
 have H : (some (wrap64 ((wrap64 (a0_0 * a1_1)) - (wrap64 (a0_1 * a1_0))))) = some r := h
 clear h
 obtain rfl := Option.some.inj H
 go_enter Try.func78, Try.ntmps78
 go_wp2_with (first | ((with_reducible refine gate_dst (N := 2) rfl ?_); refine bx_ 2 (cs := #[.int .i64 a0_0, .int .i64 a0_1]) (t := 33) ?_; intro gb255 hg w3 hbox hb; have n0_ := Aside0.mk (below_step (lb HB.out) hb); have n1_ := Aside0.mk (hbox); have n2_ := Aside0.mk ((by rw [hg]; exact (below_size (lb HB.out)) : w.heap.size ≤ gb255)); have n3_ := Aside0.mk ((by rw [hg]; exact (below_size (lb HB.out)) : w.heap.size ≤ gb255)); clear HB; have HB := n0_; have BK255 := n1_; have GW255 := n2_; have GE255 := n3_; clear n0_ n1_ n2_ n3_; clear hb hbox hg) | ((with_reducible refine gate_dst (N := 3) rfl ?_); refine bx_ 3 (cs := #[.int .i64 a1_0, .int .i64 a1_1]) (t := 33) ?_; intro gb256 hg w4 hbox hb; have n0_ := Aside0.mk (blk_below (bf BK255.out) hb); have n1_ := Aside0.mk (below_step (lb HB.out) hb); have n2_ := Aside0.mk (hbox); have n3_ := Aside0.mk ((by rw [hg]; exact (below_size (lb HB.out)) : w.heap.size ≤ gb256)); have n4_ := Aside0.mk ((by rw [hg]; exact (below_size (lb HB.out)) : w.heap.size ≤ gb256)); have n5_ := Aside0.mk ((by rw [hg]; exact Nat.ne_of_lt (blk_lt (bf BK255.out)) : gb255 ≠ gb256)); have n6_ := Aside0.mk ((by rw [hg]; exact Nat.ne_of_gt (blk_lt (bf BK255.out)) : gb256 ≠ gb255)); clear BK255; clear HB; have BK255 := n0_; have HB := n1_; have BK256 := n2_; have GW256 := n3_; have GE256 := n4_; have NB255_256 := n5_; have NB256_255 := n6_; clear n0_ n1_ n2_ n3_ n4_ n5_ n6_; clear hb hbox hg; have hnb5 := NB255_256.out; have hnc5 := NB256_255.out; have hcz6_0 : w4.cell? ⟨gb255, 0, none⟩ = some (.int .i64 a0_0) := (blk_cell BK255.out 0).trans rfl; have hcz6_1 : w4.cell? ⟨gb255, 1, none⟩ = some (.int .i64 a0_1) := (blk_cell BK255.out 1).trans rfl; have hfz6_0 := blk_frozen BK255.out 0; have hfz6_1 := blk_frozen BK255.out 1; have hcz7_0 : w4.cell? ⟨gb256, 0, none⟩ = some (.int .i64 a1_0) := (blk_cell BK256.out 0).trans rfl; have hcz7_1 : w4.cell? ⟨gb256, 1, none⟩ = some (.int .i64 a1_1) := (blk_cell BK256.out 1).trans rfl; have hfz7_0 := blk_frozen BK256.out 0; have hfz7_1 := blk_frozen BK256.out 1))
 go_ret
 exact ⟨er, lb HB.out⟩
def spec_l31Area.l0 : Nat → List (S33) → Int → Int → Option (Int)
 | 0, _, _, _ => none
 | k + 1, x0, x3, x4 => if x4 < (x0.length : Int) then (if 0 ≤ x4 then (if (x0.length : Int) = 0 then (none) else (if 0 ≤ (Int.tmod (wrap64 (x4 + 1)) (x0.length : Int)) then (if (Int.tmod (wrap64 (x4 + 1)) (x0.length : Int)) < (x0.length : Int) then ((spec_l2Cross.f ((rd_T33 x0 x4).f0) ((rd_T33 x0 x4).f1) ((rd_T33 x0 (Int.tmod (wrap64 (x4 + 1)) (x0.length : Int))).f0) ((rd_T33 x0 (Int.tmod (wrap64 (x4 + 1)) (x0.length : Int))).f1)).bind fun t259 => (spec_l31Area.l0 k x0 (wrap64 (x3 + t259)) (wrap64 (x4 + 1)))) else (none)) else (none))) else (none)) else (some x3)
def spec_l31Area.f (k : Nat) (l0 : List (S33)) : Option (Int) := spec_l31Area.l0 k l0 0 0
theorem spec_l31Area.mono_l : ∀ k, (∀ y0 y1 y2, LeO (spec_l31Area.l0 k y0 y1 y2) (spec_l31Area.l0 (k + 1) y0 y1 y2))
 | 0 => fun _ _ _ r h => by simp [spec_l31Area.l0] at h
 | k + 1 => by
  have ih0 := spec_l31Area.mono_l k
  ·intro y0 y1 y2
   unfold spec_l31Area.l0
   repeat' first
   | (with_reducible exact ih0 _ _ _)
   | (with_reducible exact LeO.refl _)
   | (with_reducible exact LeO.none _)
   | (with_reducible refine LeO.ite ?_ ?_)
   | (with_reducible refine LeO.bind ?_ (fun _ => ?_))
   | exact ih0 _ _ _
   | exact LeO.none _
   | refine LeO.ite ?_ ?_
   | refine LeO.bind ?_ (fun _ => ?_)
theorem spec_l31Area.mono : ∀ a0 k, LeO (spec_l31Area.f k a0) (spec_l31Area.f (k + 1) a0) := by
 intro a0 k
 have ih0 := spec_l31Area.mono_l k
 unfold spec_l31Area.f
 repeat' first
   | (with_reducible exact ih0 _ _ _)
   | (with_reducible exact LeO.refl _)
   | (with_reducible exact LeO.none _)
   | (with_reducible refine LeO.ite ?_ ?_)
   | (with_reducible refine LeO.bind ?_ (fun _ => ?_))
   | exact ih0 _ _ _
   | exact LeO.none _
   | refine LeO.ite ?_ ?_
   | refine LeO.bind ?_ (fun _ => ?_)
def spec_l31Area.T5 : Bool × List (List Nat × List Nat) := (true,[([],[]),([],[]),([],[]),([1,2],[1,2]),([3],[3]),([],[]),([],[]),([6],[6]),([],[]),([8],[8]),([7,9],[7,9]),([5,10],[5,10]),([11],[11]),([4,12],[4,12]),([0,13],[0,13]),([14,13,0,1,2,3,4,5,6,7,8,9,10,11,12,13,14],[0,14])])
def spec_l31Area.B5 : List Nat := [0,0,0,6,14,0,0,64,0,256,960,2016,4064,8190,16383,32767]
theorem spec_l31Area.tab5 : rtab .any (opsOf Try.f50 5) = spec_l31Area.T5 := by kernel_rfl
theorem spec_l31Area.bits5 : waitsOk spec_l31Area.T5.2 spec_l31Area.B5 = true := by kernel_rfl
set_option maxHeartbeats 8000000 in
set_option maxRecDepth 100000 in
theorem spec_l31Area.calls (k : Nat) (A0 : Option Addr) (c0 : Nat) (l0 : List (S33)) (r : Int) (w : World) (hr0 : Kd.C k33 w A0 l0.length l0) (hc0 : l0.length ≤ c0) (h : spec_l31Area.f k l0 = some r) :
  Calls Try.prog 50 #[.slice A0 l0.length c0] w fun e w' => e = .returned (.int .i64 r) ∧ Below w.heap.size w w' := by
 have hu33 := Try.underlying33
 have HR0 := Aside0.mk hr0
 have HC0 := Aside0.mk hc0
 clear hr0 hc0
 have HB := Aside0.mk (Below.refl w.heap.size w)
 have H : (spec_l31Area.l0 k l0 0 0) = some r := h
 clear h
 have H' := Aside0.mk H
 clear H
 go_enter Try.func50, Try.ntmps50
 go_wp2
 go_loopg [3, 4] k (fun kq v3 v4 w' => ∃ (x3_1 : Int) (x4_1 : Int), v3 = .int .i64 x3_1 ∧ v4 = .int .i64 x4_1 ∧ Aside0 (spec_l31Area.l0 kq l0 x3_1 x4_1 = some r) ∧ Aside0 (kq ≤ k) ∧ Aside0 (Below w.heap.size w w'))
 case atStart => exact ⟨(0), (0), (by first | rfl | (simp; done) | (simp [*]; done)), (by first | rfl | (simp; done) | (simp [*]; done)), H', ⟨Nat.le_refl _⟩, ⟨lb HB.out⟩⟩
 case round =>
  clear H'
  obtain ⟨x3_1, x4_1, rfl, rfl, HA, HK1, HB⟩ := hrel
  cases gk with
  | zero => exact absurd HA.out (by simp [spec_l31Area.l0])
  | succ k1 =>
   have H := HA.out
   clear HA
   simp only [spec_l31Area.l0] at H
   by_cases c2 : x4_1 < (l0.length : Int)
   ·rw [if_pos c2] at H
    have c2b0 : decide (x4_1 < (l0.length : Int)) = true := decide_eq_true c2
    clear c2
    by_cases c3 : 0 ≤ x4_1
    ·rw [if_pos c3] at H
     have c3b0 : decide (0 ≤ x4_1) = true := decide_eq_true c3
     clear c3
     by_cases c4 : (l0.length : Int) = 0
     ·rw [if_pos c4] at H
      exact absurd H (by simp)
     ·rw [if_neg c4] at H
      have c4b0 : ((l0.length : Int) == 0) = false := beq_eq_false_iff_ne.mpr c4
      have c4b1 : ((l0.length : Int) != 0) = true := bne_iff_ne.mpr c4
      have c4b2 : ¬ (l0 = []) := fun h_ => c4 (by rw [h_]; rfl)
      obtain ⟨ji5, hji5⟩ : ∃ j_ : Int, (Int.tmod (wrap64 (x4_1 + 1)) (l0.length : Int)) = j_ := ⟨_, rfl⟩
      replace H : (if 0 ≤ (ji5) then (if (ji5) < (l0.length : Int) then ((spec_l2Cross.f ((rd_T33 l0 x4_1).f0) ((rd_T33 l0 x4_1).f1) ((rd_T33 l0 (ji5)).f0) ((rd_T33 l0 (ji5)).f1)).bind fun t259 => (spec_l31Area.l0 k1 l0 (wrap64 (x3_1 + t259)) (wrap64 (x4_1 + 1)))) else (none)) else (none)) = some r := by first | (rw [hji5] at H; exact H) | (simp only [hji5] at H ⊢; exact H)
      by_cases c6 : 0 ≤ (ji5)
      ·rw [if_pos c6] at H
       have c6b0 : decide (0 ≤ (ji5)) = true := decide_eq_true c6
       clear c6
       by_cases c7 : (ji5) < (l0.length : Int)
       ·rw [if_pos c7] at H
        have c7b0 : decide ((ji5) < (l0.length : Int)) = true := decide_eq_true c7
        clear c7
        replace H := Option.bind_eq_some_iff.mp H
        obtain ⟨t259, A80, H⟩ := H
        replace H : (spec_l31Area.l0 k1 l0 (wrap64 (x3_1 + t259)) (wrap64 (x4_1 + 1))) = some r := H
        have A8 := Aside0.mk A80
        clear A80
        have H' := Aside0.mk H
        clear H
        try go_wp2
        have n0_ := Aside0.mk (below_drew1 HB.out)
        clear HB
        have HB := n0_
        clear n0_
        have p257 : 0 ≤ (x4_1 : Int) := oa
        have q257 : x4_1 < (l0.length : Int) := oa
        obtain ⟨ad257, e257, hx257_0, hx257_1⟩ := at_T33 HR0.out x4_1 p257 q257
        have hw257_1 := hx257_1
        have hw257_0 := hx257_0
        cases e257
        replace hx257_0 := (HB.out.cell (World.block_lt_of_cell? w _ hx257_0)).trans hx257_0
        replace hx257_1 := (HB.out.cell (World.block_lt_of_cell? w _ hx257_1)).trans hx257_1
        replace p257 := eq_true p257
        replace q257 := eq_true q257
        have p258 : 0 ≤ ((ji5) : Int) := oa
        have q258 : (ji5) < (l0.length : Int) := oa
        obtain ⟨ad258, e258, hx258_0, hx258_1⟩ := at_T33 HR0.out (ji5) p258 q258
        have hw258_1 := hx258_1
        have hw258_0 := hx258_0
        obtain rfl : ad257 = ad258 := (by injection e258)
        replace hx258_0 := (HB.out.cell (World.block_lt_of_cell? w _ hx258_0)).trans hx258_0
        replace hx258_1 := (HB.out.cell (World.block_lt_of_cell? w _ hx258_1)).trans hx258_1
        replace p258 := eq_true p258
        replace q258 := eq_true q258
        refine start_ (n := 16) (S := fun w' => w'.cell? (ad257.add ((x4_1).toNat * 2)) = some (.int .i64 ((rd_T33 l0 x4_1).f0)) ∧ w'.cell? ⟨(ad257.add ((x4_1).toNat * 2)).block, (ad257.add ((x4_1).toNat * 2)).off + 1, none⟩ = some (.int .i64 ((rd_T33 l0 x4_1).f1)) ∧ w'.cell? (ad257.add (((ji5)).toNat * 2)) = some (.int .i64 ((rd_T33 l0 (ji5)).f0)) ∧ w'.cell? ⟨(ad257.add (((ji5)).toNat * 2)).block, (ad257.add (((ji5)).toNat * 2)).off + 1, none⟩ = some (.int .i64 ((rd_T33 l0 (ji5)).f1))) (ds := []) #[false,false,false,false,false,false,false,false,false,false,false,false,false,false,false,false] (by kernel_rfl) rfl rfl ⟨((HB.out.cell (World.block_lt_of_cell? w _ hw257_0)).trans hw257_0), ((HB.out.cell (World.block_lt_of_cell? w _ hw257_1)).trans hw257_1), ((HB.out.cell (World.block_lt_of_cell? w _ hw258_0)).trans hw258_0), ((HB.out.cell (World.block_lt_of_cell? w _ hw258_1)).trans hw258_1)⟩ (fun hHeld => ?_); refine with_tabW spec_l31Area.tab5 spec_l31Area.bits5 (fun HT_ HW_ => ?_)
        generalize wr.drew = w9 at HB hx257_0 hx257_1 hx258_0 hx258_1 hHeld ⊢
        refine pq_ 0 (some 11) ?_
        refine pq_ 1 (some 12) ?_
        refine pq_ 2 (some 13) ?_
        refine pq_ 3 (some 14) ?_
        refine pq_ 5 (some 16) ?_
        refine pq_ 6 (some 17) ?_
        refine pq_ 7 (some 18) ?_
        refine pq_ 8 (some 19) ?_
        refine pq_ 9 (some 20) ?_
        refine pq_ 10 (some 21) ?_
        refine pq_ 11 (some 22) ?_
        refine tq_ 4 (some 15) ?_
        refine tq_ 12 (some 23) ?_
        refine one_ (i := 13) (N := some 24) #[true,true,true,true,true,true,true,true,true,true,true,true,true,true,false,false] rfl rfl (one_of HT_.out (by kernel_rfl)) (by decide) (fun K hK => ?_)
        refine goes_ Try.func78 (by kernel_rfl) rfl #[.agg #[.int .i64 ((rd_T33 l0 x4_1).f0), .int .i64 ((rd_T33 l0 x4_1).f1)], .agg #[.int .i64 ((rd_T33 l0 (ji5)).f0), .int .i64 ((rd_T33 l0 (ji5)).f1)]] (by rfl) rfl rfl (by (try simp only [List.map_toArray, List.map_cons, List.map_nil]); first | done | (simp only [hji5]; rfl) | rfl | (simp only [List.length_drop, List.length_take]; rfl)) ?_
        with_reducible refine (spec_l2Cross.calls ((rd_T33 l0 x4_1).f0) ((rd_T33 l0 x4_1).f1) ((rd_T33 l0 (ji5)).f0) ((rd_T33 l0 (ji5)).f1) t259 _ A8.out).mono ?_
        rintro e w10 ⟨rfl, hb⟩
        refine ⟨_, rfl, ?_⟩
        have n0_ := Aside0.mk (below_step (lb HB.out) hb)
        clear HB
        have HB := n0_
        clear n0_
        (try clear hb);(try clear hb2);(try clear hk);(try clear hi)
        refine hK.out _ _ ⟨((HB.out.cell (World.block_lt_of_cell? w _ hw257_0)).trans hw257_0), ((HB.out.cell (World.block_lt_of_cell? w _ hw257_1)).trans hw257_1), ((HB.out.cell (World.block_lt_of_cell? w _ hw258_0)).trans hw258_0), ((HB.out.cell (World.block_lt_of_cell? w _ hw258_1)).trans hw258_1)⟩ (fun hHeld => ?_)
        clear hK K
        refine norm_ (a' := ?_) ?_ ?_
        rotate_left
        ·show Act.put _ (some 24) _ = _
         simp only [Act.put, List.setIfInBounds_toArray, List.set_cons_zero, List.set_cons_succ, i64_w, i32_w]
         rfl
        refine pq_ 14 (some 25) ?_
        refine pq_ 15 (some 3) ?_
        refine done_ (done_of HT_.out (by kernel_rfl)) ?_
        try go_wp2
        go_roundg k1
        case measure => have := HK1.out; omega
        case rel => exact ⟨(wrap64 (x3_1 + t259)), (wrap64 (x4_1 + 1)), (by first | rfl | (simp; done) | (simp [*]; done)), (by first | rfl | (simp; done) | (simp [*]; done)), H', ⟨by have := HK1.out; omega⟩, ⟨lb HB.out⟩⟩
       ·rw [if_neg c7] at H
        exact absurd H (by simp)
      ·rw [if_neg c6] at H
       exact absurd H (by simp)
    ·rw [if_neg c3] at H
     exact absurd H (by simp)
   ·rw [if_neg c2] at H
    have c2b0 : decide (x4_1 < (l0.length : Int)) = false := decide_eq_false c2
    clear c2
    obtain rfl := Option.some.inj H
    go_wp2
    go_ret
    exact ⟨er, lb HB.out⟩
def spec_l1Sign.f (a0 : Int) : Option (Int) := some (mx (-1) (mn 1 a0))
set_option maxHeartbeats 8000000 in
set_option maxRecDepth 100000 in
theorem spec_l1Sign.calls (a0 : Int) (r : Int) (w : World) (h : spec_l1Sign.f a0 = some r) :
  Calls Try.prog 83 #[.int .i64 a0] w fun e w' => e = .returned (.int .i64 r) ∧ Below w.heap.size w w' := by
 have HB := Aside0.mk (Below.refl w.heap.size w)
 have H : (some (mx (-1) (mn 1 a0))) = some r := h
 clear h
 obtain ⟨ji2, hji2⟩ : ∃ j_ : Int, (mn 1 a0) = j_ := ⟨_, rfl⟩
 replace H : (some (mx (-1) (ji2))) = some r := by first | (rw [hji2] at H; exact H) | (simp only [hji2] at H ⊢; exact H)
 (try (have hji2h : ji2 ≤ 1 := by (rw [← hji2]; unfold mn; (repeat' split) <;> omega)))
 (try (have hji2g : ji2 ≤ 64 := by omega))
 have hji2_ : (if a0 < 1 then a0 else 1) = ji2 := hji2
 obtain ⟨ji3, hji3⟩ : ∃ j_ : Int, (mx (-1) (ji2)) = j_ := ⟨_, rfl⟩
 replace H : (some ji3) = some r := by first | (rw [hji3] at H; exact H) | (simp only [hji3] at H ⊢; exact H)
 have hji3_ : (if (-1) < (ji2) then (ji2) else (-1)) = ji3 := hji3
 obtain rfl := Option.some.inj H
 go_enter Try.func83, Try.ntmps83
 go_wp2
 go_ret
 exact ⟨by first | rfl | (simp [errW_none, errW_some] <;> rfl) | (simp only [← hji2, ← hji3]; first | rfl | (simp [errW_none, errW_some] <;> rfl)) | (simp [*, errW_none, errW_some] <;> rfl), lb HB.out⟩
def spec_l2Step.f (a0_0 : Int) (a0_1 : Int) (a1_0 : Int) (a1_1 : Int) : Option (Int × Int) := some (wrap64 (a1_0 - a0_0), wrap64 (a1_1 - a0_1))
set_option maxHeartbeats 8000000 in
set_option maxRecDepth 100000 in
theorem spec_l2Step.calls (a0_0 : Int) (a0_1 : Int) (a1_0 : Int) (a1_1 : Int) (r1 : Int) (r2 : Int) (w : World) (h : spec_l2Step.f a0_0 a0_1 a1_0 a1_1 = some (r1, r2)) :
  Calls Try.prog 84 #[.agg #[.int .i64 a0_0, .int .i64 a0_1], .agg #[.int .i64 a1_0, .int .i64 a1_1]] w fun e w' => e = .returned (.agg #[.int .i64 r1, .int .i64 r2]) ∧ Below w.heap.size w w' := by
 have hu33 := Try.underlying33
 have HB := Aside0.mk (Below.refl w.heap.size w)
 have H : (some (wrap64 (a1_0 - a0_0), wrap64 (a1_1 - a0_1))) = some (r1, r2) := h
 clear h
 simp only [Option.some.injEq, Prod.mk.injEq] at H
 obtain ⟨rfl, rfl⟩ := H
 go_enter Try.func84, Try.ntmps84
 go_wp2_with (first | ((with_reducible refine gate_dst (N := 2) rfl ?_); refine bx_ 2 (cs := #[.int .i64 a0_0, .int .i64 a0_1]) (t := 33) ?_; intro gb260 hg w3 hbox hb; have n0_ := Aside0.mk (below_step (lb HB.out) hb); have n1_ := Aside0.mk (hbox); have n2_ := Aside0.mk ((by rw [hg]; exact (below_size (lb HB.out)) : w.heap.size ≤ gb260)); have n3_ := Aside0.mk ((by rw [hg]; exact (below_size (lb HB.out)) : w.heap.size ≤ gb260)); clear HB; have HB := n0_; have BK260 := n1_; have GW260 := n2_; have GE260 := n3_; clear n0_ n1_ n2_ n3_; clear hb hbox hg) | ((with_reducible refine gate_dst (N := 3) rfl ?_); refine bx_ 3 (cs := #[.int .i64 a1_0, .int .i64 a1_1]) (t := 33) ?_; intro gb261 hg w4 hbox hb; have n0_ := Aside0.mk (blk_below (bf BK260.out) hb); have n1_ := Aside0.mk (below_step (lb HB.out) hb); have n2_ := Aside0.mk (hbox); have n3_ := Aside0.mk ((by rw [hg]; exact (below_size (lb HB.out)) : w.heap.size ≤ gb261)); have n4_ := Aside0.mk ((by rw [hg]; exact (below_size (lb HB.out)) : w.heap.size ≤ gb261)); have n5_ := Aside0.mk ((by rw [hg]; exact Nat.ne_of_lt (blk_lt (bf BK260.out)) : gb260 ≠ gb261)); have n6_ := Aside0.mk ((by rw [hg]; exact Nat.ne_of_gt (blk_lt (bf BK260.out)) : gb261 ≠ gb260)); clear BK260; clear HB; have BK260 := n0_; have HB := n1_; have BK261 := n2_; have GW261 := n3_; have GE261 := n4_; have NB260_261 := n5_; have NB261_260 := n6_; clear n0_ n1_ n2_ n3_ n4_ n5_ n6_; clear hb hbox hg) | ((with_reducible refine gate_dst (N := 4) rfl ?_); refine bx_ 4 (cs := #[.int .i64 0, .int .i64 0]) (t := 33) ?_; intro gb262 hg w5 hbox hb; have n0_ := Aside0.mk (blk_below (bf BK260.out) hb); have n1_ := Aside0.mk (blk_below (bf BK261.out) hb); have n2_ := Aside0.mk (below_step (lb HB.out) hb); have n3_ := Aside0.mk (hbox); have n4_ := Aside0.mk ((by rw [hg]; exact (below_size (lb HB.out)) : w.heap.size ≤ gb262)); have n5_ := Aside0.mk ((by rw [hg]; exact (below_size (lb HB.out)) : w.heap.size ≤ gb262)); have n6_ := Aside0.mk ((by rw [hg]; exact Nat.ne_of_lt (blk_lt (bf BK260.out)) : gb260 ≠ gb262)); have n7_ := Aside0.mk ((by rw [hg]; exact Nat.ne_of_gt (blk_lt (bf BK260.out)) : gb262 ≠ gb260)); have n8_ := Aside0.mk ((by rw [hg]; exact Nat.ne_of_lt (blk_lt (bf BK261.out)) : gb261 ≠ gb262)); have n9_ := Aside0.mk ((by rw [hg]; exact Nat.ne_of_gt (blk_lt (bf BK261.out)) : gb262 ≠ gb261)); clear BK260; clear BK261; clear HB; have BK260 := n0_; have BK261 := n1_; have HB := n2_; have BK262 := n3_; have GW262 := n4_; have GE262 := n5_; have NB260_262 := n6_; have NB262_260 := n7_; have NB261_262 := n8_; have NB262_261 := n9_; clear n0_ n1_ n2_ n3_ n4_ n5_ n6_ n7_ n8_ n9_; clear hb hbox hg; have hnb6 := NB261_260.out; have hnc6 := NB260_261.out; have hnb7 := NB261_262.out; have hnc7 := NB262_261.out; have hcz8_0 : w5.cell? ⟨gb261, 0, none⟩ = some (.int .i64 a1_0) := (blk_cell BK261.out 0).trans rfl; have hcz8_1 : w5.cell? ⟨gb261, 1, none⟩ = some (.int .i64 a1_1) := (blk_cell BK261.out 1).trans rfl; have hfz8_0 := blk_frozen BK261.out 0; have hfz8_1 := blk_frozen BK261.out 1; have hnb9 := NB260_262.out; have hnc9 := NB262_260.out; have hcz10_0 : w5.cell? ⟨gb260, 0, none⟩ = some (.int .i64 a0_0) := (blk_cell BK260.out 0).trans rfl; have hcz10_1 : w5.cell? ⟨gb260, 1, none⟩ = some (.int .i64 a0_1) := (blk_cell BK260.out 1).trans rfl; have hfz10_0 := blk_frozen BK260.out 0; have hfz10_1 := blk_frozen BK260.out 1; have hcz11_0 : w5.cell? ⟨gb262, 0, none⟩ = some (.int .i64 0) := (blk_cell BK262.out 0).trans rfl; have hcz11_1 : w5.cell? ⟨gb262, 1, none⟩ = some (.int .i64 0) := (blk_cell BK262.out 1).trans rfl; have hfz11_0 := blk_frozen BK262.out 0; have hfz11_1 := blk_frozen BK262.out 1))
 refine bodyPost_ret (results_cell_row rfl _ _ gb262 33 #[.int .i64 (wrap64 (a1_0 - a0_0)), .int .i64 (wrap64 (a1_1 - a0_1))] (0, 0) _ rfl (bp BK262.out) Try.underlying33 rfl (by kernel_rfl)) rfl ?_
 exact ⟨er, lb HB.out⟩
def spec_l31Side.f (a0_0 : Int) (a0_1 : Int) (a1_0 : Int) (a1_1 : Int) (a2_0 : Int) (a2_1 : Int) : Option (Int) := (spec_l2Step.f a0_0 a0_1 a1_0 a1_1).bind fun bt266 => ((spec_l2Step.f a0_0 a0_1 a2_0 a2_1).bind fun bt268 => ((spec_l2Cross.f bt266.1 bt266.2 bt268.1 bt268.2).bind fun t270 => ((spec_l1Sign.f t270).bind fun t271 => (some t271))))
def spec_l31Side.T1 : Bool × List (List Nat × List Nat) := (true,[([],[]),([],[]),([0,1],[0,1]),([],[]),([],[]),([3,4,2],[3,4]),([2,5,5],[2,5]),([6,6],[6]),([7,7,0,1,2,3,4,5,6,7],[7])])
def spec_l31Side.B1 : List Nat := [0,0,3,0,0,31,63,127,255]
theorem spec_l31Side.tab1 : rtab .any (opsOf Try.f55 1) = spec_l31Side.T1 := by kernel_rfl
theorem spec_l31Side.bits1 : waitsOk spec_l31Side.T1.2 spec_l31Side.B1 = true := by kernel_rfl
set_option maxHeartbeats 8000000 in
set_option maxRecDepth 100000 in
theorem spec_l31Side.calls (a0_0 : Int) (a0_1 : Int) (a1_0 : Int) (a1_1 : Int) (a2_0 : Int) (a2_1 : Int) (r : Int) (w : World) (h : spec_l31Side.f a0_0 a0_1 a1_0 a1_1 a2_0 a2_1 = some r) :
  Calls Try.prog 55 #[.agg #[.int .i64 a0_0, .int .i64 a0_1], .agg #[.int .i64 a1_0, .int .i64 a1_1], .agg #[.int .i64 a2_0, .int .i64 a2_1]] w fun e w' => e = .returned (.int .i64 r) ∧ Below w.heap.size w w' := by
 have hu33 := Try.underlying33
 have HB := Aside0.mk (Below.refl w.heap.size w)
 have H : ((spec_l2Step.f a0_0 a0_1 a1_0 a1_1).bind fun bt266 => ((spec_l2Step.f a0_0 a0_1 a2_0 a2_1).bind fun bt268 => ((spec_l2Cross.f bt266.1 bt266.2 bt268.1 bt268.2).bind fun t270 => ((spec_l1Sign.f t270).bind fun t271 => (some t271))))) = some r := h
 clear h
 replace H := Option.bind_eq_some_iff.mp H
 obtain ⟨⟨t266, t267⟩, A40, H⟩ := H
 replace H : ((spec_l2Step.f a0_0 a0_1 a2_0 a2_1).bind fun bt268 => ((spec_l2Cross.f t266 t267 bt268.1 bt268.2).bind fun t270 => ((spec_l1Sign.f t270).bind fun t271 => (some t271)))) = some r := H
 have A4 := Aside0.mk A40
 clear A40
 replace H := Option.bind_eq_some_iff.mp H
 obtain ⟨⟨t268, t269⟩, A50, H⟩ := H
 replace H : ((spec_l2Cross.f t266 t267 t268 t269).bind fun t270 => ((spec_l1Sign.f t270).bind fun t271 => (some t271))) = some r := H
 have A5 := Aside0.mk A50
 clear A50
 replace H := Option.bind_eq_some_iff.mp H
 obtain ⟨t270, A60, H⟩ := H
 replace H : ((spec_l1Sign.f t270).bind fun t271 => (some t271)) = some r := H
 have A6 := Aside0.mk A60
 clear A60
 replace H := Option.bind_eq_some_iff.mp H
 obtain ⟨t271, A70, H⟩ := H
 replace H : (some t271) = some r := H
 have A7 := Aside0.mk A70
 clear A70
 obtain rfl := Option.some.inj H
 go_enter Try.func55, Try.ntmps55
 try go_wp2_with (first | ((with_reducible refine gate_dst (N := 3) rfl ?_); refine bx_ 3 (cs := #[.int .i64 a0_0, .int .i64 a0_1]) (t := 33) ?_; intro gb263 hg w8 hbox hb; have n0_ := Aside0.mk (below_step (lb HB.out) hb); have n1_ := Aside0.mk (hbox); have n2_ := Aside0.mk ((by rw [hg]; exact (below_size (lb HB.out)) : w.heap.size ≤ gb263)); have n3_ := Aside0.mk ((by rw [hg]; exact (below_size (lb HB.out)) : w.heap.size ≤ gb263)); clear HB; have HB := n0_; have BK263 := n1_; have GW263 := n2_; have GE263 := n3_; clear n0_ n1_ n2_ n3_; clear hb hbox hg) | ((with_reducible refine gate_dst (N := 4) rfl ?_); refine bx_ 4 (cs := #[.int .i64 a1_0, .int .i64 a1_1]) (t := 33) ?_; intro gb264 hg w9 hbox hb; have n0_ := Aside0.mk (blk_below (bf BK263.out) hb); have n1_ := Aside0.mk (below_step (lb HB.out) hb); have n2_ := Aside0.mk (hbox); have n3_ := Aside0.mk ((by rw [hg]; exact (below_size (lb HB.out)) : w.heap.size ≤ gb264)); have n4_ := Aside0.mk ((by rw [hg]; exact (below_size (lb HB.out)) : w.heap.size ≤ gb264)); have n5_ := Aside0.mk ((by rw [hg]; exact Nat.ne_of_lt (blk_lt (bf BK263.out)) : gb263 ≠ gb264)); have n6_ := Aside0.mk ((by rw [hg]; exact Nat.ne_of_gt (blk_lt (bf BK263.out)) : gb264 ≠ gb263)); clear BK263; clear HB; have BK263 := n0_; have HB := n1_; have BK264 := n2_; have GW264 := n3_; have GE264 := n4_; have NB263_264 := n5_; have NB264_263 := n6_; clear n0_ n1_ n2_ n3_ n4_ n5_ n6_; clear hb hbox hg) | ((with_reducible refine gate_dst (N := 5) rfl ?_); refine bx_ 5 (cs := #[.int .i64 a2_0, .int .i64 a2_1]) (t := 33) ?_; intro gb265 hg w10 hbox hb; have n0_ := Aside0.mk (blk_below (bf BK263.out) hb); have n1_ := Aside0.mk (blk_below (bf BK264.out) hb); have n2_ := Aside0.mk (below_step (lb HB.out) hb); have n3_ := Aside0.mk (hbox); have n4_ := Aside0.mk ((by rw [hg]; exact (below_size (lb HB.out)) : w.heap.size ≤ gb265)); have n5_ := Aside0.mk ((by rw [hg]; exact (below_size (lb HB.out)) : w.heap.size ≤ gb265)); have n6_ := Aside0.mk ((by rw [hg]; exact Nat.ne_of_lt (blk_lt (bf BK263.out)) : gb263 ≠ gb265)); have n7_ := Aside0.mk ((by rw [hg]; exact Nat.ne_of_gt (blk_lt (bf BK263.out)) : gb265 ≠ gb263)); have n8_ := Aside0.mk ((by rw [hg]; exact Nat.ne_of_lt (blk_lt (bf BK264.out)) : gb264 ≠ gb265)); have n9_ := Aside0.mk ((by rw [hg]; exact Nat.ne_of_gt (blk_lt (bf BK264.out)) : gb265 ≠ gb264)); clear BK263; clear BK264; clear HB; have BK263 := n0_; have BK264 := n1_; have HB := n2_; have BK265 := n3_; have GW265 := n4_; have GE265 := n5_; have NB263_265 := n6_; have NB265_263 := n7_; have NB264_265 := n8_; have NB265_264 := n9_; clear n0_ n1_ n2_ n3_ n4_ n5_ n6_ n7_ n8_ n9_; clear hb hbox hg))
 have n0_ := Aside0.mk (blk_drew BK263.out)
 have n1_ := Aside0.mk (blk_drew BK264.out)
 have n2_ := Aside0.mk (blk_drew BK265.out)
 have n3_ := Aside0.mk (below_drew1 HB.out)
 clear BK263 BK264 BK265 HB
 have BK263 := n0_
 have BK264 := n1_
 have BK265 := n2_
 have HB := n3_
 clear n0_ n1_ n2_ n3_
 refine start_ (n := 9) (S := fun w' => w'.cell? ⟨gb263, 0, none⟩ = some (.int .i64 a0_0) ∧ w'.cell? ⟨gb263, 1, none⟩ = some (.int .i64 a0_1) ∧ w'.cell? ⟨gb264, 0, none⟩ = some (.int .i64 a1_0) ∧ w'.cell? ⟨gb264, 1, none⟩ = some (.int .i64 a1_1) ∧ w'.cell? ⟨gb265, 0, none⟩ = some (.int .i64 a2_0) ∧ w'.cell? ⟨gb265, 1, none⟩ = some (.int .i64 a2_1)) (ds := []) #[false,false,false,false,false,false,false,false,false] (by kernel_rfl) rfl rfl ⟨(blk_cell BK263.out 0).trans rfl, (blk_cell BK263.out 1).trans rfl, (blk_cell BK264.out 0).trans rfl, (blk_cell BK264.out 1).trans rfl, (blk_cell BK265.out 0).trans rfl, (blk_cell BK265.out 1).trans rfl⟩ (fun hHeld => ?_); refine with_tabW spec_l31Side.tab1 spec_l31Side.bits1 (fun HT_ HW_ => ?_)
 generalize w10.drew = w11 at BK263 BK264 BK265 HB hHeld ⊢
 refine tq_ 0 (some 7) ?_
 refine tq_ 1 (some 8) ?_
 refine tq_ 3 (some 10) ?_
 refine tq_ 4 (some 11) ?_
 refine one_ (i := 2) (N := some 9) #[true,true,true,true,true,false,false,false,false] rfl rfl (one_of HT_.out (by kernel_rfl)) (by decide) (fun K hK => ?_)
 refine goes_ Try.func84 (by kernel_rfl) rfl #[.agg #[.int .i64 a0_0, .int .i64 a0_1], .agg #[.int .i64 a1_0, .int .i64 a1_1]] (by rfl) rfl rfl al ?_
 with_reducible refine (spec_l2Step.calls a0_0 a0_1 a1_0 a1_1 t266 t267 _ A4.out).mono ?_
 rintro e w12 ⟨rfl, hb⟩
 refine ⟨_, rfl, ?_⟩
 have n0_ := Aside0.mk (blk_below (bf BK263.out) hb)
 have n1_ := Aside0.mk (blk_below (bf BK264.out) hb)
 have n2_ := Aside0.mk (blk_below (bf BK265.out) hb)
 have n3_ := Aside0.mk (below_step (lb HB.out) hb)
 clear BK263 BK264 BK265 HB
 have BK263 := n0_
 have BK264 := n1_
 have BK265 := n2_
 have HB := n3_
 clear n0_ n1_ n2_ n3_
 (try clear hb);(try clear hb2);(try clear hk);(try clear hi)
 refine hK.out _ _ ⟨(blk_cell BK263.out 0).trans rfl, (blk_cell BK263.out 1).trans rfl, (blk_cell BK264.out 0).trans rfl, (blk_cell BK264.out 1).trans rfl, (blk_cell BK265.out 0).trans rfl, (blk_cell BK265.out 1).trans rfl⟩ (fun hHeld => ?_)
 clear hK K
 refine norm_ (a' := ?_) ?_ ?_
 rotate_left
 ·show Act.put _ (some 9) _ = _
  simp only [Act.put, List.setIfInBounds_toArray, List.set_cons_zero, List.set_cons_succ, i64_w, i32_w]
  rfl
 refine one_ (i := 5) (N := some 12) #[true,true,true,true,true,true,false,false,false] rfl rfl (one_of HT_.out (by kernel_rfl)) (by decide) (fun K hK => ?_)
 refine goes_ Try.func84 (by kernel_rfl) rfl #[.agg #[.int .i64 a0_0, .int .i64 a0_1], .agg #[.int .i64 a2_0, .int .i64 a2_1]] (by rfl) rfl rfl al ?_
 with_reducible refine (spec_l2Step.calls a0_0 a0_1 a2_0 a2_1 t268 t269 _ A5.out).mono ?_
 rintro e w13 ⟨rfl, hb⟩
 refine ⟨_, rfl, ?_⟩
 have n0_ := Aside0.mk (blk_below (bf BK263.out) hb)
 have n1_ := Aside0.mk (blk_below (bf BK264.out) hb)
 have n2_ := Aside0.mk (blk_below (bf BK265.out) hb)
 have n3_ := Aside0.mk (below_step (lb HB.out) hb)
 clear BK263 BK264 BK265 HB
 have BK263 := n0_
 have BK264 := n1_
 have BK265 := n2_
 have HB := n3_
 clear n0_ n1_ n2_ n3_
 (try clear hb);(try clear hb2);(try clear hk);(try clear hi)
 refine hK.out _ _ ⟨(blk_cell BK263.out 0).trans rfl, (blk_cell BK263.out 1).trans rfl, (blk_cell BK264.out 0).trans rfl, (blk_cell BK264.out 1).trans rfl, (blk_cell BK265.out 0).trans rfl, (blk_cell BK265.out 1).trans rfl⟩ (fun hHeld => ?_)
 clear hK K
 refine norm_ (a' := ?_) ?_ ?_
 rotate_left
 ·show Act.put _ (some 12) _ = _
  simp only [Act.put, List.setIfInBounds_toArray, List.set_cons_zero, List.set_cons_succ, i64_w, i32_w]
  rfl
 refine one_ (i := 6) (N := some 13) #[true,true,true,true,true,true,true,false,false] rfl rfl (one_of HT_.out (by kernel_rfl)) (by decide) (fun K hK => ?_)
 refine goes_ Try.func78 (by kernel_rfl) rfl #[.agg #[.int .i64 t266, .int .i64 t267], .agg #[.int .i64 t268, .int .i64 t269]] (by rfl) rfl rfl al ?_
 with_reducible refine (spec_l2Cross.calls t266 t267 t268 t269 t270 _ A6.out).mono ?_
 rintro e w14 ⟨rfl, hb⟩
 refine ⟨_, rfl, ?_⟩
 have n0_ := Aside0.mk (blk_below (bf BK263.out) hb)
 have n1_ := Aside0.mk (blk_below (bf BK264.out) hb)
 have n2_ := Aside0.mk (blk_below (bf BK265.out) hb)
 have n3_ := Aside0.mk (below_step (lb HB.out) hb)
 clear BK263 BK264 BK265 HB
 have BK263 := n0_
 have BK264 := n1_
 have BK265 := n2_
 have HB := n3_
 clear n0_ n1_ n2_ n3_
 (try clear hb);(try clear hb2);(try clear hk);(try clear hi)
 refine hK.out _ _ ⟨(blk_cell BK263.out 0).trans rfl, (blk_cell BK263.out 1).trans rfl, (blk_cell BK264.out 0).trans rfl, (blk_cell BK264.out 1).trans rfl, (blk_cell BK265.out 0).trans rfl, (blk_cell BK265.out 1).trans rfl⟩ (fun hHeld => ?_)
 clear hK K
 refine norm_ (a' := ?_) ?_ ?_
 rotate_left
 ·show Act.put _ (some 13) _ = _
  simp only [Act.put, List.setIfInBounds_toArray, List.set_cons_zero, List.set_cons_succ, i64_w, i32_w]
  rfl
 refine one_ (i := 7) (N := some 14) #[true,true,true,true,true,true,true,true,false] rfl rfl (one_of HT_.out (by kernel_rfl)) (by decide) (fun K hK => ?_)
 refine goes_ Try.func83 (by kernel_rfl) rfl #[.int .i64 t270] (by rfl) rfl rfl al ?_
 with_reducible refine (spec_l1Sign.calls t270 t271 _ A7.out).mono ?_
 rintro e w15 ⟨rfl, hb⟩
 refine ⟨_, rfl, ?_⟩
 have n0_ := Aside0.mk (blk_below (bf BK263.out) hb)
 have n1_ := Aside0.mk (blk_below (bf BK264.out) hb)
 have n2_ := Aside0.mk (blk_below (bf BK265.out) hb)
 have n3_ := Aside0.mk (below_step (lb HB.out) hb)
 clear BK263 BK264 BK265 HB
 have BK263 := n0_
 have BK264 := n1_
 have BK265 := n2_
 have HB := n3_
 clear n0_ n1_ n2_ n3_
 (try clear hb);(try clear hb2);(try clear hk);(try clear hi)
 refine hK.out _ _ ⟨(blk_cell BK263.out 0).trans rfl, (blk_cell BK263.out 1).trans rfl, (blk_cell BK264.out 0).trans rfl, (blk_cell BK264.out 1).trans rfl, (blk_cell BK265.out 0).trans rfl, (blk_cell BK265.out 1).trans rfl⟩ (fun hHeld => ?_)
 clear hK K
 refine norm_ (a' := ?_) ?_ ?_
 rotate_left
 ·show Act.put _ (some 14) _ = _
  simp only [Act.put, List.setIfInBounds_toArray, List.set_cons_zero, List.set_cons_succ, i64_w, i32_w]
  rfl
 refine pq_ 8 (some 6) ?_
 refine done_ (done_of HT_.out (by kernel_rfl)) ?_
 try go_wp2
 go_ret
 exact ⟨er, lb HB.out⟩
def spec_l2On.f (a0_0 : Int) (a0_1 : Int) (a1_0 : Int) (a1_1 : Int) (a2_0 : Int) (a2_1 : Int) : Option (Bool) := (spec_l2Step.f a0_0 a0_1 a1_0 a1_1).bind fun bt275 => ((spec_l2Step.f a0_0 a0_1 a2_0 a2_1).bind fun bt277 => ((spec_l2Cross.f bt275.1 bt275.2 bt277.1 bt277.2).bind fun t279 => (if t279 = 0 then ((spec_l6In.f a2_0 (mn a0_0 a1_0) (mx a0_0 a1_0)).bind fun t280 => (if t280 = true then ((spec_l6In.f a2_1 (mn a0_1 a1_1) (mx a0_1 a1_1)).bind fun t281 => (some t281)) else (some false))) else (some false))))
def spec_l2On.T1 : Bool × List (List Nat × List Nat) := (true,[([],[]),([],[]),([0,1],[0,1]),([],[]),([],[]),([3,4,2],[3,4]),([2,5,5],[2,5]),([6],[6])])
def spec_l2On.B1 : List Nat := [0,0,3,0,0,31,63,127]
theorem spec_l2On.tab1 : rtab .any (opsOf Try.f87 1) = spec_l2On.T1 := by kernel_rfl
theorem spec_l2On.bits1 : waitsOk spec_l2On.T1.2 spec_l2On.B1 = true := by kernel_rfl
set_option maxHeartbeats 8000000 in
set_option maxRecDepth 100000 in
theorem spec_l2On.calls (a0_0 : Int) (a0_1 : Int) (a1_0 : Int) (a1_1 : Int) (a2_0 : Int) (a2_1 : Int) (r : Bool) (w : World) (h : spec_l2On.f a0_0 a0_1 a1_0 a1_1 a2_0 a2_1 = some r) :
  Calls Try.prog 87 #[.agg #[.int .i64 a0_0, .int .i64 a0_1], .agg #[.int .i64 a1_0, .int .i64 a1_1], .agg #[.int .i64 a2_0, .int .i64 a2_1]] w fun e w' => e = .returned (.bool r) ∧ Below w.heap.size w w' := by
 have hu33 := Try.underlying33
 have HB := Aside0.mk (Below.refl w.heap.size w)
 have H : ((spec_l2Step.f a0_0 a0_1 a1_0 a1_1).bind fun bt275 => ((spec_l2Step.f a0_0 a0_1 a2_0 a2_1).bind fun bt277 => ((spec_l2Cross.f bt275.1 bt275.2 bt277.1 bt277.2).bind fun t279 => (if t279 = 0 then ((spec_l6In.f a2_0 (mn a0_0 a1_0) (mx a0_0 a1_0)).bind fun t280 => (if t280 = true then ((spec_l6In.f a2_1 (mn a0_1 a1_1) (mx a0_1 a1_1)).bind fun t281 => (some t281)) else (some false))) else (some false))))) = some r := h
 clear h
 replace H := Option.bind_eq_some_iff.mp H
 obtain ⟨⟨t275, t276⟩, A40, H⟩ := H
 replace H : ((spec_l2Step.f a0_0 a0_1 a2_0 a2_1).bind fun bt277 => ((spec_l2Cross.f t275 t276 bt277.1 bt277.2).bind fun t279 => (if t279 = 0 then ((spec_l6In.f a2_0 (mn a0_0 a1_0) (mx a0_0 a1_0)).bind fun t280 => (if t280 = true then ((spec_l6In.f a2_1 (mn a0_1 a1_1) (mx a0_1 a1_1)).bind fun t281 => (some t281)) else (some false))) else (some false)))) = some r := H
 have A4 := Aside0.mk A40
 clear A40
 replace H := Option.bind_eq_some_iff.mp H
 obtain ⟨⟨t277, t278⟩, A50, H⟩ := H
 replace H : ((spec_l2Cross.f t275 t276 t277 t278).bind fun t279 => (if t279 = 0 then ((spec_l6In.f a2_0 (mn a0_0 a1_0) (mx a0_0 a1_0)).bind fun t280 => (if t280 = true then ((spec_l6In.f a2_1 (mn a0_1 a1_1) (mx a0_1 a1_1)).bind fun t281 => (some t281)) else (some false))) else (some false))) = some r := H
 have A5 := Aside0.mk A50
 clear A50
 replace H := Option.bind_eq_some_iff.mp H
 obtain ⟨t279, A60, H⟩ := H
 replace H : (if t279 = 0 then ((spec_l6In.f a2_0 (mn a0_0 a1_0) (mx a0_0 a1_0)).bind fun t280 => (if t280 = true then ((spec_l6In.f a2_1 (mn a0_1 a1_1) (mx a0_1 a1_1)).bind fun t281 => (some t281)) else (some false))) else (some false)) = some r := H
 have A6 := Aside0.mk A60
 clear A60
 by_cases c7 : t279 = 0
 ·rw [if_pos c7] at H
  have c7b0 : (t279 == 0) = true := beq_iff_eq.mpr c7
  have c7b1 : (t279 != 0) = false := bne_eq_false_iff_eq.mpr c7
  clear c7
  obtain ⟨ji8, hji8⟩ : ∃ j_ : Int, (mn a0_0 a1_0) = j_ := ⟨_, rfl⟩
  replace H : ((spec_l6In.f a2_0 (ji8) (mx a0_0 a1_0)).bind fun t280 => (if t280 = true then ((spec_l6In.f a2_1 (mn a0_1 a1_1) (mx a0_1 a1_1)).bind fun t281 => (some t281)) else (some false))) = some r := by first | (rw [hji8] at H; exact H) | (simp only [hji8] at H ⊢; exact H)
  (try rw [hji8] at A4)
  (try rw [hji8] at A5)
  (try rw [hji8] at A6)
  have hji8_ : (if a1_0 < a0_0 then a1_0 else a0_0) = ji8 := hji8
  obtain ⟨ji9, hji9⟩ : ∃ j_ : Int, (mx a0_0 a1_0) = j_ := ⟨_, rfl⟩
  replace H : ((spec_l6In.f a2_0 (ji8) (ji9)).bind fun t280 => (if t280 = true then ((spec_l6In.f a2_1 (mn a0_1 a1_1) (mx a0_1 a1_1)).bind fun t281 => (some t281)) else (some false))) = some r := by first | (rw [hji9] at H; exact H) | (simp only [hji9] at H ⊢; exact H)
  (try rw [hji9] at A4)
  (try rw [hji9] at A5)
  (try rw [hji9] at A6)
  have hji9_ : (if a0_0 < a1_0 then a1_0 else a0_0) = ji9 := hji9
  replace H := Option.bind_eq_some_iff.mp H
  obtain ⟨t280, A100, H⟩ := H
  replace H : (if t280 = true then ((spec_l6In.f a2_1 (mn a0_1 a1_1) (mx a0_1 a1_1)).bind fun t281 => (some t281)) else (some false)) = some r := H
  have A10 := Aside0.mk A100
  clear A100
  by_cases c11 : t280 = true
  ·subst c11
   have H1 : ((spec_l6In.f a2_1 (mn a0_1 a1_1) (mx a0_1 a1_1)).bind fun t281 => (some t281)) = some r := by rw [if_pos rfl] at H; exact H
   clear H
   have H := H1
   clear H1
   obtain ⟨ji12, hji12⟩ : ∃ j_ : Int, (mn a0_1 a1_1) = j_ := ⟨_, rfl⟩
   replace H : ((spec_l6In.f a2_1 (ji12) (mx a0_1 a1_1)).bind fun t281 => (some t281)) = some r := by first | (rw [hji12] at H; exact H) | (simp only [hji12] at H ⊢; exact H)
   (try rw [hji12] at A4)
   (try rw [hji12] at A5)
   (try rw [hji12] at A6)
   (try rw [hji12] at A10)
   have hji12_ : (if a1_1 < a0_1 then a1_1 else a0_1) = ji12 := hji12
   obtain ⟨ji13, hji13⟩ : ∃ j_ : Int, (mx a0_1 a1_1) = j_ := ⟨_, rfl⟩
   replace H : ((spec_l6In.f a2_1 (ji12) (ji13)).bind fun t281 => (some t281)) = some r := by first | (rw [hji13] at H; exact H) | (simp only [hji13] at H ⊢; exact H)
   (try rw [hji13] at A4)
   (try rw [hji13] at A5)
   (try rw [hji13] at A6)
   (try rw [hji13] at A10)
   have hji13_ : (if a0_1 < a1_1 then a1_1 else a0_1) = ji13 := hji13
   replace H := Option.bind_eq_some_iff.mp H
   obtain ⟨t281, A140, H⟩ := H
   replace H : (some t281) = some r := H
   have A14 := Aside0.mk A140
   clear A140
   obtain rfl := Option.some.inj H
   go_enter Try.func87, Try.ntmps87
   try go_wp2_with (first | ((with_reducible refine gate_dst (N := 3) rfl ?_); (try (refine gate_guard (by rfl) ?_; dsimp only)); refine bx_ 3 (cs := #[.int .i64 a0_0, .int .i64 a0_1]) (t := 33) ?_; intro gb272 hg w15 hbox hb; have n0_ := Aside0.mk (below_step (lb HB.out) hb); have n1_ := Aside0.mk (hbox); have n2_ := Aside0.mk ((by rw [hg]; exact (below_size (lb HB.out)) : w.heap.size ≤ gb272)); have n3_ := Aside0.mk ((by rw [hg]; exact (below_size (lb HB.out)) : w.heap.size ≤ gb272)); clear HB; have HB := n0_; have BK272 := n1_; have GW272 := n2_; have GE272 := n3_; clear n0_ n1_ n2_ n3_; clear hb hbox hg) | ((with_reducible refine gate_dst (N := 4) rfl ?_); (try (refine gate_guard (by rfl) ?_; dsimp only)); refine bx_ 4 (cs := #[.int .i64 a1_0, .int .i64 a1_1]) (t := 33) ?_; intro gb273 hg w16 hbox hb; have n0_ := Aside0.mk (blk_below (bf BK272.out) hb); have n1_ := Aside0.mk (below_step (lb HB.out) hb); have n2_ := Aside0.mk (hbox); have n3_ := Aside0.mk ((by rw [hg]; exact (below_size (lb HB.out)) : w.heap.size ≤ gb273)); have n4_ := Aside0.mk ((by rw [hg]; exact (below_size (lb HB.out)) : w.heap.size ≤ gb273)); have n5_ := Aside0.mk ((by rw [hg]; exact Nat.ne_of_lt (blk_lt (bf BK272.out)) : gb272 ≠ gb273)); have n6_ := Aside0.mk ((by rw [hg]; exact Nat.ne_of_gt (blk_lt (bf BK272.out)) : gb273 ≠ gb272)); clear BK272; clear HB; have BK272 := n0_; have HB := n1_; have BK273 := n2_; have GW273 := n3_; have GE273 := n4_; have NB272_273 := n5_; have NB273_272 := n6_; clear n0_ n1_ n2_ n3_ n4_ n5_ n6_; clear hb hbox hg) | ((with_reducible refine gate_dst (N := 5) rfl ?_); (try (refine gate_guard (by rfl) ?_; dsimp only)); refine bx_ 5 (cs := #[.int .i64 a2_0, .int .i64 a2_1]) (t := 33) ?_; intro gb274 hg w17 hbox hb; have n0_ := Aside0.mk (blk_below (bf BK272.out) hb); have n1_ := Aside0.mk (blk_below (bf BK273.out) hb); have n2_ := Aside0.mk (below_step (lb HB.out) hb); have n3_ := Aside0.mk (hbox); have n4_ := Aside0.mk ((by rw [hg]; exact (below_size (lb HB.out)) : w.heap.size ≤ gb274)); have n5_ := Aside0.mk ((by rw [hg]; exact (below_size (lb HB.out)) : w.heap.size ≤ gb274)); have n6_ := Aside0.mk ((by rw [hg]; exact Nat.ne_of_lt (blk_lt (bf BK272.out)) : gb272 ≠ gb274)); have n7_ := Aside0.mk ((by rw [hg]; exact Nat.ne_of_gt (blk_lt (bf BK272.out)) : gb274 ≠ gb272)); have n8_ := Aside0.mk ((by rw [hg]; exact Nat.ne_of_lt (blk_lt (bf BK273.out)) : gb273 ≠ gb274)); have n9_ := Aside0.mk ((by rw [hg]; exact Nat.ne_of_gt (blk_lt (bf BK273.out)) : gb274 ≠ gb273)); clear BK272; clear BK273; clear HB; have BK272 := n0_; have BK273 := n1_; have HB := n2_; have BK274 := n3_; have GW274 := n4_; have GE274 := n5_; have NB272_274 := n6_; have NB274_272 := n7_; have NB273_274 := n8_; have NB274_273 := n9_; clear n0_ n1_ n2_ n3_ n4_ n5_ n6_ n7_ n8_ n9_; clear hb hbox hg))
   have n0_ := Aside0.mk (blk_drew BK272.out)
   have n1_ := Aside0.mk (blk_drew BK273.out)
   have n2_ := Aside0.mk (blk_drew BK274.out)
   have n3_ := Aside0.mk (below_drew1 HB.out)
   clear BK272 BK273 BK274 HB
   have BK272 := n0_
   have BK273 := n1_
   have BK274 := n2_
   have HB := n3_
   clear n0_ n1_ n2_ n3_
   refine start_ (n := 8) (S := fun w' => w'.cell? ⟨gb272, 0, none⟩ = some (.int .i64 a0_0) ∧ w'.cell? ⟨gb272, 1, none⟩ = some (.int .i64 a0_1) ∧ w'.cell? ⟨gb273, 0, none⟩ = some (.int .i64 a1_0) ∧ w'.cell? ⟨gb273, 1, none⟩ = some (.int .i64 a1_1) ∧ w'.cell? ⟨gb274, 0, none⟩ = some (.int .i64 a2_0) ∧ w'.cell? ⟨gb274, 1, none⟩ = some (.int .i64 a2_1)) (ds := []) #[false,false,false,false,false,false,false,false] (by kernel_rfl) rfl rfl ⟨(blk_cell BK272.out 0).trans rfl, (blk_cell BK272.out 1).trans rfl, (blk_cell BK273.out 0).trans rfl, (blk_cell BK273.out 1).trans rfl, (blk_cell BK274.out 0).trans rfl, (blk_cell BK274.out 1).trans rfl⟩ (fun hHeld => ?_); refine with_tabW spec_l2On.tab1 spec_l2On.bits1 (fun HT_ HW_ => ?_)
   generalize w17.drew = w18 at BK272 BK273 BK274 HB hHeld ⊢
   refine tq_ 0 (some 7) ?_
   refine tq_ 1 (some 8) ?_
   refine tq_ 3 (some 10) ?_
   refine tq_ 4 (some 11) ?_
   refine one_ (i := 2) (N := some 9) #[true,true,true,true,true,false,false,false] rfl rfl (one_of HT_.out (by kernel_rfl)) (by decide) (fun K hK => ?_)
   refine goes_ Try.func84 (by kernel_rfl) rfl #[.agg #[.int .i64 a0_0, .int .i64 a0_1], .agg #[.int .i64 a1_0, .int .i64 a1_1]] (by rfl) rfl rfl al ?_
   with_reducible refine (spec_l2Step.calls a0_0 a0_1 a1_0 a1_1 t275 t276 _ A4.out).mono ?_
   rintro e w19 ⟨rfl, hb⟩
   refine ⟨_, rfl, ?_⟩
   have n0_ := Aside0.mk (blk_below (bf BK272.out) hb)
   have n1_ := Aside0.mk (blk_below (bf BK273.out) hb)
   have n2_ := Aside0.mk (blk_below (bf BK274.out) hb)
   have n3_ := Aside0.mk (below_step (lb HB.out) hb)
   clear BK272 BK273 BK274 HB
   have BK272 := n0_
   have BK273 := n1_
   have BK274 := n2_
   have HB := n3_
   clear n0_ n1_ n2_ n3_
   (try clear hb);(try clear hb2);(try clear hk);(try clear hi)
   refine hK.out _ _ ⟨(blk_cell BK272.out 0).trans rfl, (blk_cell BK272.out 1).trans rfl, (blk_cell BK273.out 0).trans rfl, (blk_cell BK273.out 1).trans rfl, (blk_cell BK274.out 0).trans rfl, (blk_cell BK274.out 1).trans rfl⟩ (fun hHeld => ?_)
   clear hK K
   refine norm_ (a' := ?_) ?_ ?_
   rotate_left
   ·show Act.put _ (some 9) _ = _
    simp only [Act.put, List.setIfInBounds_toArray, List.set_cons_zero, List.set_cons_succ, i64_w, i32_w]
    rfl
   refine one_ (i := 5) (N := some 12) #[true,true,true,true,true,true,false,false] rfl rfl (one_of HT_.out (by kernel_rfl)) (by decide) (fun K hK => ?_)
   refine goes_ Try.func84 (by kernel_rfl) rfl #[.agg #[.int .i64 a0_0, .int .i64 a0_1], .agg #[.int .i64 a2_0, .int .i64 a2_1]] (by rfl) rfl rfl al ?_
   with_reducible refine (spec_l2Step.calls a0_0 a0_1 a2_0 a2_1 t277 t278 _ A5.out).mono ?_
   rintro e w20 ⟨rfl, hb⟩
   refine ⟨_, rfl, ?_⟩
   have n0_ := Aside0.mk (blk_below (bf BK272.out) hb)
   have n1_ := Aside0.mk (blk_below (bf BK273.out) hb)
   have n2_ := Aside0.mk (blk_below (bf BK274.out) hb)
   have n3_ := Aside0.mk (below_step (lb HB.out) hb)
   clear BK272 BK273 BK274 HB
   have BK272 := n0_
   have BK273 := n1_
   have BK274 := n2_
   have HB := n3_
   clear n0_ n1_ n2_ n3_
   (try clear hb);(try clear hb2);(try clear hk);(try clear hi)
   refine hK.out _ _ ⟨(blk_cell BK272.out 0).trans rfl, (blk_cell BK272.out 1).trans rfl, (blk_cell BK273.out 0).trans rfl, (blk_cell BK273.out 1).trans rfl, (blk_cell BK274.out 0).trans rfl, (blk_cell BK274.out 1).trans rfl⟩ (fun hHeld => ?_)
   clear hK K
   refine norm_ (a' := ?_) ?_ ?_
   rotate_left
   ·show Act.put _ (some 12) _ = _
    simp only [Act.put, List.setIfInBounds_toArray, List.set_cons_zero, List.set_cons_succ, i64_w, i32_w]
    rfl
   refine one_ (i := 6) (N := some 13) #[true,true,true,true,true,true,true,false] rfl rfl (one_of HT_.out (by kernel_rfl)) (by decide) (fun K hK => ?_)
   refine goes_ Try.func78 (by kernel_rfl) rfl #[.agg #[.int .i64 t275, .int .i64 t276], .agg #[.int .i64 t277, .int .i64 t278]] (by rfl) rfl rfl al ?_
   with_reducible refine (spec_l2Cross.calls t275 t276 t277 t278 t279 _ A6.out).mono ?_
   rintro e w21 ⟨rfl, hb⟩
   refine ⟨_, rfl, ?_⟩
   have n0_ := Aside0.mk (blk_below (bf BK272.out) hb)
   have n1_ := Aside0.mk (blk_below (bf BK273.out) hb)
   have n2_ := Aside0.mk (blk_below (bf BK274.out) hb)
   have n3_ := Aside0.mk (below_step (lb HB.out) hb)
   clear BK272 BK273 BK274 HB
   have BK272 := n0_
   have BK273 := n1_
   have BK274 := n2_
   have HB := n3_
   clear n0_ n1_ n2_ n3_
   (try clear hb);(try clear hb2);(try clear hk);(try clear hi)
   refine hK.out _ _ ⟨(blk_cell BK272.out 0).trans rfl, (blk_cell BK272.out 1).trans rfl, (blk_cell BK273.out 0).trans rfl, (blk_cell BK273.out 1).trans rfl, (blk_cell BK274.out 0).trans rfl, (blk_cell BK274.out 1).trans rfl⟩ (fun hHeld => ?_)
   clear hK K
   refine norm_ (a' := ?_) ?_ ?_
   rotate_left
   ·show Act.put _ (some 13) _ = _
    simp only [Act.put, List.setIfInBounds_toArray, List.set_cons_zero, List.set_cons_succ, i64_w, i32_w]
    rfl
   refine pq_ 7 (some 14) ?_
   refine done_ (done_of HT_.out (by kernel_rfl)) ?_
   have hnb22 := NB274_272.out
   have hnc22 := NB272_274.out
   have hnb23 := NB274_273.out
   have hnc23 := NB273_274.out
   have hcz24_0 : w21.cell? ⟨gb274, 0, none⟩ = some (.int .i64 a2_0) := (blk_cell BK274.out 0).trans rfl
   have hcz24_1 : w21.cell? ⟨gb274, 1, none⟩ = some (.int .i64 a2_1) := (blk_cell BK274.out 1).trans rfl
   have hfz24_0 := blk_frozen BK274.out 0
   have hfz24_1 := blk_frozen BK274.out 1
   have hnb25 := NB272_273.out
   have hnc25 := NB273_272.out
   have hcz26_0 : w21.cell? ⟨gb272, 0, none⟩ = some (.int .i64 a0_0) := (blk_cell BK272.out 0).trans rfl
   have hcz26_1 : w21.cell? ⟨gb272, 1, none⟩ = some (.int .i64 a0_1) := (blk_cell BK272.out 1).trans rfl
   have hfz26_0 := blk_frozen BK272.out 0
   have hfz26_1 := blk_frozen BK272.out 1
   have hcz27_0 : w21.cell? ⟨gb273, 0, none⟩ = some (.int .i64 a1_0) := (blk_cell BK273.out 0).trans rfl
   have hcz27_1 : w21.cell? ⟨gb273, 1, none⟩ = some (.int .i64 a1_1) := (blk_cell BK273.out 1).trans rfl
   have hfz27_0 := blk_frozen BK273.out 0
   have hfz27_1 := blk_frozen BK273.out 1
   try go_wp2_with (first | ((with_reducible refine gate_callee (f := 36) rfl ?_); refine goesL_ (some 27) rfl rfl Try.func36 (by kernel_rfl) rfl #[.int .i64 a2_0, .int .i64 ji8, .int .i64 ji9] rfl (by (try simp only [List.map_toArray, List.map_cons, List.map_nil]); first | done | (simp only [hji8, hji9]; rfl) | rfl | (simp only [List.length_drop, List.length_take]; rfl)) ?_; (with_reducible refine (spec_l6In.calls a2_0 ji8 ji9 true _ A10.out).mono ?_); rintro e w' ⟨rfl, ⟨nd, rfl⟩⟩; refine ⟨_, rfl, ?_⟩) | (go_at_call 36; (with_reducible refine (spec_l6In.calls a2_1 ji12 ji13 t281 _ A14.out).mono ?_); rintro e w' ⟨rfl, ⟨nd, rfl⟩⟩))
   go_ret
   exact ⟨by first | rfl | (simp [errW_none, errW_some] <;> rfl) | (simp only [← hji8, ← hji9, ← hji12, ← hji13]; first | rfl | (simp [errW_none, errW_some] <;> rfl)) | (simp [*, errW_none, errW_some] <;> rfl), lb HB.out⟩
  ·replace c11 := Bool.eq_false_iff.mpr c11
   subst c11
   have H1 : (some false) = some r := by rw [if_neg (show ¬ (false = true) by decide)] at H; exact H
   clear H
   have H := H1
   clear H1
   obtain rfl := Option.some.inj H
   go_enter Try.func87, Try.ntmps87
   try go_wp2_with (first | ((with_reducible refine gate_dst (N := 3) rfl ?_); (try (refine gate_guard (by rfl) ?_; dsimp only)); refine bx_ 3 (cs := #[.int .i64 a0_0, .int .i64 a0_1]) (t := 33) ?_; intro gb272 hg w28 hbox hb; have n0_ := Aside0.mk (below_step (lb HB.out) hb); have n1_ := Aside0.mk (hbox); have n2_ := Aside0.mk ((by rw [hg]; exact (below_size (lb HB.out)) : w.heap.size ≤ gb272)); have n3_ := Aside0.mk ((by rw [hg]; exact (below_size (lb HB.out)) : w.heap.size ≤ gb272)); clear HB; have HB := n0_; have BK272 := n1_; have GW272 := n2_; have GE272 := n3_; clear n0_ n1_ n2_ n3_; clear hb hbox hg) | ((with_reducible refine gate_dst (N := 4) rfl ?_); (try (refine gate_guard (by rfl) ?_; dsimp only)); refine bx_ 4 (cs := #[.int .i64 a1_0, .int .i64 a1_1]) (t := 33) ?_; intro gb273 hg w29 hbox hb; have n0_ := Aside0.mk (blk_below (bf BK272.out) hb); have n1_ := Aside0.mk (below_step (lb HB.out) hb); have n2_ := Aside0.mk (hbox); have n3_ := Aside0.mk ((by rw [hg]; exact (below_size (lb HB.out)) : w.heap.size ≤ gb273)); have n4_ := Aside0.mk ((by rw [hg]; exact (below_size (lb HB.out)) : w.heap.size ≤ gb273)); have n5_ := Aside0.mk ((by rw [hg]; exact Nat.ne_of_lt (blk_lt (bf BK272.out)) : gb272 ≠ gb273)); have n6_ := Aside0.mk ((by rw [hg]; exact Nat.ne_of_gt (blk_lt (bf BK272.out)) : gb273 ≠ gb272)); clear BK272; clear HB; have BK272 := n0_; have HB := n1_; have BK273 := n2_; have GW273 := n3_; have GE273 := n4_; have NB272_273 := n5_; have NB273_272 := n6_; clear n0_ n1_ n2_ n3_ n4_ n5_ n6_; clear hb hbox hg) | ((with_reducible refine gate_dst (N := 5) rfl ?_); (try (refine gate_guard (by rfl) ?_; dsimp only)); refine bx_ 5 (cs := #[.int .i64 a2_0, .int .i64 a2_1]) (t := 33) ?_; intro gb274 hg w30 hbox hb; have n0_ := Aside0.mk (blk_below (bf BK272.out) hb); have n1_ := Aside0.mk (blk_below (bf BK273.out) hb); have n2_ := Aside0.mk (below_step (lb HB.out) hb); have n3_ := Aside0.mk (hbox); have n4_ := Aside0.mk ((by rw [hg]; exact (below_size (lb HB.out)) : w.heap.size ≤ gb274)); have n5_ := Aside0.mk ((by rw [hg]; exact (below_size (lb HB.out)) : w.heap.size ≤ gb274)); have n6_ := Aside0.mk ((by rw [hg]; exact Nat.ne_of_lt (blk_lt (bf BK272.out)) : gb272 ≠ gb274)); have n7_ := Aside0.mk ((by rw [hg]; exact Nat.ne_of_gt (blk_lt (bf BK272.out)) : gb274 ≠ gb272)); have n8_ := Aside0.mk ((by rw [hg]; exact Nat.ne_of_lt (blk_lt (bf BK273.out)) : gb273 ≠ gb274)); have n9_ := Aside0.mk ((by rw [hg]; exact Nat.ne_of_gt (blk_lt (bf BK273.out)) : gb274 ≠ gb273)); clear BK272; clear BK273; clear HB; have BK272 := n0_; have BK273 := n1_; have HB := n2_; have BK274 := n3_; have GW274 := n4_; have GE274 := n5_; have NB272_274 := n6_; have NB274_272 := n7_; have NB273_274 := n8_; have NB274_273 := n9_; clear n0_ n1_ n2_ n3_ n4_ n5_ n6_ n7_ n8_ n9_; clear hb hbox hg))
   have n0_ := Aside0.mk (blk_drew BK272.out)
   have n1_ := Aside0.mk (blk_drew BK273.out)
   have n2_ := Aside0.mk (blk_drew BK274.out)
   have n3_ := Aside0.mk (below_drew1 HB.out)
   clear BK272 BK273 BK274 HB
   have BK272 := n0_
   have BK273 := n1_
   have BK274 := n2_
   have HB := n3_
   clear n0_ n1_ n2_ n3_
   refine start_ (n := 8) (S := fun w' => w'.cell? ⟨gb272, 0, none⟩ = some (.int .i64 a0_0) ∧ w'.cell? ⟨gb272, 1, none⟩ = some (.int .i64 a0_1) ∧ w'.cell? ⟨gb273, 0, none⟩ = some (.int .i64 a1_0) ∧ w'.cell? ⟨gb273, 1, none⟩ = some (.int .i64 a1_1) ∧ w'.cell? ⟨gb274, 0, none⟩ = some (.int .i64 a2_0) ∧ w'.cell? ⟨gb274, 1, none⟩ = some (.int .i64 a2_1)) (ds := []) #[false,false,false,false,false,false,false,false] (by kernel_rfl) rfl rfl ⟨(blk_cell BK272.out 0).trans rfl, (blk_cell BK272.out 1).trans rfl, (blk_cell BK273.out 0).trans rfl, (blk_cell BK273.out 1).trans rfl, (blk_cell BK274.out 0).trans rfl, (blk_cell BK274.out 1).trans rfl⟩ (fun hHeld => ?_); refine with_tabW spec_l2On.tab1 spec_l2On.bits1 (fun HT_ HW_ => ?_)
   generalize w30.drew = w31 at BK272 BK273 BK274 HB hHeld ⊢
   refine tq_ 0 (some 7) ?_
   refine tq_ 1 (some 8) ?_
   refine tq_ 3 (some 10) ?_
   refine tq_ 4 (some 11) ?_
   refine one_ (i := 2) (N := some 9) #[true,true,true,true,true,false,false,false] rfl rfl (one_of HT_.out (by kernel_rfl)) (by decide) (fun K hK => ?_)
   refine goes_ Try.func84 (by kernel_rfl) rfl #[.agg #[.int .i64 a0_0, .int .i64 a0_1], .agg #[.int .i64 a1_0, .int .i64 a1_1]] (by rfl) rfl rfl al ?_
   with_reducible refine (spec_l2Step.calls a0_0 a0_1 a1_0 a1_1 t275 t276 _ A4.out).mono ?_
   rintro e w32 ⟨rfl, hb⟩
   refine ⟨_, rfl, ?_⟩
   have n0_ := Aside0.mk (blk_below (bf BK272.out) hb)
   have n1_ := Aside0.mk (blk_below (bf BK273.out) hb)
   have n2_ := Aside0.mk (blk_below (bf BK274.out) hb)
   have n3_ := Aside0.mk (below_step (lb HB.out) hb)
   clear BK272 BK273 BK274 HB
   have BK272 := n0_
   have BK273 := n1_
   have BK274 := n2_
   have HB := n3_
   clear n0_ n1_ n2_ n3_
   (try clear hb);(try clear hb2);(try clear hk);(try clear hi)
   refine hK.out _ _ ⟨(blk_cell BK272.out 0).trans rfl, (blk_cell BK272.out 1).trans rfl, (blk_cell BK273.out 0).trans rfl, (blk_cell BK273.out 1).trans rfl, (blk_cell BK274.out 0).trans rfl, (blk_cell BK274.out 1).trans rfl⟩ (fun hHeld => ?_)
   clear hK K
   refine norm_ (a' := ?_) ?_ ?_
   rotate_left
   ·show Act.put _ (some 9) _ = _
    simp only [Act.put, List.setIfInBounds_toArray, List.set_cons_zero, List.set_cons_succ, i64_w, i32_w]
    rfl
   refine one_ (i := 5) (N := some 12) #[true,true,true,true,true,true,false,false] rfl rfl (one_of HT_.out (by kernel_rfl)) (by decide) (fun K hK => ?_)
   refine goes_ Try.func84 (by kernel_rfl) rfl #[.agg #[.int .i64 a0_0, .int .i64 a0_1], .agg #[.int .i64 a2_0, .int .i64 a2_1]] (by rfl) rfl rfl al ?_
   with_reducible refine (spec_l2Step.calls a0_0 a0_1 a2_0 a2_1 t277 t278 _ A5.out).mono ?_
   rintro e w33 ⟨rfl, hb⟩
   refine ⟨_, rfl, ?_⟩
   have n0_ := Aside0.mk (blk_below (bf BK272.out) hb)
   have n1_ := Aside0.mk (blk_below (bf BK273.out) hb)
   have n2_ := Aside0.mk (blk_below (bf BK274.out) hb)
   have n3_ := Aside0.mk (below_step (lb HB.out) hb)
   clear BK272 BK273 BK274 HB
   have BK272 := n0_
   have BK273 := n1_
   have BK274 := n2_
   have HB := n3_
   clear n0_ n1_ n2_ n3_
   (try clear hb);(try clear hb2);(try clear hk);(try clear hi)
   refine hK.out _ _ ⟨(blk_cell BK272.out 0).trans rfl, (blk_cell BK272.out 1).trans rfl, (blk_cell BK273.out 0).trans rfl, (blk_cell BK273.out 1).trans rfl, (blk_cell BK274.out 0).trans rfl, (blk_cell BK274.out 1).trans rfl⟩ (fun hHeld => ?_)
   clear hK K
   refine norm_ (a' := ?_) ?_ ?_
   rotate_left
   ·show Act.put _ (some 12) _ = _
    simp only [Act.put, List.setIfInBounds_toArray, List.set_cons_zero, List.set_cons_succ, i64_w, i32_w]
    rfl
   refine one_ (i := 6) (N := some 13) #[true,true,true,true,true,true,true,false] rfl rfl (one_of HT_.out (by kernel_rfl)) (by decide) (fun K hK => ?_)
   refine goes_ Try.func78 (by kernel_rfl) rfl #[.agg #[.int .i64 t275, .int .i64 t276], .agg #[.int .i64 t277, .int .i64 t278]] (by rfl) rfl rfl al ?_
   with_reducible refine (spec_l2Cross.calls t275 t276 t277 t278 t279 _ A6.out).mono ?_
   rintro e w34 ⟨rfl, hb⟩
   refine ⟨_, rfl, ?_⟩
   have n0_ := Aside0.mk (blk_below (bf BK272.out) hb)
   have n1_ := Aside0.mk (blk_below (bf BK273.out) hb)
   have n2_ := Aside0.mk (blk_below (bf BK274.out) hb)
   have n3_ := Aside0.mk (below_step (lb HB.out) hb)
   clear BK272 BK273 BK274 HB
   have BK272 := n0_
   have BK273 := n1_
   have BK274 := n2_
   have HB := n3_
   clear n0_ n1_ n2_ n3_
   (try clear hb);(try clear hb2);(try clear hk);(try clear hi)
   refine hK.out _ _ ⟨(blk_cell BK272.out 0).trans rfl, (blk_cell BK272.out 1).trans rfl, (blk_cell BK273.out 0).trans rfl, (blk_cell BK273.out 1).trans rfl, (blk_cell BK274.out 0).trans rfl, (blk_cell BK274.out 1).trans rfl⟩ (fun hHeld => ?_)
   clear hK K
   refine norm_ (a' := ?_) ?_ ?_
   rotate_left
   ·show Act.put _ (some 13) _ = _
    simp only [Act.put, List.setIfInBounds_toArray, List.set_cons_zero, List.set_cons_succ, i64_w, i32_w]
    rfl
   refine pq_ 7 (some 14) ?_
   refine done_ (done_of HT_.out (by kernel_rfl)) ?_
   have hnb35 := NB274_272.out
   have hnc35 := NB272_274.out
   have hnb36 := NB274_273.out
   have hnc36 := NB273_274.out
   have hcz37_0 : w34.cell? ⟨gb274, 0, none⟩ = some (.int .i64 a2_0) := (blk_cell BK274.out 0).trans rfl
   have hcz37_1 : w34.cell? ⟨gb274, 1, none⟩ = some (.int .i64 a2_1) := (blk_cell BK274.out 1).trans rfl
   have hfz37_0 := blk_frozen BK274.out 0
   have hfz37_1 := blk_frozen BK274.out 1
   have hnb38 := NB272_273.out
   have hnc38 := NB273_272.out
   have hcz39_0 : w34.cell? ⟨gb272, 0, none⟩ = some (.int .i64 a0_0) := (blk_cell BK272.out 0).trans rfl
   have hcz39_1 : w34.cell? ⟨gb272, 1, none⟩ = some (.int .i64 a0_1) := (blk_cell BK272.out 1).trans rfl
   have hfz39_0 := blk_frozen BK272.out 0
   have hfz39_1 := blk_frozen BK272.out 1
   have hcz40_0 : w34.cell? ⟨gb273, 0, none⟩ = some (.int .i64 a1_0) := (blk_cell BK273.out 0).trans rfl
   have hcz40_1 : w34.cell? ⟨gb273, 1, none⟩ = some (.int .i64 a1_1) := (blk_cell BK273.out 1).trans rfl
   have hfz40_0 := blk_frozen BK273.out 0
   have hfz40_1 := blk_frozen BK273.out 1
   try go_wp2_with (first | ((with_reducible refine gate_callee (f := 36) rfl ?_); refine goesL_ (some 27) rfl rfl Try.func36 (by kernel_rfl) rfl #[.int .i64 a2_0, .int .i64 ji8, .int .i64 ji9] rfl (by (try simp only [List.map_toArray, List.map_cons, List.map_nil]); first | done | (simp only [hji8, hji9]; rfl) | rfl | (simp only [List.length_drop, List.length_take]; rfl)) ?_; (with_reducible refine (spec_l6In.calls a2_0 ji8 ji9 false _ A10.out).mono ?_); rintro e w' ⟨rfl, ⟨nd, rfl⟩⟩; refine ⟨_, rfl, ?_⟩))
   go_ret
   exact ⟨by first | rfl | (simp [errW_none, errW_some] <;> rfl) | (simp only [← hji8, ← hji9]; first | rfl | (simp [errW_none, errW_some] <;> rfl)) | (simp [*, errW_none, errW_some] <;> rfl), lb HB.out⟩
 ·rw [if_neg c7] at H
  have c7b0 : (t279 == 0) = false := beq_eq_false_iff_ne.mpr c7
  have c7b1 : (t279 != 0) = true := bne_iff_ne.mpr c7
  obtain rfl := Option.some.inj H
  go_enter Try.func87, Try.ntmps87
  try go_wp2_with (first | ((with_reducible refine gate_dst (N := 3) rfl ?_); (try (refine gate_guard (by rfl) ?_; dsimp only)); refine bx_ 3 (cs := #[.int .i64 a0_0, .int .i64 a0_1]) (t := 33) ?_; intro gb272 hg w41 hbox hb; have n0_ := Aside0.mk (below_step (lb HB.out) hb); have n1_ := Aside0.mk (hbox); have n2_ := Aside0.mk ((by rw [hg]; exact (below_size (lb HB.out)) : w.heap.size ≤ gb272)); have n3_ := Aside0.mk ((by rw [hg]; exact (below_size (lb HB.out)) : w.heap.size ≤ gb272)); clear HB; have HB := n0_; have BK272 := n1_; have GW272 := n2_; have GE272 := n3_; clear n0_ n1_ n2_ n3_; clear hb hbox hg) | ((with_reducible refine gate_dst (N := 4) rfl ?_); (try (refine gate_guard (by rfl) ?_; dsimp only)); refine bx_ 4 (cs := #[.int .i64 a1_0, .int .i64 a1_1]) (t := 33) ?_; intro gb273 hg w42 hbox hb; have n0_ := Aside0.mk (blk_below (bf BK272.out) hb); have n1_ := Aside0.mk (below_step (lb HB.out) hb); have n2_ := Aside0.mk (hbox); have n3_ := Aside0.mk ((by rw [hg]; exact (below_size (lb HB.out)) : w.heap.size ≤ gb273)); have n4_ := Aside0.mk ((by rw [hg]; exact (below_size (lb HB.out)) : w.heap.size ≤ gb273)); have n5_ := Aside0.mk ((by rw [hg]; exact Nat.ne_of_lt (blk_lt (bf BK272.out)) : gb272 ≠ gb273)); have n6_ := Aside0.mk ((by rw [hg]; exact Nat.ne_of_gt (blk_lt (bf BK272.out)) : gb273 ≠ gb272)); clear BK272; clear HB; have BK272 := n0_; have HB := n1_; have BK273 := n2_; have GW273 := n3_; have GE273 := n4_; have NB272_273 := n5_; have NB273_272 := n6_; clear n0_ n1_ n2_ n3_ n4_ n5_ n6_; clear hb hbox hg) | ((with_reducible refine gate_dst (N := 5) rfl ?_); (try (refine gate_guard (by rfl) ?_; dsimp only)); refine bx_ 5 (cs := #[.int .i64 a2_0, .int .i64 a2_1]) (t := 33) ?_; intro gb274 hg w43 hbox hb; have n0_ := Aside0.mk (blk_below (bf BK272.out) hb); have n1_ := Aside0.mk (blk_below (bf BK273.out) hb); have n2_ := Aside0.mk (below_step (lb HB.out) hb); have n3_ := Aside0.mk (hbox); have n4_ := Aside0.mk ((by rw [hg]; exact (below_size (lb HB.out)) : w.heap.size ≤ gb274)); have n5_ := Aside0.mk ((by rw [hg]; exact (below_size (lb HB.out)) : w.heap.size ≤ gb274)); have n6_ := Aside0.mk ((by rw [hg]; exact Nat.ne_of_lt (blk_lt (bf BK272.out)) : gb272 ≠ gb274)); have n7_ := Aside0.mk ((by rw [hg]; exact Nat.ne_of_gt (blk_lt (bf BK272.out)) : gb274 ≠ gb272)); have n8_ := Aside0.mk ((by rw [hg]; exact Nat.ne_of_lt (blk_lt (bf BK273.out)) : gb273 ≠ gb274)); have n9_ := Aside0.mk ((by rw [hg]; exact Nat.ne_of_gt (blk_lt (bf BK273.out)) : gb274 ≠ gb273)); clear BK272; clear BK273; clear HB; have BK272 := n0_; have BK273 := n1_; have HB := n2_; have BK274 := n3_; have GW274 := n4_; have GE274 := n5_; have NB272_274 := n6_; have NB274_272 := n7_; have NB273_274 := n8_; have NB274_273 := n9_; clear n0_ n1_ n2_ n3_ n4_ n5_ n6_ n7_ n8_ n9_; clear hb hbox hg))
  have n0_ := Aside0.mk (blk_drew BK272.out)
  have n1_ := Aside0.mk (blk_drew BK273.out)
  have n2_ := Aside0.mk (blk_drew BK274.out)
  have n3_ := Aside0.mk (below_drew1 HB.out)
  clear BK272 BK273 BK274 HB
  have BK272 := n0_
  have BK273 := n1_
  have BK274 := n2_
  have HB := n3_
  clear n0_ n1_ n2_ n3_
  refine start_ (n := 8) (S := fun w' => w'.cell? ⟨gb272, 0, none⟩ = some (.int .i64 a0_0) ∧ w'.cell? ⟨gb272, 1, none⟩ = some (.int .i64 a0_1) ∧ w'.cell? ⟨gb273, 0, none⟩ = some (.int .i64 a1_0) ∧ w'.cell? ⟨gb273, 1, none⟩ = some (.int .i64 a1_1) ∧ w'.cell? ⟨gb274, 0, none⟩ = some (.int .i64 a2_0) ∧ w'.cell? ⟨gb274, 1, none⟩ = some (.int .i64 a2_1)) (ds := []) #[false,false,false,false,false,false,false,false] (by kernel_rfl) rfl rfl ⟨(blk_cell BK272.out 0).trans rfl, (blk_cell BK272.out 1).trans rfl, (blk_cell BK273.out 0).trans rfl, (blk_cell BK273.out 1).trans rfl, (blk_cell BK274.out 0).trans rfl, (blk_cell BK274.out 1).trans rfl⟩ (fun hHeld => ?_); refine with_tabW spec_l2On.tab1 spec_l2On.bits1 (fun HT_ HW_ => ?_)
  generalize w43.drew = w44 at BK272 BK273 BK274 HB hHeld ⊢
  refine tq_ 0 (some 7) ?_
  refine tq_ 1 (some 8) ?_
  refine tq_ 3 (some 10) ?_
  refine tq_ 4 (some 11) ?_
  refine one_ (i := 2) (N := some 9) #[true,true,true,true,true,false,false,false] rfl rfl (one_of HT_.out (by kernel_rfl)) (by decide) (fun K hK => ?_)
  refine goes_ Try.func84 (by kernel_rfl) rfl #[.agg #[.int .i64 a0_0, .int .i64 a0_1], .agg #[.int .i64 a1_0, .int .i64 a1_1]] (by rfl) rfl rfl al ?_
  with_reducible refine (spec_l2Step.calls a0_0 a0_1 a1_0 a1_1 t275 t276 _ A4.out).mono ?_
  rintro e w45 ⟨rfl, hb⟩
  refine ⟨_, rfl, ?_⟩
  have n0_ := Aside0.mk (blk_below (bf BK272.out) hb)
  have n1_ := Aside0.mk (blk_below (bf BK273.out) hb)
  have n2_ := Aside0.mk (blk_below (bf BK274.out) hb)
  have n3_ := Aside0.mk (below_step (lb HB.out) hb)
  clear BK272 BK273 BK274 HB
  have BK272 := n0_
  have BK273 := n1_
  have BK274 := n2_
  have HB := n3_
  clear n0_ n1_ n2_ n3_
  (try clear hb);(try clear hb2);(try clear hk);(try clear hi)
  refine hK.out _ _ ⟨(blk_cell BK272.out 0).trans rfl, (blk_cell BK272.out 1).trans rfl, (blk_cell BK273.out 0).trans rfl, (blk_cell BK273.out 1).trans rfl, (blk_cell BK274.out 0).trans rfl, (blk_cell BK274.out 1).trans rfl⟩ (fun hHeld => ?_)
  clear hK K
  refine norm_ (a' := ?_) ?_ ?_
  rotate_left
  ·show Act.put _ (some 9) _ = _
   simp only [Act.put, List.setIfInBounds_toArray, List.set_cons_zero, List.set_cons_succ, i64_w, i32_w]
   rfl
  refine one_ (i := 5) (N := some 12) #[true,true,true,true,true,true,false,false] rfl rfl (one_of HT_.out (by kernel_rfl)) (by decide) (fun K hK => ?_)
  refine goes_ Try.func84 (by kernel_rfl) rfl #[.agg #[.int .i64 a0_0, .int .i64 a0_1], .agg #[.int .i64 a2_0, .int .i64 a2_1]] (by rfl) rfl rfl al ?_
  with_reducible refine (spec_l2Step.calls a0_0 a0_1 a2_0 a2_1 t277 t278 _ A5.out).mono ?_
  rintro e w46 ⟨rfl, hb⟩
  refine ⟨_, rfl, ?_⟩
  have n0_ := Aside0.mk (blk_below (bf BK272.out) hb)
  have n1_ := Aside0.mk (blk_below (bf BK273.out) hb)
  have n2_ := Aside0.mk (blk_below (bf BK274.out) hb)
  have n3_ := Aside0.mk (below_step (lb HB.out) hb)
  clear BK272 BK273 BK274 HB
  have BK272 := n0_
  have BK273 := n1_
  have BK274 := n2_
  have HB := n3_
  clear n0_ n1_ n2_ n3_
  (try clear hb);(try clear hb2);(try clear hk);(try clear hi)
  refine hK.out _ _ ⟨(blk_cell BK272.out 0).trans rfl, (blk_cell BK272.out 1).trans rfl, (blk_cell BK273.out 0).trans rfl, (blk_cell BK273.out 1).trans rfl, (blk_cell BK274.out 0).trans rfl, (blk_cell BK274.out 1).trans rfl⟩ (fun hHeld => ?_)
  clear hK K
  refine norm_ (a' := ?_) ?_ ?_
  rotate_left
  ·show Act.put _ (some 12) _ = _
   simp only [Act.put, List.setIfInBounds_toArray, List.set_cons_zero, List.set_cons_succ, i64_w, i32_w]
   rfl
  refine one_ (i := 6) (N := some 13) #[true,true,true,true,true,true,true,false] rfl rfl (one_of HT_.out (by kernel_rfl)) (by decide) (fun K hK => ?_)
  refine goes_ Try.func78 (by kernel_rfl) rfl #[.agg #[.int .i64 t275, .int .i64 t276], .agg #[.int .i64 t277, .int .i64 t278]] (by rfl) rfl rfl al ?_
  with_reducible refine (spec_l2Cross.calls t275 t276 t277 t278 t279 _ A6.out).mono ?_
  rintro e w47 ⟨rfl, hb⟩
  refine ⟨_, rfl, ?_⟩
  have n0_ := Aside0.mk (blk_below (bf BK272.out) hb)
  have n1_ := Aside0.mk (blk_below (bf BK273.out) hb)
  have n2_ := Aside0.mk (blk_below (bf BK274.out) hb)
  have n3_ := Aside0.mk (below_step (lb HB.out) hb)
  clear BK272 BK273 BK274 HB
  have BK272 := n0_
  have BK273 := n1_
  have BK274 := n2_
  have HB := n3_
  clear n0_ n1_ n2_ n3_
  (try clear hb);(try clear hb2);(try clear hk);(try clear hi)
  refine hK.out _ _ ⟨(blk_cell BK272.out 0).trans rfl, (blk_cell BK272.out 1).trans rfl, (blk_cell BK273.out 0).trans rfl, (blk_cell BK273.out 1).trans rfl, (blk_cell BK274.out 0).trans rfl, (blk_cell BK274.out 1).trans rfl⟩ (fun hHeld => ?_)
  clear hK K
  refine norm_ (a' := ?_) ?_ ?_
  rotate_left
  ·show Act.put _ (some 13) _ = _
   simp only [Act.put, List.setIfInBounds_toArray, List.set_cons_zero, List.set_cons_succ, i64_w, i32_w]
   rfl
  refine pq_ 7 (some 14) ?_
  refine done_ (done_of HT_.out (by kernel_rfl)) ?_
  try go_wp2
  go_ret
  exact ⟨er, lb HB.out⟩
end Go.Proofs.Ytfonigbkoligmaa.P
-- squeezed

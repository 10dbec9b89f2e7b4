-- Written by a program of this session (wip/xprint.py over the print's own program), not by print.sh. Lean checks it.
import Derived.Test.YtgoejfdciejikaaPx0
import Derived.Test.YtgoejfdciejikaaPx8
import Derived.Test.YtgoejfdciejikaaPx20
namespace Go.Proofs.Ytgoejfdciejikaa.P
open Go.RowKit Go.Proofs.YtgoejfdciejikaaW.PrintWords Go.Proofs.YtgoejfdciejikaaW.PrintLast Go.Proofs.YtgoejfdciejikaaW.PrintMore
attribute [local go_sem] max2_int min2_int max_two min_two max_three min_three max_four min_four   -- for this text's walks alone
set_option linter.unusedVariables false
set_option linter.unusedSimpArgs false

-- EXTERNAL impl_CrossOf: function 18
set_option maxHeartbeats 4000000 in
theorem crossOf_no (ax ay bx by_ cx cy dx dy : Int) (hl : lnOk ax ay bx by_ cx cy dx dy = false) (w : World) : Calls Try.prog 18 #[.agg #[.int .i64 ax, .int .i64 ay], .agg #[.int .i64 bx, .int .i64 by_], .agg #[.int .i64 cx, .int .i64 cy], .agg #[.int .i64 dx, .int .i64 dy]] w fun e w' => e = .returned (.tuple #[.agg #[.int .i64 0, .int .i64 0], .bool false]) ∧ Below w.heap.size w w' := by
  have HL := Aside0.mk hl
  have HM := Aside0.mk (Hd.nil w)
  clear hl
  go_enter Try.func18, Try.ntmps18
  go_upto_region 1 with (first
    | ((with_reducible refine gate_dst (N := 4) rfl ?_); refine box_event ?hg (N := 4) ?hd (cs := #[.int .i64 ax, .int .i64 ay]) (t := 25) ?hr ?_; (case hd => rfl); (case hg => rfl); (case hr => first | (go_simp; done) | (go_simp; rfl)); intro g4 e_ w_ b_ hb; replace HM := Aside0.mk (HM.out.box hb b_ e_); clear e_ b_ hb)
    | ((with_reducible refine gate_dst (N := 5) rfl ?_); refine box_event ?hg (N := 5) ?hd (cs := #[.int .i64 bx, .int .i64 by_]) (t := 25) ?hr ?_; (case hd => rfl); (case hg => rfl); (case hr => first | (go_simp; done) | (go_simp; rfl)); intro g5 e_ w_ b_ hb; replace HM := Aside0.mk (HM.out.box hb b_ e_); clear e_ b_ hb)
    | ((with_reducible refine gate_dst (N := 6) rfl ?_); refine box_event ?hg (N := 6) ?hd (cs := #[.int .i64 cx, .int .i64 cy]) (t := 25) ?hr ?_; (case hd => rfl); (case hg => rfl); (case hr => first | (go_simp; done) | (go_simp; rfl)); intro g6 e_ w_ b_ hb; replace HM := Aside0.mk (HM.out.box hb b_ e_); clear e_ b_ hb)
    | ((with_reducible refine gate_dst (N := 7) rfl ?_); refine box_event ?hg (N := 7) ?hd (cs := #[.int .i64 dx, .int .i64 dy]) (t := 25) ?hr ?_; (case hd => rfl); (case hg => rfl); (case hr => first | (go_simp; done) | (go_simp; rfl)); intro g7 e_ w_ b_ hb; replace HM := Aside0.mk (HM.out.box hb b_ e_); clear e_ b_ hb))
  replace HM := Aside0.mk (HM.out.alloc #[.int .i64 0, .int .i64 0] 29)
  (try simp only [Act.put, List.setIfInBounds_toArray, List.set_cons_zero, List.set_cons_succ])
  generalize w_.alloc (.cells #[.int .i64 0, .int .i64 0] 29) = w8 at *
  generalize w_.heap.size = g8 at *
  have ka0 := blk_cell HM.out.a4 0
  have ka1 := blk_cell HM.out.a4 1
  have kb0 := blk_cell HM.out.a3 0
  have kb1 := blk_cell HM.out.a3 1
  have kc0 := blk_cell HM.out.a2 0
  have kc1 := blk_cell HM.out.a2 1
  have kd0 := blk_cell HM.out.a1 0
  have kd1 := blk_cell HM.out.a1 1
  have kr0 := blk_cell HM.out.a0 0
  have kr1 := blk_cell HM.out.a0 1
  have krf0 := blk_frozen HM.out.a0 0
  have krf1 := blk_frozen HM.out.a0 1
  go_wp2_with (go_at_call 39; (with_reducible refine (lines_f ax ay bx by_ cx cy dx dy HL.out _).mono ?_); rintro e w_ ⟨rfl, hb⟩; replace HM := Aside0.mk (HM.out.keep hb); clear hb; (try clear ka0 ka1 kb0 kb1 kc0 kc1 kd0 kd1 kr0 krf0 kr1 krf1); have ka0 := blk_cell HM.out.a4 0; have ka1 := blk_cell HM.out.a4 1; have kb0 := blk_cell HM.out.a3 0; have kb1 := blk_cell HM.out.a3 1; have kc0 := blk_cell HM.out.a2 0; have kc1 := blk_cell HM.out.a2 1; have kd0 := blk_cell HM.out.a1 0; have kd1 := blk_cell HM.out.a1 1; have kr0 := blk_cell HM.out.a0 0; have kr1 := blk_cell HM.out.a0 1; have krf0 := blk_frozen HM.out.a0 0; have krf1 := blk_frozen HM.out.a0 1)
  have HZ := HM.out.put2 (.int .i64 0) (.int .i64 0)
  exact bodyPost_ret (results_ct rfl _ _ g8 29 #[.int .i64 0, .int .i64 0] (0, 0) _ rfl HZ.a0 Try.underlying29 rfl (by kernel_rfl)) rfl ⟨rfl, HZ.1⟩
set_option maxHeartbeats 4000000 in
theorem crossOf_yes (k : Nat) (ax ay bx by_ cx cy dx dy : Int) (tp lo r1 r2 : Int) (r3 : Bool) (hl : lnOk ax ay bx by_ cx cy dx dy = true) (hv : alI ax ay (wrap64 (bx - ax)) (wrap64 (by_ - ay)) cx cy (wrap64 (dx - cx)) (wrap64 (dy - cy)) = (tp, lo)) (hq : impl_QuoOf.f k tp lo = some (r1, r2, r3)) (w : World) : Calls Try.prog 18 #[.agg #[.int .i64 ax, .int .i64 ay], .agg #[.int .i64 bx, .int .i64 by_], .agg #[.int .i64 cx, .int .i64 cy], .agg #[.int .i64 dx, .int .i64 dy]] w fun e w' => e = .returned (.tuple #[.agg #[.int .i64 r1, .int .i64 r2], .bool r3]) ∧ Below w.heap.size w w' := by
  have HV1 := Aside0.mk hv
  have HQ := Aside0.mk hq
  clear hv hq
  have HL := Aside0.mk hl
  have HM := Aside0.mk (Hd.nil w)
  clear hl
  go_enter Try.func18, Try.ntmps18
  go_upto_region 1 with (first
    | ((with_reducible refine gate_dst (N := 4) rfl ?_); refine box_event ?hg (N := 4) ?hd (cs := #[.int .i64 ax, .int .i64 ay]) (t := 25) ?hr ?_; (case hd => rfl); (case hg => rfl); (case hr => first | (go_simp; done) | (go_simp; rfl)); intro g4 e_ w_ b_ hb; replace HM := Aside0.mk (HM.out.box hb b_ e_); clear e_ b_ hb)
    | ((with_reducible refine gate_dst (N := 5) rfl ?_); refine box_event ?hg (N := 5) ?hd (cs := #[.int .i64 bx, .int .i64 by_]) (t := 25) ?hr ?_; (case hd => rfl); (case hg => rfl); (case hr => first | (go_simp; done) | (go_simp; rfl)); intro g5 e_ w_ b_ hb; replace HM := Aside0.mk (HM.out.box hb b_ e_); clear e_ b_ hb)
    | ((with_reducible refine gate_dst (N := 6) rfl ?_); refine box_event ?hg (N := 6) ?hd (cs := #[.int .i64 cx, .int .i64 cy]) (t := 25) ?hr ?_; (case hd => rfl); (case hg => rfl); (case hr => first | (go_simp; done) | (go_simp; rfl)); intro g6 e_ w_ b_ hb; replace HM := Aside0.mk (HM.out.box hb b_ e_); clear e_ b_ hb)
    | ((with_reducible refine gate_dst (N := 7) rfl ?_); refine box_event ?hg (N := 7) ?hd (cs := #[.int .i64 dx, .int .i64 dy]) (t := 25) ?hr ?_; (case hd => rfl); (case hg => rfl); (case hr => first | (go_simp; done) | (go_simp; rfl)); intro g7 e_ w_ b_ hb; replace HM := Aside0.mk (HM.out.box hb b_ e_); clear e_ b_ hb))
  replace HM := Aside0.mk (HM.out.alloc #[.int .i64 0, .int .i64 0] 29)
  (try simp only [Act.put, List.setIfInBounds_toArray, List.set_cons_zero, List.set_cons_succ])
  generalize w_.alloc (.cells #[.int .i64 0, .int .i64 0] 29) = w8 at *
  generalize w_.heap.size = g8 at *
  have ka0 := blk_cell HM.out.a4 0
  have ka1 := blk_cell HM.out.a4 1
  have kb0 := blk_cell HM.out.a3 0
  have kb1 := blk_cell HM.out.a3 1
  have kc0 := blk_cell HM.out.a2 0
  have kc1 := blk_cell HM.out.a2 1
  have kd0 := blk_cell HM.out.a1 0
  have kd1 := blk_cell HM.out.a1 1
  have kr0 := blk_cell HM.out.a0 0
  have kr1 := blk_cell HM.out.a0 1
  have krf0 := blk_frozen HM.out.a0 0
  have krf1 := blk_frozen HM.out.a0 1
  go_wp2_with (first
    | (go_at_call 39; (with_reducible refine (lines_t ax ay bx by_ cx cy dx dy HL.out _).mono ?_); rintro e w_ ⟨g1, g2, rfl, hb⟩; replace HM := Aside0.mk (HM.out.lines hb); clear hb; (try clear ka0 ka1 kb0 kb1 kc0 kc1 kd0 kd1 kr0 krf0 kr1 krf1); have ka0 := blk_cell HM.out.a6 0; have ka1 := blk_cell HM.out.a6 1; have kb0 := blk_cell HM.out.a5 0; have kb1 := blk_cell HM.out.a5 1; have kc0 := blk_cell HM.out.a4 0; have kc1 := blk_cell HM.out.a4 1; have kd0 := blk_cell HM.out.a3 0; have kd1 := blk_cell HM.out.a3 1; have kr0 := blk_cell HM.out.a2 0; have kr1 := blk_cell HM.out.a2 1; have krf0 := blk_frozen HM.out.a2 0; have krf1 := blk_frozen HM.out.a2 1)
    | (go_at_call 45; (with_reducible refine (along_calls g1 g2 _ _ _ _ _ _ _ _ _ HM.out.a1 HM.out.a0).mono ?_); rintro e w_ ⟨rfl, hb⟩; rw [HV1.out]; replace HM := Aside0.mk (HM.out.keep hb); clear hb; (try clear ka0 ka1 kb0 kb1 kc0 kc1 kd0 kd1 kr0 krf0 kr1 krf1); have ka0 := blk_cell HM.out.a6 0; have ka1 := blk_cell HM.out.a6 1; have kb0 := blk_cell HM.out.a5 0; have kb1 := blk_cell HM.out.a5 1; have kc0 := blk_cell HM.out.a4 0; have kc1 := blk_cell HM.out.a4 1; have kd0 := blk_cell HM.out.a3 0; have kd1 := blk_cell HM.out.a3 1; have kr0 := blk_cell HM.out.a2 0; have kr1 := blk_cell HM.out.a2 1; have krf0 := blk_frozen HM.out.a2 0; have krf1 := blk_frozen HM.out.a2 1)
    | (go_at_call 44; (with_reducible refine (impl_QuoOf.calls k tp lo r1 r2 r3 _ HQ.out).mono ?_); rintro e w_ ⟨rfl, hb⟩; replace HM := Aside0.mk (HM.out.keep hb); clear hb; (try clear ka0 ka1 kb0 kb1 kc0 kc1 kd0 kd1 kr0 krf0 kr1 krf1); have ka0 := blk_cell HM.out.a6 0; have ka1 := blk_cell HM.out.a6 1; have kb0 := blk_cell HM.out.a5 0; have kb1 := blk_cell HM.out.a5 1; have kc0 := blk_cell HM.out.a4 0; have kc1 := blk_cell HM.out.a4 1; have kd0 := blk_cell HM.out.a3 0; have kd1 := blk_cell HM.out.a3 1; have kr0 := blk_cell HM.out.a2 0; have kr1 := blk_cell HM.out.a2 1; have krf0 := blk_frozen HM.out.a2 0; have krf1 := blk_frozen HM.out.a2 1))
  have HZ := HM.out.put2_2 (.int .i64 r1) (.int .i64 r2)
  exact bodyPost_ret (results_ct rfl _ _ g8 29 #[.int .i64 r1, .int .i64 r2] (0, 0) _ rfl HZ.a2 Try.underlying29 rfl (by kernel_rfl)) rfl ⟨rfl, HZ.1⟩
def coF (k : Nat) (ax ay bx by_ cx cy dx dy : Int) : Option (Int × Int × Bool) := if lnOk ax ay bx by_ cx cy dx dy = true then impl_QuoOf.f k (alI ax ay (wrap64 (bx - ax)) (wrap64 (by_ - ay)) cx cy (wrap64 (dx - cx)) (wrap64 (dy - cy))).1 (alI ax ay (wrap64 (bx - ax)) (wrap64 (by_ - ay)) cx cy (wrap64 (dx - cx)) (wrap64 (dy - cy))).2 else some (0, 0, false)
def impl_CrossOf.f (k : Nat) (a0_0 : Int) (a0_1 : Int) (a1_0 : Int) (a1_1 : Int) (a2_0 : Int) (a2_1 : Int) (a3_0 : Int) (a3_1 : Int) : Option (Int × Int × Bool) := coF k a0_0 a0_1 a1_0 a1_1 a2_0 a2_1 a3_0 a3_1
theorem impl_CrossOf.mono : ∀ a0_0 a0_1 a1_0 a1_1 a2_0 a2_1 a3_0 a3_1 k, LeO (impl_CrossOf.f k a0_0 a0_1 a1_0 a1_1 a2_0 a2_1 a3_0 a3_1) (impl_CrossOf.f (k + 1) a0_0 a0_1 a1_0 a1_1 a2_0 a2_1 a3_0 a3_1) := by
  intro a0_0 a0_1 a1_0 a1_1 a2_0 a2_1 a3_0 a3_1 k
  unfold impl_CrossOf.f coF
  exact LeO.ite (impl_QuoOf.mono _ _ _) (LeO.refl _)
theorem impl_CrossOf.calls (k : Nat) (a0_0 : Int) (a0_1 : Int) (a1_0 : Int) (a1_1 : Int) (a2_0 : Int) (a2_1 : Int) (a3_0 : Int) (a3_1 : Int) (r1 : Int) (r2 : Int) (r3 : Bool) (w : World) (h : impl_CrossOf.f k a0_0 a0_1 a1_0 a1_1 a2_0 a2_1 a3_0 a3_1 = some (r1, r2, r3)) :
    Calls Try.prog 18 #[.agg #[.int .i64 a0_0, .int .i64 a0_1], .agg #[.int .i64 a1_0, .int .i64 a1_1], .agg #[.int .i64 a2_0, .int .i64 a2_1], .agg #[.int .i64 a3_0, .int .i64 a3_1]] w fun e w' => e = .returned (.tuple #[.agg #[.int .i64 r1, .int .i64 r2], .bool r3]) ∧ Below w.heap.size w w' := by
  unfold impl_CrossOf.f coF at h
  cases hl : lnOk a0_0 a0_1 a1_0 a1_1 a2_0 a2_1 a3_0 a3_1 with
  | false =>
    rw [hl, if_neg (by simp)] at h
    simp only [Option.some.injEq, Prod.mk.injEq] at h
    obtain ⟨rfl, rfl, rfl⟩ := h
    exact crossOf_no _ _ _ _ _ _ _ _ hl w
  | true =>
    rw [hl, if_pos rfl] at h
    exact crossOf_yes k _ _ _ _ _ _ _ _ _ _ _ _ _ hl rfl h w

end Go.Proofs.Ytgoejfdciejikaa.P

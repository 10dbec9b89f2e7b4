-- Written by a program of this session (wip/xprint.py over the print's own program), not by print.sh. Lean checks it.
import Derived.Test.YtgoejfdciejikaaPx0
import Derived.Test.YtgoejfdciejikaaPx8
namespace Go.Proofs.Ytgoejfdciejikaa.P
open Go.RowKit Go.Proofs.YtgoejfdciejikaaW.PrintWords Go.Proofs.YtgoejfdciejikaaW.PrintLast Go.Proofs.YtgoejfdciejikaaW.PrintMore
attribute [local go_sem] max2_int min2_int max_two min_two max_three min_three max_four min_four   -- for this text's walks alone
set_option linter.unusedVariables false
set_option linter.unusedSimpArgs false

-- EXTERNAL impl_CrossInner: function 16
def ciB (ax ay bx by_ cx cy dx dy : Int) : Bool := lnOk ax ay bx by_ cx cy dx dy && (hdI (alI ax ay (wrap64 (bx - ax)) (wrap64 (by_ - ay)) cx cy (wrap64 (dx - cx)) (wrap64 (dy - cy))) && hdI (alI cx cy (wrap64 (dx - cx)) (wrap64 (dy - cy)) ax ay (wrap64 (bx - ax)) (wrap64 (by_ - ay))))
set_option maxHeartbeats 4000000 in
theorem inner_no (ax ay bx by_ cx cy dx dy : Int) (hl : lnOk ax ay bx by_ cx cy dx dy = false) (w : World) : Calls Try.prog 16 #[.agg #[.int .i64 ax, .int .i64 ay], .agg #[.int .i64 bx, .int .i64 by_], .agg #[.int .i64 cx, .int .i64 cy], .agg #[.int .i64 dx, .int .i64 dy]] w fun e w' => e = .returned (.bool false) ∧ Below w.heap.size w w' := by
  have HL := Aside0.mk hl
  have HM := Aside0.mk (Hd.nil w)
  clear hl
  go_enter Try.func16, Try.ntmps16
  go_wp2_with (first
    | ((with_reducible refine gate_dst (N := 4) rfl ?_); refine box_event ?hg (N := 4) ?hd (cs := #[.int .i64 ax, .int .i64 ay]) (t := 25) ?hr ?_; (case hd => rfl); (case hg => rfl); (case hr => first | (go_simp; done) | (go_simp; rfl)); intro g4 e_ w_ b_ hb; replace HM := Aside0.mk (HM.out.box hb b_ e_); clear e_ b_ hb)
    | ((with_reducible refine gate_dst (N := 5) rfl ?_); refine box_event ?hg (N := 5) ?hd (cs := #[.int .i64 bx, .int .i64 by_]) (t := 25) ?hr ?_; (case hd => rfl); (case hg => rfl); (case hr => first | (go_simp; done) | (go_simp; rfl)); intro g5 e_ w_ b_ hb; replace HM := Aside0.mk (HM.out.box hb b_ e_); clear e_ b_ hb)
    | ((with_reducible refine gate_dst (N := 6) rfl ?_); refine box_event ?hg (N := 6) ?hd (cs := #[.int .i64 cx, .int .i64 cy]) (t := 25) ?hr ?_; (case hd => rfl); (case hg => rfl); (case hr => first | (go_simp; done) | (go_simp; rfl)); intro g6 e_ w_ b_ hb; replace HM := Aside0.mk (HM.out.box hb b_ e_); clear e_ b_ hb)
    | ((with_reducible refine gate_dst (N := 7) rfl ?_); refine box_event ?hg (N := 7) ?hd (cs := #[.int .i64 dx, .int .i64 dy]) (t := 25) ?hr ?_; (case hd => rfl); (case hg => rfl); (case hr => first | (go_simp; done) | (go_simp; rfl)); intro g7 e_ w_ b_ hb; replace HM := Aside0.mk (HM.out.box hb b_ e_); clear e_ b_ hb; have ka0 := blk_cell HM.out.a3 0; have ka1 := blk_cell HM.out.a3 1; have kb0 := blk_cell HM.out.a2 0; have kb1 := blk_cell HM.out.a2 1; have kc0 := blk_cell HM.out.a1 0; have kc1 := blk_cell HM.out.a1 1; have kd0 := blk_cell HM.out.a0 0; have kd1 := blk_cell HM.out.a0 1)
    | (go_at_call 39; (with_reducible refine (lines_f ax ay bx by_ cx cy dx dy HL.out _).mono ?_); rintro e w_ ⟨rfl, hb⟩; replace HM := Aside0.mk (HM.out.keep hb); clear hb; (try clear ka0 ka1 kb0 kb1 kc0 kc1 kd0 kd1); have ka0 := blk_cell HM.out.a3 0; have ka1 := blk_cell HM.out.a3 1; have kb0 := blk_cell HM.out.a2 0; have kb1 := blk_cell HM.out.a2 1; have kc0 := blk_cell HM.out.a1 0; have kc1 := blk_cell HM.out.a1 1; have kd0 := blk_cell HM.out.a0 0; have kd1 := blk_cell HM.out.a0 1))
  go_ret
  exact ⟨rfl, HM.out.1⟩
set_option maxHeartbeats 4000000 in
theorem inner_yes (ax ay bx by_ cx cy dx dy : Int) (hl : lnOk ax ay bx by_ cx cy dx dy = true) (w : World) : Calls Try.prog 16 #[.agg #[.int .i64 ax, .int .i64 ay], .agg #[.int .i64 bx, .int .i64 by_], .agg #[.int .i64 cx, .int .i64 cy], .agg #[.int .i64 dx, .int .i64 dy]] w fun e w' => e = .returned (.bool (hdI (alI ax ay (wrap64 (bx - ax)) (wrap64 (by_ - ay)) cx cy (wrap64 (dx - cx)) (wrap64 (dy - cy))) && hdI (alI cx cy (wrap64 (dx - cx)) (wrap64 (dy - cy)) ax ay (wrap64 (bx - ax)) (wrap64 (by_ - ay))))) ∧ Below w.heap.size w w' := by
  obtain ⟨u, hu⟩ : ∃ u, hdI (alI ax ay (wrap64 (bx - ax)) (wrap64 (by_ - ay)) cx cy (wrap64 (dx - cx)) (wrap64 (dy - cy))) = u := ⟨_, rfl⟩
  obtain ⟨v, hv⟩ : ∃ v, hdI (alI cx cy (wrap64 (dx - cx)) (wrap64 (dy - cy)) ax ay (wrap64 (bx - ax)) (wrap64 (by_ - ay))) = v := ⟨_, rfl⟩
  rw [hu, hv]
  have HV1 := Aside0.mk hu
  have HV2 := Aside0.mk hv
  clear hu hv
  have HL := Aside0.mk hl
  have HM := Aside0.mk (Hd.nil w)
  clear hl
  cases u with
  | true =>
    go_enter Try.func16, Try.ntmps16
    go_wp2_with (first
      | ((with_reducible refine gate_dst (N := 4) rfl ?_); refine box_event ?hg (N := 4) ?hd (cs := #[.int .i64 ax, .int .i64 ay]) (t := 25) ?hr ?_; (case hd => rfl); (case hg => rfl); (case hr => first | (go_simp; done) | (go_simp; rfl)); intro g4 e_ w_ b_ hb; replace HM := Aside0.mk (HM.out.box hb b_ e_); clear e_ b_ hb)
      | ((with_reducible refine gate_dst (N := 5) rfl ?_); refine box_event ?hg (N := 5) ?hd (cs := #[.int .i64 bx, .int .i64 by_]) (t := 25) ?hr ?_; (case hd => rfl); (case hg => rfl); (case hr => first | (go_simp; done) | (go_simp; rfl)); intro g5 e_ w_ b_ hb; replace HM := Aside0.mk (HM.out.box hb b_ e_); clear e_ b_ hb)
      | ((with_reducible refine gate_dst (N := 6) rfl ?_); refine box_event ?hg (N := 6) ?hd (cs := #[.int .i64 cx, .int .i64 cy]) (t := 25) ?hr ?_; (case hd => rfl); (case hg => rfl); (case hr => first | (go_simp; done) | (go_simp; rfl)); intro g6 e_ w_ b_ hb; replace HM := Aside0.mk (HM.out.box hb b_ e_); clear e_ b_ hb)
      | ((with_reducible refine gate_dst (N := 7) rfl ?_); refine box_event ?hg (N := 7) ?hd (cs := #[.int .i64 dx, .int .i64 dy]) (t := 25) ?hr ?_; (case hd => rfl); (case hg => rfl); (case hr => first | (go_simp; done) | (go_simp; rfl)); intro g7 e_ w_ b_ hb; replace HM := Aside0.mk (HM.out.box hb b_ e_); clear e_ b_ hb; have ka0 := blk_cell HM.out.a3 0; have ka1 := blk_cell HM.out.a3 1; have kb0 := blk_cell HM.out.a2 0; have kb1 := blk_cell HM.out.a2 1; have kc0 := blk_cell HM.out.a1 0; have kc1 := blk_cell HM.out.a1 1; have kd0 := blk_cell HM.out.a0 0; have kd1 := blk_cell HM.out.a0 1)
      | (go_at_call 39; (with_reducible refine (lines_t ax ay bx by_ cx cy dx dy HL.out _).mono ?_); rintro e w_ ⟨g1, g2, rfl, hb⟩; replace HM := Aside0.mk (HM.out.lines hb); clear hb; (try clear ka0 ka1 kb0 kb1 kc0 kc1 kd0 kd1); have ka0 := blk_cell HM.out.a5 0; have ka1 := blk_cell HM.out.a5 1; have kb0 := blk_cell HM.out.a4 0; have kb1 := blk_cell HM.out.a4 1; have kc0 := blk_cell HM.out.a3 0; have kc1 := blk_cell HM.out.a3 1; have kd0 := blk_cell HM.out.a2 0; have kd1 := blk_cell HM.out.a2 1)
      | (go_at_call 42; (with_reducible refine (holds_calls g1 g2 _ _ _ _ _ _ _ _ _ HM.out.a1 HM.out.a0).mono ?_); rintro e w_ ⟨rfl, hb⟩; rw [HV1.out]; replace HM := Aside0.mk (HM.out.keep hb); clear hb)
      | (go_at_call 42; (with_reducible refine (holds_calls g2 g1 _ _ _ _ _ _ _ _ _ HM.out.a0 HM.out.a1).mono ?_); rintro e w_ ⟨rfl, hb⟩; rw [HV2.out]; replace HM := Aside0.mk (HM.out.keep hb); clear hb))
    go_ret
    exact ⟨by first | rfl | simp, HM.out.1⟩
  | false =>
    go_enter Try.func16, Try.ntmps16
    go_wp2_with (first
      | ((with_reducible refine gate_dst (N := 4) rfl ?_); refine box_event ?hg (N := 4) ?hd (cs := #[.int .i64 ax, .int .i64 ay]) (t := 25) ?hr ?_; (case hd => rfl); (case hg => rfl); (case hr => first | (go_simp; done) | (go_simp; rfl)); intro g4 e_ w_ b_ hb; replace HM := Aside0.mk (HM.out.box hb b_ e_); clear e_ b_ hb)
      | ((with_reducible refine gate_dst (N := 5) rfl ?_); refine box_event ?hg (N := 5) ?hd (cs := #[.int .i64 bx, .int .i64 by_]) (t := 25) ?hr ?_; (case hd => rfl); (case hg => rfl); (case hr => first | (go_simp; done) | (go_simp; rfl)); intro g5 e_ w_ b_ hb; replace HM := Aside0.mk (HM.out.box hb b_ e_); clear e_ b_ hb)
      | ((with_reducible refine gate_dst (N := 6) rfl ?_); refine box_event ?hg (N := 6) ?hd (cs := #[.int .i64 cx, .int .i64 cy]) (t := 25) ?hr ?_; (case hd => rfl); (case hg => rfl); (case hr => first | (go_simp; done) | (go_simp; rfl)); intro g6 e_ w_ b_ hb; replace HM := Aside0.mk (HM.out.box hb b_ e_); clear e_ b_ hb)
      | ((with_reducible refine gate_dst (N := 7) rfl ?_); refine box_event ?hg (N := 7) ?hd (cs := #[.int .i64 dx, .int .i64 dy]) (t := 25) ?hr ?_; (case hd => rfl); (case hg => rfl); (case hr => first | (go_simp; done) | (go_simp; rfl)); intro g7 e_ w_ b_ hb; replace HM := Aside0.mk (HM.out.box hb b_ e_); clear e_ b_ hb; have ka0 := blk_cell HM.out.a3 0; have ka1 := blk_cell HM.out.a3 1; have kb0 := blk_cell HM.out.a2 0; have kb1 := blk_cell HM.out.a2 1; have kc0 := blk_cell HM.out.a1 0; have kc1 := blk_cell HM.out.a1 1; have kd0 := blk_cell HM.out.a0 0; have kd1 := blk_cell HM.out.a0 1)
      | (go_at_call 39; (with_reducible refine (lines_t ax ay bx by_ cx cy dx dy HL.out _).mono ?_); rintro e w_ ⟨g1, g2, rfl, hb⟩; replace HM := Aside0.mk (HM.out.lines hb); clear hb; (try clear ka0 ka1 kb0 kb1 kc0 kc1 kd0 kd1); have ka0 := blk_cell HM.out.a5 0; have ka1 := blk_cell HM.out.a5 1; have kb0 := blk_cell HM.out.a4 0; have kb1 := blk_cell HM.out.a4 1; have kc0 := blk_cell HM.out.a3 0; have kc1 := blk_cell HM.out.a3 1; have kd0 := blk_cell HM.out.a2 0; have kd1 := blk_cell HM.out.a2 1)
      | (go_at_call 42; (with_reducible refine (holds_calls g1 g2 _ _ _ _ _ _ _ _ _ HM.out.a1 HM.out.a0).mono ?_); rintro e w_ ⟨rfl, hb⟩; rw [HV1.out]; replace HM := Aside0.mk (HM.out.keep hb); clear hb)
      | (go_at_call 42; (with_reducible refine (holds_calls g2 g1 _ _ _ _ _ _ _ _ _ HM.out.a0 HM.out.a1).mono ?_); rintro e w_ ⟨rfl, hb⟩; rw [HV2.out]; replace HM := Aside0.mk (HM.out.keep hb); clear hb))
    go_ret
    exact ⟨by first | rfl | simp, HM.out.1⟩
def impl_CrossInner.f (a0_0 : Int) (a0_1 : Int) (a1_0 : Int) (a1_1 : Int) (a2_0 : Int) (a2_1 : Int) (a3_0 : Int) (a3_1 : Int) : Option (Bool) := some (ciB a0_0 a0_1 a1_0 a1_1 a2_0 a2_1 a3_0 a3_1)
theorem impl_CrossInner.calls (a0_0 : Int) (a0_1 : Int) (a1_0 : Int) (a1_1 : Int) (a2_0 : Int) (a2_1 : Int) (a3_0 : Int) (a3_1 : Int) (r : Bool) (w : World) (h : impl_CrossInner.f a0_0 a0_1 a1_0 a1_1 a2_0 a2_1 a3_0 a3_1 = some r) :
    Calls Try.prog 16 #[.agg #[.int .i64 a0_0, .int .i64 a0_1], .agg #[.int .i64 a1_0, .int .i64 a1_1], .agg #[.int .i64 a2_0, .int .i64 a2_1], .agg #[.int .i64 a3_0, .int .i64 a3_1]] w fun e w' => e = .returned (.bool r) ∧ Below w.heap.size w w' := by
  have h := Option.some.inj h
  unfold ciB at h
  subst h
  cases hl : lnOk a0_0 a0_1 a1_0 a1_1 a2_0 a2_1 a3_0 a3_1 with
  | false => exact inner_no _ _ _ _ _ _ _ _ hl w
  | true => exact inner_yes _ _ _ _ _ _ _ _ hl w

end Go.Proofs.Ytgoejfdciejikaa.P

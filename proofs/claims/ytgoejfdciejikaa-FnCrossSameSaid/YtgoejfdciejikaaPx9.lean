-- Written by a program of this session (wip/xprint.py over the print's own program), not by print.sh. Lean checks it.
import Derived.Test.YtgoejfdciejikaaPx0
import Derived.Test.YtgoejfdciejikaaPx7
import Derived.Test.YtgoejfdciejikaaPx8
namespace Go.Proofs.Ytgoejfdciejikaa.P
open Go.RowKit Go.Proofs.YtgoejfdciejikaaW.PrintWords Go.Proofs.YtgoejfdciejikaaW.PrintLast Go.Proofs.YtgoejfdciejikaaW.PrintMore
attribute [local go_sem] max2_int min2_int max_two min_two max_three min_three max_four min_four   -- for this text's walks alone
set_option linter.unusedVariables false
set_option linter.unusedSimpArgs false

-- EXTERNAL impl_CrossSame: function 14
def csB (ax ay bx by_ cx cy dx dy : Int) : Bool := lnOk ax ay bx by_ cx cy dx dy && (sdI ax ay bx by_ cx cy == 0 && sdI ax ay bx by_ dx dy == 0)
set_option maxHeartbeats 4000000 in
theorem same_no (ax ay bx by_ cx cy dx dy : Int) (hl : lnOk ax ay bx by_ cx cy dx dy = false) (w : World) : Calls Try.prog 14 #[.agg #[.int .i64 ax, .int .i64 ay], .agg #[.int .i64 bx, .int .i64 by_], .agg #[.int .i64 cx, .int .i64 cy], .agg #[.int .i64 dx, .int .i64 dy]] w fun e w' => e = .returned (.bool false) ∧ Below w.heap.size w w' := by
  have HL := Aside0.mk hl
  have HM := Aside0.mk (Hd.nil w)
  clear hl
  go_enter Try.func14, Try.ntmps14
  go_wp2_with (first
    | ((with_reducible refine gate_dst (N := 4) rfl ?_); refine box_event ?hg (N := 4) ?hd (cs := #[.int .i64 ax, .int .i64 ay]) (t := 25) ?hr ?_; (case hd => rfl); (case hg => rfl); (case hr => first | (go_simp; done) | (go_simp; rfl)); intro g4 e_ w_ b_ hb; replace HM := Aside0.mk (HM.out.box hb b_ e_); clear e_ b_ hb)
    | ((with_reducible refine gate_dst (N := 5) rfl ?_); refine box_event ?hg (N := 5) ?hd (cs := #[.int .i64 bx, .int .i64 by_]) (t := 25) ?hr ?_; (case hd => rfl); (case hg => rfl); (case hr => first | (go_simp; done) | (go_simp; rfl)); intro g5 e_ w_ b_ hb; replace HM := Aside0.mk (HM.out.box hb b_ e_); clear e_ b_ hb)
    | ((with_reducible refine gate_dst (N := 6) rfl ?_); refine box_event ?hg (N := 6) ?hd (cs := #[.int .i64 cx, .int .i64 cy]) (t := 25) ?hr ?_; (case hd => rfl); (case hg => rfl); (case hr => first | (go_simp; done) | (go_simp; rfl)); intro g6 e_ w_ b_ hb; replace HM := Aside0.mk (HM.out.box hb b_ e_); clear e_ b_ hb)
    | ((with_reducible refine gate_dst (N := 7) rfl ?_); refine box_event ?hg (N := 7) ?hd (cs := #[.int .i64 dx, .int .i64 dy]) (t := 25) ?hr ?_; (case hd => rfl); (case hg => rfl); (case hr => first | (go_simp; done) | (go_simp; rfl)); intro g7 e_ w_ b_ hb; replace HM := Aside0.mk (HM.out.box hb b_ e_); clear e_ b_ hb; have ka0 := blk_cell HM.out.a3 0; have ka1 := blk_cell HM.out.a3 1; have kb0 := blk_cell HM.out.a2 0; have kb1 := blk_cell HM.out.a2 1; have kc0 := blk_cell HM.out.a1 0; have kc1 := blk_cell HM.out.a1 1; have kd0 := blk_cell HM.out.a0 0; have kd1 := blk_cell HM.out.a0 1)
    | (go_at_call 39; (with_reducible refine (lines_f ax ay bx by_ cx cy dx dy HL.out _).mono ?_); rintro e w_ ⟨rfl, hb⟩; replace HM := Aside0.mk (HM.out.keep hb); clear hb; (try clear ka0 ka1 kb0 kb1 kc0 kc1 kd0 kd1); have ka0 := blk_cell HM.out.a3 0; have ka1 := blk_cell HM.out.a3 1; have kb0 := blk_cell HM.out.a2 0; have kb1 := blk_cell HM.out.a2 1; have kc0 := blk_cell HM.out.a1 0; have kc1 := blk_cell HM.out.a1 1; have kd0 := blk_cell HM.out.a0 0; have kd1 := blk_cell HM.out.a0 1))
  go_ret
  exact ⟨rfl, HM.out.1⟩
set_option maxHeartbeats 4000000 in
theorem same_yes (ax ay bx by_ cx cy dx dy : Int) (hl : lnOk ax ay bx by_ cx cy dx dy = true) (w : World) : Calls Try.prog 14 #[.agg #[.int .i64 ax, .int .i64 ay], .agg #[.int .i64 bx, .int .i64 by_], .agg #[.int .i64 cx, .int .i64 cy], .agg #[.int .i64 dx, .int .i64 dy]] w fun e w' => e = .returned (.bool (sdI ax ay bx by_ cx cy == 0 && sdI ax ay bx by_ dx dy == 0)) ∧ Below w.heap.size w w' := by
  obtain ⟨h1, h2, h3, h4, h5, h6⟩ := lnOk_t _ _ _ _ _ _ _ _ hl
  have hsc := fun w => side_yes ax ay bx by_ cx cy h1 h2 h3 w
  have hsd := fun w => side_yes ax ay bx by_ dx dy h1 h2 h4 w
  generalize hu : sdI ax ay bx by_ cx cy = u at *
  generalize hv : sdI ax ay bx by_ dx dy = v at *
  have HSc := Aside0.mk hsc
  have HSd := Aside0.mk hsd
  clear hsc hsd h1 h2 h3 h4 h5 h6 hu hv
  by_cases hu0 : u = 0
  · have hu1 : (u == 0) = true := by simpa using hu0
    have HL := Aside0.mk hl
    have HM := Aside0.mk (Hd.nil w)
    clear hl
    go_enter Try.func14, Try.ntmps14
    go_wp2_with (first
      | ((with_reducible refine gate_dst (N := 4) rfl ?_); refine box_event ?hg (N := 4) ?hd (cs := #[.int .i64 ax, .int .i64 ay]) (t := 25) ?hr ?_; (case hd => rfl); (case hg => rfl); (case hr => first | (go_simp; done) | (go_simp; rfl)); intro g4 e_ w_ b_ hb; replace HM := Aside0.mk (HM.out.box hb b_ e_); clear e_ b_ hb)
      | ((with_reducible refine gate_dst (N := 5) rfl ?_); refine box_event ?hg (N := 5) ?hd (cs := #[.int .i64 bx, .int .i64 by_]) (t := 25) ?hr ?_; (case hd => rfl); (case hg => rfl); (case hr => first | (go_simp; done) | (go_simp; rfl)); intro g5 e_ w_ b_ hb; replace HM := Aside0.mk (HM.out.box hb b_ e_); clear e_ b_ hb)
      | ((with_reducible refine gate_dst (N := 6) rfl ?_); refine box_event ?hg (N := 6) ?hd (cs := #[.int .i64 cx, .int .i64 cy]) (t := 25) ?hr ?_; (case hd => rfl); (case hg => rfl); (case hr => first | (go_simp; done) | (go_simp; rfl)); intro g6 e_ w_ b_ hb; replace HM := Aside0.mk (HM.out.box hb b_ e_); clear e_ b_ hb)
      | ((with_reducible refine gate_dst (N := 7) rfl ?_); refine box_event ?hg (N := 7) ?hd (cs := #[.int .i64 dx, .int .i64 dy]) (t := 25) ?hr ?_; (case hd => rfl); (case hg => rfl); (case hr => first | (go_simp; done) | (go_simp; rfl)); intro g7 e_ w_ b_ hb; replace HM := Aside0.mk (HM.out.box hb b_ e_); clear e_ b_ hb; have ka0 := blk_cell HM.out.a3 0; have ka1 := blk_cell HM.out.a3 1; have kb0 := blk_cell HM.out.a2 0; have kb1 := blk_cell HM.out.a2 1; have kc0 := blk_cell HM.out.a1 0; have kc1 := blk_cell HM.out.a1 1; have kd0 := blk_cell HM.out.a0 0; have kd1 := blk_cell HM.out.a0 1)
      | (go_at_call 39; (with_reducible refine (lines_t ax ay bx by_ cx cy dx dy HL.out _).mono ?_); rintro e w_ ⟨g1, g2, rfl, hb⟩; replace HM := Aside0.mk (HM.out.lines hb); clear hb; (try clear ka0 ka1 kb0 kb1 kc0 kc1 kd0 kd1); have ka0 := blk_cell HM.out.a5 0; have ka1 := blk_cell HM.out.a5 1; have kb0 := blk_cell HM.out.a4 0; have kb1 := blk_cell HM.out.a4 1; have kc0 := blk_cell HM.out.a3 0; have kc1 := blk_cell HM.out.a3 1; have kd0 := blk_cell HM.out.a2 0; have kd1 := blk_cell HM.out.a2 1)
      | (go_at_call 26; (with_reducible refine (HSc.out _).mono ?_); rintro e w_ ⟨rfl, hb⟩; replace HM := Aside0.mk (HM.out.keep hb); clear hb; (try clear ka0 ka1 kb0 kb1 kc0 kc1 kd0 kd1); have ka0 := blk_cell HM.out.a5 0; have ka1 := blk_cell HM.out.a5 1; have kb0 := blk_cell HM.out.a4 0; have kb1 := blk_cell HM.out.a4 1; have kc0 := blk_cell HM.out.a3 0; have kc1 := blk_cell HM.out.a3 1; have kd0 := blk_cell HM.out.a2 0; have kd1 := blk_cell HM.out.a2 1)
      | (go_at_call 26; (with_reducible refine (HSd.out _).mono ?_); rintro e w_ ⟨rfl, hb⟩; replace HM := Aside0.mk (HM.out.keep hb); clear hb; (try clear ka0 ka1 kb0 kb1 kc0 kc1 kd0 kd1); have ka0 := blk_cell HM.out.a5 0; have ka1 := blk_cell HM.out.a5 1; have kb0 := blk_cell HM.out.a4 0; have kb1 := blk_cell HM.out.a4 1; have kc0 := blk_cell HM.out.a3 0; have kc1 := blk_cell HM.out.a3 1; have kd0 := blk_cell HM.out.a2 0; have kd1 := blk_cell HM.out.a2 1))
    go_ret
    exact ⟨by first | rfl | (rw [hu1]; rfl) | simp [hu0], HM.out.1⟩
  · have hu1 : (u == 0) = false := by simpa using hu0
    have HL := Aside0.mk hl
    have HM := Aside0.mk (Hd.nil w)
    clear hl
    go_enter Try.func14, Try.ntmps14
    go_wp2_with (first
      | ((with_reducible refine gate_dst (N := 4) rfl ?_); refine box_event ?hg (N := 4) ?hd (cs := #[.int .i64 ax, .int .i64 ay]) (t := 25) ?hr ?_; (case hd => rfl); (case hg => rfl); (case hr => first | (go_simp; done) | (go_simp; rfl)); intro g4 e_ w_ b_ hb; replace HM := Aside0.mk (HM.out.box hb b_ e_); clear e_ b_ hb)
      | ((with_reducible refine gate_dst (N := 5) rfl ?_); refine box_event ?hg (N := 5) ?hd (cs := #[.int .i64 bx, .int .i64 by_]) (t := 25) ?hr ?_; (case hd => rfl); (case hg => rfl); (case hr => first | (go_simp; done) | (go_simp; rfl)); intro g5 e_ w_ b_ hb; replace HM := Aside0.mk (HM.out.box hb b_ e_); clear e_ b_ hb)
      | ((with_reducible refine gate_dst (N := 6) rfl ?_); refine box_event ?hg (N := 6) ?hd (cs := #[.int .i64 cx, .int .i64 cy]) (t := 25) ?hr ?_; (case hd => rfl); (case hg => rfl); (case hr => first | (go_simp; done) | (go_simp; rfl)); intro g6 e_ w_ b_ hb; replace HM := Aside0.mk (HM.out.box hb b_ e_); clear e_ b_ hb)
      | ((with_reducible refine gate_dst (N := 7) rfl ?_); refine box_event ?hg (N := 7) ?hd (cs := #[.int .i64 dx, .int .i64 dy]) (t := 25) ?hr ?_; (case hd => rfl); (case hg => rfl); (case hr => first | (go_simp; done) | (go_simp; rfl)); intro g7 e_ w_ b_ hb; replace HM := Aside0.mk (HM.out.box hb b_ e_); clear e_ b_ hb; have ka0 := blk_cell HM.out.a3 0; have ka1 := blk_cell HM.out.a3 1; have kb0 := blk_cell HM.out.a2 0; have kb1 := blk_cell HM.out.a2 1; have kc0 := blk_cell HM.out.a1 0; have kc1 := blk_cell HM.out.a1 1; have kd0 := blk_cell HM.out.a0 0; have kd1 := blk_cell HM.out.a0 1)
      | (go_at_call 39; (with_reducible refine (lines_t ax ay bx by_ cx cy dx dy HL.out _).mono ?_); rintro e w_ ⟨g1, g2, rfl, hb⟩; replace HM := Aside0.mk (HM.out.lines hb); clear hb; (try clear ka0 ka1 kb0 kb1 kc0 kc1 kd0 kd1); have ka0 := blk_cell HM.out.a5 0; have ka1 := blk_cell HM.out.a5 1; have kb0 := blk_cell HM.out.a4 0; have kb1 := blk_cell HM.out.a4 1; have kc0 := blk_cell HM.out.a3 0; have kc1 := blk_cell HM.out.a3 1; have kd0 := blk_cell HM.out.a2 0; have kd1 := blk_cell HM.out.a2 1)
      | (go_at_call 26; (with_reducible refine (HSc.out _).mono ?_); rintro e w_ ⟨rfl, hb⟩; replace HM := Aside0.mk (HM.out.keep hb); clear hb; (try clear ka0 ka1 kb0 kb1 kc0 kc1 kd0 kd1); have ka0 := blk_cell HM.out.a5 0; have ka1 := blk_cell HM.out.a5 1; have kb0 := blk_cell HM.out.a4 0; have kb1 := blk_cell HM.out.a4 1; have kc0 := blk_cell HM.out.a3 0; have kc1 := blk_cell HM.out.a3 1; have kd0 := blk_cell HM.out.a2 0; have kd1 := blk_cell HM.out.a2 1)
      | (go_at_call 26; (with_reducible refine (HSd.out _).mono ?_); rintro e w_ ⟨rfl, hb⟩; replace HM := Aside0.mk (HM.out.keep hb); clear hb; (try clear ka0 ka1 kb0 kb1 kc0 kc1 kd0 kd1); have ka0 := blk_cell HM.out.a5 0; have ka1 := blk_cell HM.out.a5 1; have kb0 := blk_cell HM.out.a4 0; have kb1 := blk_cell HM.out.a4 1; have kc0 := blk_cell HM.out.a3 0; have kc1 := blk_cell HM.out.a3 1; have kd0 := blk_cell HM.out.a2 0; have kd1 := blk_cell HM.out.a2 1))
    go_ret
    exact ⟨by first | rfl | (rw [hu1]; rfl) | simp [hu0], HM.out.1⟩
def impl_CrossSame.f (a0_0 : Int) (a0_1 : Int) (a1_0 : Int) (a1_1 : Int) (a2_0 : Int) (a2_1 : Int) (a3_0 : Int) (a3_1 : Int) : Option (Bool) := some (csB a0_0 a0_1 a1_0 a1_1 a2_0 a2_1 a3_0 a3_1)
theorem impl_CrossSame.calls (a0_0 : Int) (a0_1 : Int) (a1_0 : Int) (a1_1 : Int) (a2_0 : Int) (a2_1 : Int) (a3_0 : Int) (a3_1 : Int) (r : Bool) (w : World) (h : impl_CrossSame.f a0_0 a0_1 a1_0 a1_1 a2_0 a2_1 a3_0 a3_1 = some r) :
    Calls Try.prog 14 #[.agg #[.int .i64 a0_0, .int .i64 a0_1], .agg #[.int .i64 a1_0, .int .i64 a1_1], .agg #[.int .i64 a2_0, .int .i64 a2_1], .agg #[.int .i64 a3_0, .int .i64 a3_1]] w fun e w' => e = .returned (.bool r) ∧ Below w.heap.size w w' := by
  have h := Option.some.inj h
  unfold csB at h
  subst h
  cases hl : lnOk a0_0 a0_1 a1_0 a1_1 a2_0 a2_1 a3_0 a3_1 with
  | false => exact same_no _ _ _ _ _ _ _ _ hl w
  | true => exact same_yes _ _ _ _ _ _ _ _ hl w

end Go.Proofs.Ytgoejfdciejikaa.P

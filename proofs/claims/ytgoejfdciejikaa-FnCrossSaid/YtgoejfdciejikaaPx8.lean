-- Written by a program of this session (wip/xprint.py over the print's own program), not by print.sh. Lean checks it.
import Derived.Test.YtgoejfdciejikaaPx0
import Derived.Test.YtgoejfdciejikaaPx1
import Derived.Test.YtgoejfdciejikaaPx7
namespace Go.Proofs.Ytgoejfdciejikaa.P
open Go.RowKit Go.Proofs.YtgoejfdciejikaaW.PrintWords Go.Proofs.YtgoejfdciejikaaW.PrintLast Go.Proofs.YtgoejfdciejikaaW.PrintMore
attribute [local go_sem] max2_int min2_int max_two min_two max_three min_three max_four min_four   -- for this text's walks alone
set_option linter.unusedVariables false
set_option linter.unusedSimpArgs false

-- EXTERNAL impl_linesOf: function 39
/-- Are four points two lines? -/
def lnOk (ax ay bx by_ cx cy dx dy : Int) : Bool := inR ax ay 10000 && (inR bx by_ 10000 && (inR cx cy 10000 && (inR dx dy 10000 && (!(ax == bx && (ay == by_)) && !(cx == dx && (cy == dy))))))
section
attribute [local go_sem high] eqA25
set_option maxHeartbeats 4000000 in
theorem lines_no1 (ax ay bx by_ cx cy dx dy : Int) (h1 : inR ax ay 10000 = false) (w : World) :
    Calls Try.prog 39 #[.agg #[.int .i64 ax, .int .i64 ay], .agg #[.int .i64 bx, .int .i64 by_], .agg #[.int .i64 cx, .int .i64 cy], .agg #[.int .i64 dx, .int .i64 dy]] w fun e w' => e = .returned (.tuple #[.pointer none, .pointer none, .bool false]) ∧ Below w.heap.size w w' := by
  have H1 := Aside0.mk h1
  have HM := Aside0.mk (Hd.nil w)
  clear h1
  go_enter Try.func39, Try.ntmps39
  go_wp2_with (first
    | ((with_reducible refine gate_dst (N := 4) rfl ?_); refine box_event ?hg (N := 4) ?hd (cs := #[.int .i64 ax, .int .i64 ay]) (t := 25) ?hr ?_; (case hd => rfl); (case hg => rfl); (case hr => first | (go_simp; done) | (go_simp; rfl)); intro g4 e_ w_ b_ hb; replace HM := Aside0.mk (HM.out.box hb b_ e_); clear e_ b_ hb)
    | ((with_reducible refine gate_dst (N := 5) rfl ?_); refine box_event ?hg (N := 5) ?hd (cs := #[.int .i64 bx, .int .i64 by_]) (t := 25) ?hr ?_; (case hd => rfl); (case hg => rfl); (case hr => first | (go_simp; done) | (go_simp; rfl)); intro g5 e_ w_ b_ hb; replace HM := Aside0.mk (HM.out.box hb b_ e_); clear e_ b_ hb)
    | ((with_reducible refine gate_dst (N := 6) rfl ?_); refine box_event ?hg (N := 6) ?hd (cs := #[.int .i64 cx, .int .i64 cy]) (t := 25) ?hr ?_; (case hd => rfl); (case hg => rfl); (case hr => first | (go_simp; done) | (go_simp; rfl)); intro g6 e_ w_ b_ hb; replace HM := Aside0.mk (HM.out.box hb b_ e_); clear e_ b_ hb)
    | ((with_reducible refine gate_dst (N := 7) rfl ?_); refine box_event ?hg (N := 7) ?hd (cs := #[.int .i64 dx, .int .i64 dy]) (t := 25) ?hr ?_; (case hd => rfl); (case hg => rfl); (case hr => first | (go_simp; done) | (go_simp; rfl)); intro g7 e_ w_ b_ hb; replace HM := Aside0.mk (HM.out.box hb b_ e_); clear e_ b_ hb; have ka0 := blk_cell HM.out.a3 0; have ka1 := blk_cell HM.out.a3 1; have kb0 := blk_cell HM.out.a2 0; have kb1 := blk_cell HM.out.a2 1; have kc0 := blk_cell HM.out.a1 0; have kc1 := blk_cell HM.out.a1 1; have kd0 := blk_cell HM.out.a0 0; have kd1 := blk_cell HM.out.a0 1)
    | (go_at_call 23; (with_reducible refine (PointValid_calls ax ay _).mono ?_); rintro e w_ ⟨rfl, hb⟩; rw [H1.out]; replace HM := Aside0.mk (HM.out.keep hb); clear hb; (try clear ka0 ka1 kb0 kb1 kc0 kc1 kd0 kd1); have ka0 := blk_cell HM.out.a3 0; have ka1 := blk_cell HM.out.a3 1; have kb0 := blk_cell HM.out.a2 0; have kb1 := blk_cell HM.out.a2 1; have kc0 := blk_cell HM.out.a1 0; have kc1 := blk_cell HM.out.a1 1; have kd0 := blk_cell HM.out.a0 0; have kd1 := blk_cell HM.out.a0 1))
  go_ret3
  exact ⟨rfl, HM.out.1⟩
set_option maxHeartbeats 4000000 in
theorem lines_no2 (ax ay bx by_ cx cy dx dy : Int) (h1 : inR ax ay 10000 = true) (h2 : inR bx by_ 10000 = false) (w : World) :
    Calls Try.prog 39 #[.agg #[.int .i64 ax, .int .i64 ay], .agg #[.int .i64 bx, .int .i64 by_], .agg #[.int .i64 cx, .int .i64 cy], .agg #[.int .i64 dx, .int .i64 dy]] w fun e w' => e = .returned (.tuple #[.pointer none, .pointer none, .bool false]) ∧ Below w.heap.size w w' := by
  have H1 := Aside0.mk h1
  have H2 := Aside0.mk h2
  have HM := Aside0.mk (Hd.nil w)
  clear h1 h2
  go_enter Try.func39, Try.ntmps39
  go_wp2_with (first
    | ((with_reducible refine gate_dst (N := 4) rfl ?_); refine box_event ?hg (N := 4) ?hd (cs := #[.int .i64 ax, .int .i64 ay]) (t := 25) ?hr ?_; (case hd => rfl); (case hg => rfl); (case hr => first | (go_simp; done) | (go_simp; rfl)); intro g4 e_ w_ b_ hb; replace HM := Aside0.mk (HM.out.box hb b_ e_); clear e_ b_ hb)
    | ((with_reducible refine gate_dst (N := 5) rfl ?_); refine box_event ?hg (N := 5) ?hd (cs := #[.int .i64 bx, .int .i64 by_]) (t := 25) ?hr ?_; (case hd => rfl); (case hg => rfl); (case hr => first | (go_simp; done) | (go_simp; rfl)); intro g5 e_ w_ b_ hb; replace HM := Aside0.mk (HM.out.box hb b_ e_); clear e_ b_ hb)
    | ((with_reducible refine gate_dst (N := 6) rfl ?_); refine box_event ?hg (N := 6) ?hd (cs := #[.int .i64 cx, .int .i64 cy]) (t := 25) ?hr ?_; (case hd => rfl); (case hg => rfl); (case hr => first | (go_simp; done) | (go_simp; rfl)); intro g6 e_ w_ b_ hb; replace HM := Aside0.mk (HM.out.box hb b_ e_); clear e_ b_ hb)
    | ((with_reducible refine gate_dst (N := 7) rfl ?_); refine box_event ?hg (N := 7) ?hd (cs := #[.int .i64 dx, .int .i64 dy]) (t := 25) ?hr ?_; (case hd => rfl); (case hg => rfl); (case hr => first | (go_simp; done) | (go_simp; rfl)); intro g7 e_ w_ b_ hb; replace HM := Aside0.mk (HM.out.box hb b_ e_); clear e_ b_ hb; have ka0 := blk_cell HM.out.a3 0; have ka1 := blk_cell HM.out.a3 1; have kb0 := blk_cell HM.out.a2 0; have kb1 := blk_cell HM.out.a2 1; have kc0 := blk_cell HM.out.a1 0; have kc1 := blk_cell HM.out.a1 1; have kd0 := blk_cell HM.out.a0 0; have kd1 := blk_cell HM.out.a0 1)
    | (go_at_call 23; (with_reducible refine (PointValid_calls ax ay _).mono ?_); rintro e w_ ⟨rfl, hb⟩; rw [H1.out]; replace HM := Aside0.mk (HM.out.keep hb); clear hb; (try clear ka0 ka1 kb0 kb1 kc0 kc1 kd0 kd1); have ka0 := blk_cell HM.out.a3 0; have ka1 := blk_cell HM.out.a3 1; have kb0 := blk_cell HM.out.a2 0; have kb1 := blk_cell HM.out.a2 1; have kc0 := blk_cell HM.out.a1 0; have kc1 := blk_cell HM.out.a1 1; have kd0 := blk_cell HM.out.a0 0; have kd1 := blk_cell HM.out.a0 1)
    | (go_at_call 23; (with_reducible refine (PointValid_calls bx by_ _).mono ?_); rintro e w_ ⟨rfl, hb⟩; rw [H2.out]; replace HM := Aside0.mk (HM.out.keep hb); clear hb; (try clear ka0 ka1 kb0 kb1 kc0 kc1 kd0 kd1); have ka0 := blk_cell HM.out.a3 0; have ka1 := blk_cell HM.out.a3 1; have kb0 := blk_cell HM.out.a2 0; have kb1 := blk_cell HM.out.a2 1; have kc0 := blk_cell HM.out.a1 0; have kc1 := blk_cell HM.out.a1 1; have kd0 := blk_cell HM.out.a0 0; have kd1 := blk_cell HM.out.a0 1))
  go_ret3
  exact ⟨rfl, HM.out.1⟩
set_option maxHeartbeats 4000000 in
theorem lines_no3 (ax ay bx by_ cx cy dx dy : Int) (h1 : inR ax ay 10000 = true) (h2 : inR bx by_ 10000 = true) (h3 : inR cx cy 10000 = false) (w : World) :
    Calls Try.prog 39 #[.agg #[.int .i64 ax, .int .i64 ay], .agg #[.int .i64 bx, .int .i64 by_], .agg #[.int .i64 cx, .int .i64 cy], .agg #[.int .i64 dx, .int .i64 dy]] w fun e w' => e = .returned (.tuple #[.pointer none, .pointer none, .bool false]) ∧ Below w.heap.size w w' := by
  have H1 := Aside0.mk h1
  have H2 := Aside0.mk h2
  have H3 := Aside0.mk h3
  have HM := Aside0.mk (Hd.nil w)
  clear h1 h2 h3
  go_enter Try.func39, Try.ntmps39
  go_wp2_with (first
    | ((with_reducible refine gate_dst (N := 4) rfl ?_); refine box_event ?hg (N := 4) ?hd (cs := #[.int .i64 ax, .int .i64 ay]) (t := 25) ?hr ?_; (case hd => rfl); (case hg => rfl); (case hr => first | (go_simp; done) | (go_simp; rfl)); intro g4 e_ w_ b_ hb; replace HM := Aside0.mk (HM.out.box hb b_ e_); clear e_ b_ hb)
    | ((with_reducible refine gate_dst (N := 5) rfl ?_); refine box_event ?hg (N := 5) ?hd (cs := #[.int .i64 bx, .int .i64 by_]) (t := 25) ?hr ?_; (case hd => rfl); (case hg => rfl); (case hr => first | (go_simp; done) | (go_simp; rfl)); intro g5 e_ w_ b_ hb; replace HM := Aside0.mk (HM.out.box hb b_ e_); clear e_ b_ hb)
    | ((with_reducible refine gate_dst (N := 6) rfl ?_); refine box_event ?hg (N := 6) ?hd (cs := #[.int .i64 cx, .int .i64 cy]) (t := 25) ?hr ?_; (case hd => rfl); (case hg => rfl); (case hr => first | (go_simp; done) | (go_simp; rfl)); intro g6 e_ w_ b_ hb; replace HM := Aside0.mk (HM.out.box hb b_ e_); clear e_ b_ hb)
    | ((with_reducible refine gate_dst (N := 7) rfl ?_); refine box_event ?hg (N := 7) ?hd (cs := #[.int .i64 dx, .int .i64 dy]) (t := 25) ?hr ?_; (case hd => rfl); (case hg => rfl); (case hr => first | (go_simp; done) | (go_simp; rfl)); intro g7 e_ w_ b_ hb; replace HM := Aside0.mk (HM.out.box hb b_ e_); clear e_ b_ hb; have ka0 := blk_cell HM.out.a3 0; have ka1 := blk_cell HM.out.a3 1; have kb0 := blk_cell HM.out.a2 0; have kb1 := blk_cell HM.out.a2 1; have kc0 := blk_cell HM.out.a1 0; have kc1 := blk_cell HM.out.a1 1; have kd0 := blk_cell HM.out.a0 0; have kd1 := blk_cell HM.out.a0 1)
    | (go_at_call 23; (with_reducible refine (PointValid_calls ax ay _).mono ?_); rintro e w_ ⟨rfl, hb⟩; rw [H1.out]; replace HM := Aside0.mk (HM.out.keep hb); clear hb; (try clear ka0 ka1 kb0 kb1 kc0 kc1 kd0 kd1); have ka0 := blk_cell HM.out.a3 0; have ka1 := blk_cell HM.out.a3 1; have kb0 := blk_cell HM.out.a2 0; have kb1 := blk_cell HM.out.a2 1; have kc0 := blk_cell HM.out.a1 0; have kc1 := blk_cell HM.out.a1 1; have kd0 := blk_cell HM.out.a0 0; have kd1 := blk_cell HM.out.a0 1)
    | (go_at_call 23; (with_reducible refine (PointValid_calls bx by_ _).mono ?_); rintro e w_ ⟨rfl, hb⟩; rw [H2.out]; replace HM := Aside0.mk (HM.out.keep hb); clear hb; (try clear ka0 ka1 kb0 kb1 kc0 kc1 kd0 kd1); have ka0 := blk_cell HM.out.a3 0; have ka1 := blk_cell HM.out.a3 1; have kb0 := blk_cell HM.out.a2 0; have kb1 := blk_cell HM.out.a2 1; have kc0 := blk_cell HM.out.a1 0; have kc1 := blk_cell HM.out.a1 1; have kd0 := blk_cell HM.out.a0 0; have kd1 := blk_cell HM.out.a0 1)
    | (go_at_call 23; (with_reducible refine (PointValid_calls cx cy _).mono ?_); rintro e w_ ⟨rfl, hb⟩; rw [H3.out]; replace HM := Aside0.mk (HM.out.keep hb); clear hb; (try clear ka0 ka1 kb0 kb1 kc0 kc1 kd0 kd1); have ka0 := blk_cell HM.out.a3 0; have ka1 := blk_cell HM.out.a3 1; have kb0 := blk_cell HM.out.a2 0; have kb1 := blk_cell HM.out.a2 1; have kc0 := blk_cell HM.out.a1 0; have kc1 := blk_cell HM.out.a1 1; have kd0 := blk_cell HM.out.a0 0; have kd1 := blk_cell HM.out.a0 1))
  go_ret3
  exact ⟨rfl, HM.out.1⟩
set_option maxHeartbeats 4000000 in
theorem lines_no4 (ax ay bx by_ cx cy dx dy : Int) (h1 : inR ax ay 10000 = true) (h2 : inR bx by_ 10000 = true) (h3 : inR cx cy 10000 = true) (h4 : inR dx dy 10000 = false) (w : World) :
    Calls Try.prog 39 #[.agg #[.int .i64 ax, .int .i64 ay], .agg #[.int .i64 bx, .int .i64 by_], .agg #[.int .i64 cx, .int .i64 cy], .agg #[.int .i64 dx, .int .i64 dy]] w fun e w' => e = .returned (.tuple #[.pointer none, .pointer none, .bool false]) ∧ Below w.heap.size w w' := by
  have H1 := Aside0.mk h1
  have H2 := Aside0.mk h2
  have H3 := Aside0.mk h3
  have H4 := Aside0.mk h4
  have HM := Aside0.mk (Hd.nil w)
  clear h1 h2 h3 h4
  go_enter Try.func39, Try.ntmps39
  go_wp2_with (first
    | ((with_reducible refine gate_dst (N := 4) rfl ?_); refine box_event ?hg (N := 4) ?hd (cs := #[.int .i64 ax, .int .i64 ay]) (t := 25) ?hr ?_; (case hd => rfl); (case hg => rfl); (case hr => first | (go_simp; done) | (go_simp; rfl)); intro g4 e_ w_ b_ hb; replace HM := Aside0.mk (HM.out.box hb b_ e_); clear e_ b_ hb)
    | ((with_reducible refine gate_dst (N := 5) rfl ?_); refine box_event ?hg (N := 5) ?hd (cs := #[.int .i64 bx, .int .i64 by_]) (t := 25) ?hr ?_; (case hd => rfl); (case hg => rfl); (case hr => first | (go_simp; done) | (go_simp; rfl)); intro g5 e_ w_ b_ hb; replace HM := Aside0.mk (HM.out.box hb b_ e_); clear e_ b_ hb)
    | ((with_reducible refine gate_dst (N := 6) rfl ?_); refine box_event ?hg (N := 6) ?hd (cs := #[.int .i64 cx, .int .i64 cy]) (t := 25) ?hr ?_; (case hd => rfl); (case hg => rfl); (case hr => first | (go_simp; done) | (go_simp; rfl)); intro g6 e_ w_ b_ hb; replace HM := Aside0.mk (HM.out.box hb b_ e_); clear e_ b_ hb)
    | ((with_reducible refine gate_dst (N := 7) rfl ?_); refine box_event ?hg (N := 7) ?hd (cs := #[.int .i64 dx, .int .i64 dy]) (t := 25) ?hr ?_; (case hd => rfl); (case hg => rfl); (case hr => first | (go_simp; done) | (go_simp; rfl)); intro g7 e_ w_ b_ hb; replace HM := Aside0.mk (HM.out.box hb b_ e_); clear e_ b_ hb; have ka0 := blk_cell HM.out.a3 0; have ka1 := blk_cell HM.out.a3 1; have kb0 := blk_cell HM.out.a2 0; have kb1 := blk_cell HM.out.a2 1; have kc0 := blk_cell HM.out.a1 0; have kc1 := blk_cell HM.out.a1 1; have kd0 := blk_cell HM.out.a0 0; have kd1 := blk_cell HM.out.a0 1)
    | (go_at_call 23; (with_reducible refine (PointValid_calls ax ay _).mono ?_); rintro e w_ ⟨rfl, hb⟩; rw [H1.out]; replace HM := Aside0.mk (HM.out.keep hb); clear hb; (try clear ka0 ka1 kb0 kb1 kc0 kc1 kd0 kd1); have ka0 := blk_cell HM.out.a3 0; have ka1 := blk_cell HM.out.a3 1; have kb0 := blk_cell HM.out.a2 0; have kb1 := blk_cell HM.out.a2 1; have kc0 := blk_cell HM.out.a1 0; have kc1 := blk_cell HM.out.a1 1; have kd0 := blk_cell HM.out.a0 0; have kd1 := blk_cell HM.out.a0 1)
    | (go_at_call 23; (with_reducible refine (PointValid_calls bx by_ _).mono ?_); rintro e w_ ⟨rfl, hb⟩; rw [H2.out]; replace HM := Aside0.mk (HM.out.keep hb); clear hb; (try clear ka0 ka1 kb0 kb1 kc0 kc1 kd0 kd1); have ka0 := blk_cell HM.out.a3 0; have ka1 := blk_cell HM.out.a3 1; have kb0 := blk_cell HM.out.a2 0; have kb1 := blk_cell HM.out.a2 1; have kc0 := blk_cell HM.out.a1 0; have kc1 := blk_cell HM.out.a1 1; have kd0 := blk_cell HM.out.a0 0; have kd1 := blk_cell HM.out.a0 1)
    | (go_at_call 23; (with_reducible refine (PointValid_calls cx cy _).mono ?_); rintro e w_ ⟨rfl, hb⟩; rw [H3.out]; replace HM := Aside0.mk (HM.out.keep hb); clear hb; (try clear ka0 ka1 kb0 kb1 kc0 kc1 kd0 kd1); have ka0 := blk_cell HM.out.a3 0; have ka1 := blk_cell HM.out.a3 1; have kb0 := blk_cell HM.out.a2 0; have kb1 := blk_cell HM.out.a2 1; have kc0 := blk_cell HM.out.a1 0; have kc1 := blk_cell HM.out.a1 1; have kd0 := blk_cell HM.out.a0 0; have kd1 := blk_cell HM.out.a0 1)
    | (go_at_call 23; (with_reducible refine (PointValid_calls dx dy _).mono ?_); rintro e w_ ⟨rfl, hb⟩; rw [H4.out]; replace HM := Aside0.mk (HM.out.keep hb); clear hb; (try clear ka0 ka1 kb0 kb1 kc0 kc1 kd0 kd1); have ka0 := blk_cell HM.out.a3 0; have ka1 := blk_cell HM.out.a3 1; have kb0 := blk_cell HM.out.a2 0; have kb1 := blk_cell HM.out.a2 1; have kc0 := blk_cell HM.out.a1 0; have kc1 := blk_cell HM.out.a1 1; have kd0 := blk_cell HM.out.a0 0; have kd1 := blk_cell HM.out.a0 1))
  go_ret3
  exact ⟨rfl, HM.out.1⟩
set_option maxHeartbeats 4000000 in
theorem lines_no5 (ax ay bx by_ cx cy dx dy : Int) (h1 : inR ax ay 10000 = true) (h2 : inR bx by_ 10000 = true) (h3 : inR cx cy 10000 = true) (h4 : inR dx dy 10000 = true) (h5 : (ax == bx && (ay == by_)) = true) (w : World) :
    Calls Try.prog 39 #[.agg #[.int .i64 ax, .int .i64 ay], .agg #[.int .i64 bx, .int .i64 by_], .agg #[.int .i64 cx, .int .i64 cy], .agg #[.int .i64 dx, .int .i64 dy]] w fun e w' => e = .returned (.tuple #[.pointer none, .pointer none, .bool false]) ∧ Below w.heap.size w w' := by
  have H1 := Aside0.mk h1
  have H2 := Aside0.mk h2
  have H3 := Aside0.mk h3
  have H4 := Aside0.mk h4
  have HM := Aside0.mk (Hd.nil w)
  clear h1 h2 h3 h4
  go_enter Try.func39, Try.ntmps39
  go_wp2_with (first
    | ((with_reducible refine gate_dst (N := 4) rfl ?_); refine box_event ?hg (N := 4) ?hd (cs := #[.int .i64 ax, .int .i64 ay]) (t := 25) ?hr ?_; (case hd => rfl); (case hg => rfl); (case hr => first | (go_simp; done) | (go_simp; rfl)); intro g4 e_ w_ b_ hb; replace HM := Aside0.mk (HM.out.box hb b_ e_); clear e_ b_ hb)
    | ((with_reducible refine gate_dst (N := 5) rfl ?_); refine box_event ?hg (N := 5) ?hd (cs := #[.int .i64 bx, .int .i64 by_]) (t := 25) ?hr ?_; (case hd => rfl); (case hg => rfl); (case hr => first | (go_simp; done) | (go_simp; rfl)); intro g5 e_ w_ b_ hb; replace HM := Aside0.mk (HM.out.box hb b_ e_); clear e_ b_ hb)
    | ((with_reducible refine gate_dst (N := 6) rfl ?_); refine box_event ?hg (N := 6) ?hd (cs := #[.int .i64 cx, .int .i64 cy]) (t := 25) ?hr ?_; (case hd => rfl); (case hg => rfl); (case hr => first | (go_simp; done) | (go_simp; rfl)); intro g6 e_ w_ b_ hb; replace HM := Aside0.mk (HM.out.box hb b_ e_); clear e_ b_ hb)
    | ((with_reducible refine gate_dst (N := 7) rfl ?_); refine box_event ?hg (N := 7) ?hd (cs := #[.int .i64 dx, .int .i64 dy]) (t := 25) ?hr ?_; (case hd => rfl); (case hg => rfl); (case hr => first | (go_simp; done) | (go_simp; rfl)); intro g7 e_ w_ b_ hb; replace HM := Aside0.mk (HM.out.box hb b_ e_); clear e_ b_ hb; have ka0 := blk_cell HM.out.a3 0; have ka1 := blk_cell HM.out.a3 1; have kb0 := blk_cell HM.out.a2 0; have kb1 := blk_cell HM.out.a2 1; have kc0 := blk_cell HM.out.a1 0; have kc1 := blk_cell HM.out.a1 1; have kd0 := blk_cell HM.out.a0 0; have kd1 := blk_cell HM.out.a0 1)
    | (go_at_call 23; (with_reducible refine (PointValid_calls ax ay _).mono ?_); rintro e w_ ⟨rfl, hb⟩; rw [H1.out]; replace HM := Aside0.mk (HM.out.keep hb); clear hb; (try clear ka0 ka1 kb0 kb1 kc0 kc1 kd0 kd1); have ka0 := blk_cell HM.out.a3 0; have ka1 := blk_cell HM.out.a3 1; have kb0 := blk_cell HM.out.a2 0; have kb1 := blk_cell HM.out.a2 1; have kc0 := blk_cell HM.out.a1 0; have kc1 := blk_cell HM.out.a1 1; have kd0 := blk_cell HM.out.a0 0; have kd1 := blk_cell HM.out.a0 1)
    | (go_at_call 23; (with_reducible refine (PointValid_calls bx by_ _).mono ?_); rintro e w_ ⟨rfl, hb⟩; rw [H2.out]; replace HM := Aside0.mk (HM.out.keep hb); clear hb; (try clear ka0 ka1 kb0 kb1 kc0 kc1 kd0 kd1); have ka0 := blk_cell HM.out.a3 0; have ka1 := blk_cell HM.out.a3 1; have kb0 := blk_cell HM.out.a2 0; have kb1 := blk_cell HM.out.a2 1; have kc0 := blk_cell HM.out.a1 0; have kc1 := blk_cell HM.out.a1 1; have kd0 := blk_cell HM.out.a0 0; have kd1 := blk_cell HM.out.a0 1)
    | (go_at_call 23; (with_reducible refine (PointValid_calls cx cy _).mono ?_); rintro e w_ ⟨rfl, hb⟩; rw [H3.out]; replace HM := Aside0.mk (HM.out.keep hb); clear hb; (try clear ka0 ka1 kb0 kb1 kc0 kc1 kd0 kd1); have ka0 := blk_cell HM.out.a3 0; have ka1 := blk_cell HM.out.a3 1; have kb0 := blk_cell HM.out.a2 0; have kb1 := blk_cell HM.out.a2 1; have kc0 := blk_cell HM.out.a1 0; have kc1 := blk_cell HM.out.a1 1; have kd0 := blk_cell HM.out.a0 0; have kd1 := blk_cell HM.out.a0 1)
    | (go_at_call 23; (with_reducible refine (PointValid_calls dx dy _).mono ?_); rintro e w_ ⟨rfl, hb⟩; rw [H4.out]; replace HM := Aside0.mk (HM.out.keep hb); clear hb; (try clear ka0 ka1 kb0 kb1 kc0 kc1 kd0 kd1); have ka0 := blk_cell HM.out.a3 0; have ka1 := blk_cell HM.out.a3 1; have kb0 := blk_cell HM.out.a2 0; have kb1 := blk_cell HM.out.a2 1; have kc0 := blk_cell HM.out.a1 0; have kc1 := blk_cell HM.out.a1 1; have kd0 := blk_cell HM.out.a0 0; have kd1 := blk_cell HM.out.a0 1))
  go_ret3
  exact ⟨rfl, HM.out.1⟩
set_option maxHeartbeats 4000000 in
theorem lines_no6 (ax ay bx by_ cx cy dx dy : Int) (h1 : inR ax ay 10000 = true) (h2 : inR bx by_ 10000 = true) (h3 : inR cx cy 10000 = true) (h4 : inR dx dy 10000 = true) (h5 : (ax == bx && (ay == by_)) = false) (h6 : (cx == dx && (cy == dy)) = true) (w : World) :
    Calls Try.prog 39 #[.agg #[.int .i64 ax, .int .i64 ay], .agg #[.int .i64 bx, .int .i64 by_], .agg #[.int .i64 cx, .int .i64 cy], .agg #[.int .i64 dx, .int .i64 dy]] w fun e w' => e = .returned (.tuple #[.pointer none, .pointer none, .bool false]) ∧ Below w.heap.size w w' := by
  have H1 := Aside0.mk h1
  have H2 := Aside0.mk h2
  have H3 := Aside0.mk h3
  have H4 := Aside0.mk h4
  have HM := Aside0.mk (Hd.nil w)
  clear h1 h2 h3 h4
  go_enter Try.func39, Try.ntmps39
  go_wp2_with (first
    | ((with_reducible refine gate_dst (N := 4) rfl ?_); refine box_event ?hg (N := 4) ?hd (cs := #[.int .i64 ax, .int .i64 ay]) (t := 25) ?hr ?_; (case hd => rfl); (case hg => rfl); (case hr => first | (go_simp; done) | (go_simp; rfl)); intro g4 e_ w_ b_ hb; replace HM := Aside0.mk (HM.out.box hb b_ e_); clear e_ b_ hb)
    | ((with_reducible refine gate_dst (N := 5) rfl ?_); refine box_event ?hg (N := 5) ?hd (cs := #[.int .i64 bx, .int .i64 by_]) (t := 25) ?hr ?_; (case hd => rfl); (case hg => rfl); (case hr => first | (go_simp; done) | (go_simp; rfl)); intro g5 e_ w_ b_ hb; replace HM := Aside0.mk (HM.out.box hb b_ e_); clear e_ b_ hb)
    | ((with_reducible refine gate_dst (N := 6) rfl ?_); refine box_event ?hg (N := 6) ?hd (cs := #[.int .i64 cx, .int .i64 cy]) (t := 25) ?hr ?_; (case hd => rfl); (case hg => rfl); (case hr => first | (go_simp; done) | (go_simp; rfl)); intro g6 e_ w_ b_ hb; replace HM := Aside0.mk (HM.out.box hb b_ e_); clear e_ b_ hb)
    | ((with_reducible refine gate_dst (N := 7) rfl ?_); refine box_event ?hg (N := 7) ?hd (cs := #[.int .i64 dx, .int .i64 dy]) (t := 25) ?hr ?_; (case hd => rfl); (case hg => rfl); (case hr => first | (go_simp; done) | (go_simp; rfl)); intro g7 e_ w_ b_ hb; replace HM := Aside0.mk (HM.out.box hb b_ e_); clear e_ b_ hb; have ka0 := blk_cell HM.out.a3 0; have ka1 := blk_cell HM.out.a3 1; have kb0 := blk_cell HM.out.a2 0; have kb1 := blk_cell HM.out.a2 1; have kc0 := blk_cell HM.out.a1 0; have kc1 := blk_cell HM.out.a1 1; have kd0 := blk_cell HM.out.a0 0; have kd1 := blk_cell HM.out.a0 1)
    | (go_at_call 23; (with_reducible refine (PointValid_calls ax ay _).mono ?_); rintro e w_ ⟨rfl, hb⟩; rw [H1.out]; replace HM := Aside0.mk (HM.out.keep hb); clear hb; (try clear ka0 ka1 kb0 kb1 kc0 kc1 kd0 kd1); have ka0 := blk_cell HM.out.a3 0; have ka1 := blk_cell HM.out.a3 1; have kb0 := blk_cell HM.out.a2 0; have kb1 := blk_cell HM.out.a2 1; have kc0 := blk_cell HM.out.a1 0; have kc1 := blk_cell HM.out.a1 1; have kd0 := blk_cell HM.out.a0 0; have kd1 := blk_cell HM.out.a0 1)
    | (go_at_call 23; (with_reducible refine (PointValid_calls bx by_ _).mono ?_); rintro e w_ ⟨rfl, hb⟩; rw [H2.out]; replace HM := Aside0.mk (HM.out.keep hb); clear hb; (try clear ka0 ka1 kb0 kb1 kc0 kc1 kd0 kd1); have ka0 := blk_cell HM.out.a3 0; have ka1 := blk_cell HM.out.a3 1; have kb0 := blk_cell HM.out.a2 0; have kb1 := blk_cell HM.out.a2 1; have kc0 := blk_cell HM.out.a1 0; have kc1 := blk_cell HM.out.a1 1; have kd0 := blk_cell HM.out.a0 0; have kd1 := blk_cell HM.out.a0 1)
    | (go_at_call 23; (with_reducible refine (PointValid_calls cx cy _).mono ?_); rintro e w_ ⟨rfl, hb⟩; rw [H3.out]; replace HM := Aside0.mk (HM.out.keep hb); clear hb; (try clear ka0 ka1 kb0 kb1 kc0 kc1 kd0 kd1); have ka0 := blk_cell HM.out.a3 0; have ka1 := blk_cell HM.out.a3 1; have kb0 := blk_cell HM.out.a2 0; have kb1 := blk_cell HM.out.a2 1; have kc0 := blk_cell HM.out.a1 0; have kc1 := blk_cell HM.out.a1 1; have kd0 := blk_cell HM.out.a0 0; have kd1 := blk_cell HM.out.a0 1)
    | (go_at_call 23; (with_reducible refine (PointValid_calls dx dy _).mono ?_); rintro e w_ ⟨rfl, hb⟩; rw [H4.out]; replace HM := Aside0.mk (HM.out.keep hb); clear hb; (try clear ka0 ka1 kb0 kb1 kc0 kc1 kd0 kd1); have ka0 := blk_cell HM.out.a3 0; have ka1 := blk_cell HM.out.a3 1; have kb0 := blk_cell HM.out.a2 0; have kb1 := blk_cell HM.out.a2 1; have kc0 := blk_cell HM.out.a1 0; have kc1 := blk_cell HM.out.a1 1; have kd0 := blk_cell HM.out.a0 0; have kd1 := blk_cell HM.out.a0 1))
  go_ret3
  exact ⟨rfl, HM.out.1⟩
set_option maxHeartbeats 8000000 in
theorem lines_yes (ax ay bx by_ cx cy dx dy : Int) (h1 : inR ax ay 10000 = true) (h2 : inR bx by_ 10000 = true) (h3 : inR cx cy 10000 = true) (h4 : inR dx dy 10000 = true) (h5 : (ax == bx && (ay == by_)) = false) (h6 : (cx == dx && (cy == dy)) = false) (w : World) :
    Calls Try.prog 39 #[.agg #[.int .i64 ax, .int .i64 ay], .agg #[.int .i64 bx, .int .i64 by_], .agg #[.int .i64 cx, .int .i64 cy], .agg #[.int .i64 dx, .int .i64 dy]] w fun e w' => ∃ g1 g2, e = .returned (.tuple #[.pointer (some ⟨g1, 0, none⟩), .pointer (some ⟨g2, 0, none⟩), .bool true]) ∧ Hd w w' [(g2, #[.int .i64 cx, .int .i64 cy, .int .i64 (wrap64 (dx - cx)), .int .i64 (wrap64 (dy - cy))], 63), (g1, #[.int .i64 ax, .int .i64 ay, .int .i64 (wrap64 (bx - ax)), .int .i64 (wrap64 (by_ - ay))], 63)] := by
  have H1 := Aside0.mk h1
  have H2 := Aside0.mk h2
  have H3 := Aside0.mk h3
  have H4 := Aside0.mk h4
  have HM := Aside0.mk (Hd.nil w)
  clear h1 h2 h3 h4
  go_enter Try.func39, Try.ntmps39
  go_wp2_with (first
    | ((with_reducible refine gate_dst (N := 4) rfl ?_); refine box_event ?hg (N := 4) ?hd (cs := #[.int .i64 ax, .int .i64 ay]) (t := 25) ?hr ?_; (case hd => rfl); (case hg => rfl); (case hr => first | (go_simp; done) | (go_simp; rfl)); intro g4 e_ w_ b_ hb; replace HM := Aside0.mk (HM.out.box hb b_ e_); clear e_ b_ hb)
    | ((with_reducible refine gate_dst (N := 5) rfl ?_); refine box_event ?hg (N := 5) ?hd (cs := #[.int .i64 bx, .int .i64 by_]) (t := 25) ?hr ?_; (case hd => rfl); (case hg => rfl); (case hr => first | (go_simp; done) | (go_simp; rfl)); intro g5 e_ w_ b_ hb; replace HM := Aside0.mk (HM.out.box hb b_ e_); clear e_ b_ hb)
    | ((with_reducible refine gate_dst (N := 6) rfl ?_); refine box_event ?hg (N := 6) ?hd (cs := #[.int .i64 cx, .int .i64 cy]) (t := 25) ?hr ?_; (case hd => rfl); (case hg => rfl); (case hr => first | (go_simp; done) | (go_simp; rfl)); intro g6 e_ w_ b_ hb; replace HM := Aside0.mk (HM.out.box hb b_ e_); clear e_ b_ hb)
    | ((with_reducible refine gate_dst (N := 7) rfl ?_); refine box_event ?hg (N := 7) ?hd (cs := #[.int .i64 dx, .int .i64 dy]) (t := 25) ?hr ?_; (case hd => rfl); (case hg => rfl); (case hr => first | (go_simp; done) | (go_simp; rfl)); intro g7 e_ w_ b_ hb; replace HM := Aside0.mk (HM.out.box hb b_ e_); clear e_ b_ hb; have ka0 := blk_cell HM.out.a3 0; have ka1 := blk_cell HM.out.a3 1; have kb0 := blk_cell HM.out.a2 0; have kb1 := blk_cell HM.out.a2 1; have kc0 := blk_cell HM.out.a1 0; have kc1 := blk_cell HM.out.a1 1; have kd0 := blk_cell HM.out.a0 0; have kd1 := blk_cell HM.out.a0 1)
    | (go_at_call 23; (with_reducible refine (PointValid_calls ax ay _).mono ?_); rintro e w_ ⟨rfl, hb⟩; rw [H1.out]; replace HM := Aside0.mk (HM.out.keep hb); clear hb; (try clear ka0 ka1 kb0 kb1 kc0 kc1 kd0 kd1); have ka0 := blk_cell HM.out.a3 0; have ka1 := blk_cell HM.out.a3 1; have kb0 := blk_cell HM.out.a2 0; have kb1 := blk_cell HM.out.a2 1; have kc0 := blk_cell HM.out.a1 0; have kc1 := blk_cell HM.out.a1 1; have kd0 := blk_cell HM.out.a0 0; have kd1 := blk_cell HM.out.a0 1)
    | (go_at_call 23; (with_reducible refine (PointValid_calls bx by_ _).mono ?_); rintro e w_ ⟨rfl, hb⟩; rw [H2.out]; replace HM := Aside0.mk (HM.out.keep hb); clear hb; (try clear ka0 ka1 kb0 kb1 kc0 kc1 kd0 kd1); have ka0 := blk_cell HM.out.a3 0; have ka1 := blk_cell HM.out.a3 1; have kb0 := blk_cell HM.out.a2 0; have kb1 := blk_cell HM.out.a2 1; have kc0 := blk_cell HM.out.a1 0; have kc1 := blk_cell HM.out.a1 1; have kd0 := blk_cell HM.out.a0 0; have kd1 := blk_cell HM.out.a0 1)
    | (go_at_call 23; (with_reducible refine (PointValid_calls cx cy _).mono ?_); rintro e w_ ⟨rfl, hb⟩; rw [H3.out]; replace HM := Aside0.mk (HM.out.keep hb); clear hb; (try clear ka0 ka1 kb0 kb1 kc0 kc1 kd0 kd1); have ka0 := blk_cell HM.out.a3 0; have ka1 := blk_cell HM.out.a3 1; have kb0 := blk_cell HM.out.a2 0; have kb1 := blk_cell HM.out.a2 1; have kc0 := blk_cell HM.out.a1 0; have kc1 := blk_cell HM.out.a1 1; have kd0 := blk_cell HM.out.a0 0; have kd1 := blk_cell HM.out.a0 1)
    | (go_at_call 23; (with_reducible refine (PointValid_calls dx dy _).mono ?_); rintro e w_ ⟨rfl, hb⟩; rw [H4.out]; replace HM := Aside0.mk (HM.out.keep hb); clear hb; (try clear ka0 ka1 kb0 kb1 kc0 kc1 kd0 kd1); have ka0 := blk_cell HM.out.a3 0; have ka1 := blk_cell HM.out.a3 1; have kb0 := blk_cell HM.out.a2 0; have kb1 := blk_cell HM.out.a2 1; have kc0 := blk_cell HM.out.a1 0; have kc1 := blk_cell HM.out.a1 1; have kd0 := blk_cell HM.out.a0 0; have kd1 := blk_cell HM.out.a0 1))
  · clear H1 H2 H3 H4 h5 h6
    generalize hp : wrap64 (bx - ax) = p at *
    generalize hq : wrap64 (by_ - ay) = q at *
    generalize hr : wrap64 (dx - cx) = r at *
    generalize hs : wrap64 (dy - cy) = s at *
    have HP := Aside0.mk hp
    have HQ := Aside0.mk hq
    have HR := Aside0.mk hr
    have HS := Aside0.mk hs
    clear hp hq hr hs
    go_region_held3 (fun w' => w'.cell? ⟨g4, 0, none⟩ = some (.int .i64 ax) ∧ w'.cell? ⟨g4, 1, none⟩ = some (.int .i64 ay) ∧ w'.cell? ⟨g5, 0, none⟩ = some (.int .i64 bx) ∧ w'.cell? ⟨g5, 1, none⟩ = some (.int .i64 by_))
      (first
        | exact ⟨blk_cell HM.out.a3 0, blk_cell HM.out.a3 1, blk_cell HM.out.a2 0, blk_cell HM.out.a2 1⟩
        | exact ⟨blk_cell HM.out.drew.a3 0, blk_cell HM.out.drew.a3 1, blk_cell HM.out.drew.a2 0, blk_cell HM.out.drew.a2 1⟩
        | exact ⟨blk_cell (HM.out.alloc _ _).a4 0, blk_cell (HM.out.alloc _ _).a4 1, blk_cell (HM.out.alloc _ _).a3 0, blk_cell (HM.out.alloc _ _).a3 1⟩
        | go_keep)
      (first
        | (go_at_call 48; (with_reducible refine (pairOf_calls ax ay _).mono ?_); rintro e w_ ⟨rfl, hb⟩; (first | replace HM := Aside0.mk (HM.out.keep hb) | replace HM := Aside0.mk (HM.out.drew.keep hb)); clear hb; (try clear ka0); (try clear ka1); (try clear kb0); (try clear kb1); (try clear kc0); (try clear kc1); (try clear kd0); (try clear kd1); have ka0 := blk_cell HM.out.a3 0; have ka1 := blk_cell HM.out.a3 1; have kb0 := blk_cell HM.out.a2 0; have kb1 := blk_cell HM.out.a2 1; have kc0 := blk_cell HM.out.a1 0; have kc1 := blk_cell HM.out.a1 1; have kd0 := blk_cell HM.out.a0 0; have kd1 := blk_cell HM.out.a0 1)
        | (go_at_call 48; (with_reducible refine (pairOf_calls bx by_ _).mono ?_); rintro e w_ ⟨rfl, hb⟩; (first | replace HM := Aside0.mk (HM.out.keep hb) | replace HM := Aside0.mk (HM.out.drew.keep hb)); clear hb; (try clear ka0); (try clear ka1); (try clear kb0); (try clear kb1); (try clear kc0); (try clear kc1); (try clear kd0); (try clear kd1); have ka0 := blk_cell HM.out.a3 0; have ka1 := blk_cell HM.out.a3 1; have kb0 := blk_cell HM.out.a2 0; have kb1 := blk_cell HM.out.a2 1; have kc0 := blk_cell HM.out.a1 0; have kc1 := blk_cell HM.out.a1 1; have kd0 := blk_cell HM.out.a0 0; have kd1 := blk_cell HM.out.a0 1)
        | (go_at_call 51; (with_reducible refine (pairMinus_calls bx by_ ax ay _).mono ?_); rw [HP.out, HQ.out]; rintro e w_ ⟨rfl, hb⟩; (first | replace HM := Aside0.mk (HM.out.keep hb) | replace HM := Aside0.mk (HM.out.drew.keep hb)); clear hb; (try clear ka0); (try clear ka1); (try clear kb0); (try clear kb1); (try clear kc0); (try clear kc1); (try clear kd0); (try clear kd1); have ka0 := blk_cell HM.out.a3 0; have ka1 := blk_cell HM.out.a3 1; have kb0 := blk_cell HM.out.a2 0; have kb1 := blk_cell HM.out.a2 1; have kc0 := blk_cell HM.out.a1 0; have kc1 := blk_cell HM.out.a1 1; have kd0 := blk_cell HM.out.a0 0; have kd1 := blk_cell HM.out.a0 1))
    replace HM := Aside0.mk (HM.out.alloc #[.int .i64 ax, .int .i64 ay, .int .i64 p, .int .i64 q] 63)
    clear ka0 ka1 kb0 kb1 kc0 kc1 kd0 kd1
    generalize w_.alloc (.cells #[.int .i64 ax, .int .i64 ay, .int .i64 p, .int .i64 q] 63) = w11 at *
    generalize w_.heap.size = g11 at *
    have ka0 := blk_cell HM.out.a4 0
    have ka1 := blk_cell HM.out.a4 1
    have kb0 := blk_cell HM.out.a3 0
    have kb1 := blk_cell HM.out.a3 1
    have kc0 := blk_cell HM.out.a2 0
    have kc1 := blk_cell HM.out.a2 1
    have kd0 := blk_cell HM.out.a1 0
    have kd1 := blk_cell HM.out.a1 1
    go_wp2_with fail
    go_region_held3 (fun w' => w'.cell? ⟨g6, 0, none⟩ = some (.int .i64 cx) ∧ w'.cell? ⟨g6, 1, none⟩ = some (.int .i64 cy) ∧ w'.cell? ⟨g7, 0, none⟩ = some (.int .i64 dx) ∧ w'.cell? ⟨g7, 1, none⟩ = some (.int .i64 dy))
      (first
        | exact ⟨blk_cell HM.out.a2 0, blk_cell HM.out.a2 1, blk_cell HM.out.a1 0, blk_cell HM.out.a1 1⟩
        | exact ⟨blk_cell HM.out.drew.a2 0, blk_cell HM.out.drew.a2 1, blk_cell HM.out.drew.a1 0, blk_cell HM.out.drew.a1 1⟩
        | exact ⟨blk_cell (HM.out.alloc _ _).a3 0, blk_cell (HM.out.alloc _ _).a3 1, blk_cell (HM.out.alloc _ _).a2 0, blk_cell (HM.out.alloc _ _).a2 1⟩
        | go_keep)
      (first
        | (go_at_call 48; (with_reducible refine (pairOf_calls cx cy _).mono ?_); rintro e w_ ⟨rfl, hb⟩; (first | replace HM := Aside0.mk (HM.out.keep hb) | replace HM := Aside0.mk (HM.out.drew.keep hb)); clear hb; (try clear ka0); (try clear ka1); (try clear kb0); (try clear kb1); (try clear kc0); (try clear kc1); (try clear kd0); (try clear kd1); have ka0 := blk_cell HM.out.a4 0; have ka1 := blk_cell HM.out.a4 1; have kb0 := blk_cell HM.out.a3 0; have kb1 := blk_cell HM.out.a3 1; have kc0 := blk_cell HM.out.a2 0; have kc1 := blk_cell HM.out.a2 1; have kd0 := blk_cell HM.out.a1 0; have kd1 := blk_cell HM.out.a1 1)
        | (go_at_call 48; (with_reducible refine (pairOf_calls dx dy _).mono ?_); rintro e w_ ⟨rfl, hb⟩; (first | replace HM := Aside0.mk (HM.out.keep hb) | replace HM := Aside0.mk (HM.out.drew.keep hb)); clear hb; (try clear ka0); (try clear ka1); (try clear kb0); (try clear kb1); (try clear kc0); (try clear kc1); (try clear kd0); (try clear kd1); have ka0 := blk_cell HM.out.a4 0; have ka1 := blk_cell HM.out.a4 1; have kb0 := blk_cell HM.out.a3 0; have kb1 := blk_cell HM.out.a3 1; have kc0 := blk_cell HM.out.a2 0; have kc1 := blk_cell HM.out.a2 1; have kd0 := blk_cell HM.out.a1 0; have kd1 := blk_cell HM.out.a1 1)
        | (go_at_call 51; (with_reducible refine (pairMinus_calls dx dy cx cy _).mono ?_); rw [HR.out, HS.out]; rintro e w_ ⟨rfl, hb⟩; (first | replace HM := Aside0.mk (HM.out.keep hb) | replace HM := Aside0.mk (HM.out.drew.keep hb)); clear hb; (try clear ka0); (try clear ka1); (try clear kb0); (try clear kb1); (try clear kc0); (try clear kc1); (try clear kd0); (try clear kd1); have ka0 := blk_cell HM.out.a4 0; have ka1 := blk_cell HM.out.a4 1; have kb0 := blk_cell HM.out.a3 0; have kb1 := blk_cell HM.out.a3 1; have kc0 := blk_cell HM.out.a2 0; have kc1 := blk_cell HM.out.a2 1; have kd0 := blk_cell HM.out.a1 0; have kd1 := blk_cell HM.out.a1 1))
    replace HM := Aside0.mk (HM.out.alloc #[.int .i64 cx, .int .i64 cy, .int .i64 r, .int .i64 s] 63)
    clear ka0 ka1 kb0 kb1 kc0 kc1 kd0 kd1
    generalize w_.alloc (.cells #[.int .i64 cx, .int .i64 cy, .int .i64 r, .int .i64 s] 63) = w12 at *
    generalize w_.heap.size = g12 at *
    go_wp2_with fail
    go_ret3
    exact ⟨g11, g12, rfl, by rw [HP.out, HQ.out, HR.out, HS.out]; exact HM.out.two⟩
end
/-- Two lines lie in memory. -/
def Ln2 (w W : World) (g1 : Nat) (c1 : Array Value) (g2 : Nat) (c2 : Array Value) (t : TypeId) : Prop := Below w.heap.size w W ∧ W.heap[g1]? = some (.cells c1 t (0, 0)) ∧ W.heap[g2]? = some (.cells c2 t (0, 0))
theorem Ln2.keep {w W W' : World} {g1 g2 : Nat} {c1 c2 : Array Value} {t : TypeId} (h : Ln2 w W g1 c1 g2 c2 t) (hb : Below W.heap.size W W') : Ln2 w W' g1 c1 g2 c2 t := ⟨below_then h.1 h.1.size hb, blk_below h.2.1 hb, blk_below h.2.2 hb⟩
theorem Ln2.drew {w W : World} {g1 g2 : Nat} {c1 c2 : Array Value} {t : TypeId} (h : Ln2 w W g1 c1 g2 c2 t) : Ln2 w W.drew g1 c1 g2 c2 t := h.keep (below_drew1 (Below.refl _ _))
/-- How far the crossing lies, as two numbers. -/
def alT (x1 y1 x2 y2 u2 v2 : Int) : Int := crI (wrap64 (x2 - x1)) (wrap64 (y2 - y1)) u2 v2
def alI (x1 y1 u1 v1 x2 y2 u2 v2 : Int) : Int × Int := if crI u1 v1 u2 v2 < 0 then (wrap64 (-alT x1 y1 x2 y2 u2 v2), wrap64 (-crI u1 v1 u2 v2)) else (alT x1 y1 x2 y2 u2 v2, crI u1 v1 u2 v2)
set_option maxHeartbeats 4000000 in
theorem along_calls (g1 g2 : Nat) (x1 y1 u1 v1 x2 y2 u2 v2 : Int) (w : World) (h1 : w.heap[g1]? = some (.cells #[.int .i64 x1, .int .i64 y1, .int .i64 u1, .int .i64 v1] 63 (0, 0))) (h2 : w.heap[g2]? = some (.cells #[.int .i64 x2, .int .i64 y2, .int .i64 u2, .int .i64 v2] 63 (0, 0))) :
    Calls Try.prog 45 #[.pointer (some ⟨g1, 0, none⟩), .pointer (some ⟨g2, 0, none⟩)] w fun e w' => e = .returned (.tuple #[.int .i64 (alI x1 y1 u1 v1 x2 y2 u2 v2).1, .int .i64 (alI x1 y1 u1 v1 x2 y2 u2 v2).2]) ∧ Below w.heap.size w w' := by
  have HM : Aside0 (Ln2 w w g1 #[.int .i64 x1, .int .i64 y1, .int .i64 u1, .int .i64 v1] g2 #[.int .i64 x2, .int .i64 y2, .int .i64 u2, .int .i64 v2] 63) := ⟨⟨Below.refl _ _, h1, h2⟩⟩
  clear h1 h2
  have k0 := blk_cell HM.out.2.1 0
  have k1 := blk_cell HM.out.2.1 1
  have k2 := blk_cell HM.out.2.1 2
  have k3 := blk_cell HM.out.2.1 3
  have k4 := blk_cell HM.out.2.2 0
  have k5 := blk_cell HM.out.2.2 1
  have k6 := blk_cell HM.out.2.2 2
  have k7 := blk_cell HM.out.2.2 3
  go_enter Try.func45, Try.ntmps45
  go_wp2_with fail
  generalize hp : wrap64 (x2 - x1) = p at *
  generalize hq : wrap64 (y2 - y1) = q at *
  have HP := Aside0.mk hp
  have HQ := Aside0.mk hq
  have HTT : Aside0 (alT x1 y1 x2 y2 u2 v2 = wrap64 (wrap64 (p * v2) - wrap64 (u2 * q))) := ⟨by unfold alT crI; rw [hp, hq]⟩
  clear hp hq
  generalize ht : wrap64 (wrap64 (p * v2) - wrap64 (u2 * q)) = tp at *
  have HT := Aside0.mk ht
  clear ht
  go_region_held3 (fun w' => w'.cell? ⟨g1, 0, none⟩ = some (.int .i64 x1) ∧ w'.cell? ⟨g1, 1, none⟩ = some (.int .i64 y1) ∧ w'.cell? ⟨g1, 2, none⟩ = some (.int .i64 u1) ∧ w'.cell? ⟨g1, 3, none⟩ = some (.int .i64 v1) ∧ w'.cell? ⟨g2, 0, none⟩ = some (.int .i64 x2) ∧ w'.cell? ⟨g2, 1, none⟩ = some (.int .i64 y2) ∧ w'.cell? ⟨g2, 2, none⟩ = some (.int .i64 u2) ∧ w'.cell? ⟨g2, 3, none⟩ = some (.int .i64 v2))
    (first
      | exact ⟨blk_cell HM.out.2.1 0, blk_cell HM.out.2.1 1, blk_cell HM.out.2.1 2, blk_cell HM.out.2.1 3, blk_cell HM.out.2.2 0, blk_cell HM.out.2.2 1, blk_cell HM.out.2.2 2, blk_cell HM.out.2.2 3⟩
      | exact ⟨blk_cell HM.out.drew.2.1 0, blk_cell HM.out.drew.2.1 1, blk_cell HM.out.drew.2.1 2, blk_cell HM.out.drew.2.1 3, blk_cell HM.out.drew.2.2 0, blk_cell HM.out.drew.2.2 1, blk_cell HM.out.drew.2.2 2, blk_cell HM.out.drew.2.2 3⟩
      | go_keep)
    (first
      | (go_at_call 51; (with_reducible refine (pairMinus_calls x2 y2 x1 y1 _).mono ?_); rw [HP.out, HQ.out]; rintro e w_ ⟨rfl, hb⟩; (first | replace HM := Aside0.mk (HM.out.keep hb) | replace HM := Aside0.mk (HM.out.drew.keep hb)); clear hb; (try clear k0); (try clear k1); (try clear k2); (try clear k3); (try clear k4); (try clear k5); (try clear k6); (try clear k7); have k0 := blk_cell HM.out.2.1 0; have k1 := blk_cell HM.out.2.1 1; have k2 := blk_cell HM.out.2.1 2; have k3 := blk_cell HM.out.2.1 3; have k4 := blk_cell HM.out.2.2 0; have k5 := blk_cell HM.out.2.2 1; have k6 := blk_cell HM.out.2.2 2; have k7 := blk_cell HM.out.2.2 3)
      | (go_at_call 53; (with_reducible refine (pairCross_calls p q u2 v2 _).mono ?_); rw [HT.out]; rintro e w_ ⟨rfl, hb⟩; (first | replace HM := Aside0.mk (HM.out.keep hb) | replace HM := Aside0.mk (HM.out.drew.keep hb)); clear hb; (try clear k0); (try clear k1); (try clear k2); (try clear k3); (try clear k4); (try clear k5); (try clear k6); (try clear k7); have k0 := blk_cell HM.out.2.1 0; have k1 := blk_cell HM.out.2.1 1; have k2 := blk_cell HM.out.2.1 2; have k3 := blk_cell HM.out.2.1 3; have k4 := blk_cell HM.out.2.2 0; have k5 := blk_cell HM.out.2.2 1; have k6 := blk_cell HM.out.2.2 2; have k7 := blk_cell HM.out.2.2 3))
  go_wp2_with fail
  generalize hl : wrap64 (wrap64 (u1 * v2) - wrap64 (u2 * v1)) = lo at *
  have HL := Aside0.mk hl
  have HLL : Aside0 (crI u1 v1 u2 v2 = lo) := ⟨by unfold crI; exact hl⟩
  clear hl
  go_region_held3 (fun w' => w'.cell? ⟨g1, 0, none⟩ = some (.int .i64 x1) ∧ w'.cell? ⟨g1, 1, none⟩ = some (.int .i64 y1) ∧ w'.cell? ⟨g1, 2, none⟩ = some (.int .i64 u1) ∧ w'.cell? ⟨g1, 3, none⟩ = some (.int .i64 v1) ∧ w'.cell? ⟨g2, 0, none⟩ = some (.int .i64 x2) ∧ w'.cell? ⟨g2, 1, none⟩ = some (.int .i64 y2) ∧ w'.cell? ⟨g2, 2, none⟩ = some (.int .i64 u2) ∧ w'.cell? ⟨g2, 3, none⟩ = some (.int .i64 v2))
    (first
      | exact ⟨blk_cell HM.out.2.1 0, blk_cell HM.out.2.1 1, blk_cell HM.out.2.1 2, blk_cell HM.out.2.1 3, blk_cell HM.out.2.2 0, blk_cell HM.out.2.2 1, blk_cell HM.out.2.2 2, blk_cell HM.out.2.2 3⟩
      | exact ⟨blk_cell HM.out.drew.2.1 0, blk_cell HM.out.drew.2.1 1, blk_cell HM.out.drew.2.1 2, blk_cell HM.out.drew.2.1 3, blk_cell HM.out.drew.2.2 0, blk_cell HM.out.drew.2.2 1, blk_cell HM.out.drew.2.2 2, blk_cell HM.out.drew.2.2 3⟩
      | go_keep)
    (first
      | (go_at_call 53; (with_reducible refine (pairCross_calls u1 v1 u2 v2 _).mono ?_); rw [HL.out]; rintro e w_ ⟨rfl, hb⟩; (first | replace HM := Aside0.mk (HM.out.keep hb) | replace HM := Aside0.mk (HM.out.drew.keep hb)); clear hb; (try clear k0); (try clear k1); (try clear k2); (try clear k3); (try clear k4); (try clear k5); (try clear k6); (try clear k7); have k0 := blk_cell HM.out.2.1 0; have k1 := blk_cell HM.out.2.1 1; have k2 := blk_cell HM.out.2.1 2; have k3 := blk_cell HM.out.2.1 3; have k4 := blk_cell HM.out.2.2 0; have k5 := blk_cell HM.out.2.2 1; have k6 := blk_cell HM.out.2.2 2; have k7 := blk_cell HM.out.2.2 3))
  by_cases hneg : lo < 0
  · have HV : Aside0 (alI x1 y1 u1 v1 x2 y2 u2 v2 = (wrap64 (-tp), wrap64 (-lo))) := ⟨by unfold alI; rw [HLL.out, if_pos hneg, HTT.out]⟩
    go_wp2_with fail
    go_ret2
    exact ⟨by rw [HV.out]; rfl, HM.out.1⟩
  · have HV : Aside0 (alI x1 y1 u1 v1 x2 y2 u2 v2 = (tp, lo)) := ⟨by unfold alI; rw [HLL.out, if_neg hneg, HTT.out]⟩
    go_wp2_with fail
    go_ret2
    exact ⟨by rw [HV.out]; rfl, HM.out.1⟩
def hdI (p : Int × Int) : Bool := p.2 != 0 && (decide (0 ≤ p.1) && decide (p.1 ≤ p.2))
set_option maxHeartbeats 4000000 in
theorem holds_calls (g1 g2 : Nat) (x1 y1 u1 v1 x2 y2 u2 v2 : Int) (w : World) (h1 : w.heap[g1]? = some (.cells #[.int .i64 x1, .int .i64 y1, .int .i64 u1, .int .i64 v1] 63 (0, 0))) (h2 : w.heap[g2]? = some (.cells #[.int .i64 x2, .int .i64 y2, .int .i64 u2, .int .i64 v2] 63 (0, 0))) :
    Calls Try.prog 42 #[.pointer (some ⟨g1, 0, none⟩), .pointer (some ⟨g2, 0, none⟩)] w fun e w' => e = .returned (.bool (hdI (alI x1 y1 u1 v1 x2 y2 u2 v2))) ∧ Below w.heap.size w w' := by
  have hc := fun w h1 h2 => along_calls g1 g2 x1 y1 u1 v1 x2 y2 u2 v2 w h1 h2
  obtain ⟨tp, lo, hal⟩ : ∃ tp lo, alI x1 y1 u1 v1 x2 y2 u2 v2 = (tp, lo) := ⟨_, _, rfl⟩
  simp only [hal] at hc
  rw [hal]
  have HC := Aside0.mk (hc w h1 h2)
  clear hc hal h1 h2
  unfold hdI
  by_cases h0 : lo = 0
  · have hb0 : (lo != 0) = false := by simpa using h0
    go_enter Try.func42, Try.ntmps42
    go_wp2_with (go_at_call 45; (with_reducible refine HC.out.mono ?_); rintro e w_ ⟨rfl, hb⟩; have HB := Aside0.mk hb; clear hb)
    go_ret
    exact ⟨by first | rfl | (rw [hb0]; rfl) | simp [h0], HB.out⟩
  · have hb0 : (lo != 0) = true := by simpa using h0
    by_cases ht : 0 ≤ tp
    · have hbt : decide (0 ≤ tp) = true := decide_eq_true ht
      go_enter Try.func42, Try.ntmps42
      go_wp2_with (go_at_call 45; (with_reducible refine HC.out.mono ?_); rintro e w_ ⟨rfl, hb⟩; have HB := Aside0.mk hb; clear hb)
      go_ret
      exact ⟨by first | rfl | (rw [hb0, hbt]; rfl) | simp [hb0, ht], HB.out⟩
    · have hbt : decide (0 ≤ tp) = false := decide_eq_false ht
      go_enter Try.func42, Try.ntmps42
      go_wp2_with (go_at_call 45; (with_reducible refine HC.out.mono ?_); rintro e w_ ⟨rfl, hb⟩; have HB := Aside0.mk hb; clear hb)
      go_ret
      exact ⟨by first | rfl | (rw [hb0, hbt]; rfl) | simp [hb0, ht], HB.out⟩
theorem lnOk_t (ax ay bx by_ cx cy dx dy : Int) (h : lnOk ax ay bx by_ cx cy dx dy = true) : inR ax ay 10000 = true ∧ inR bx by_ 10000 = true ∧ inR cx cy 10000 = true ∧ inR dx dy 10000 = true ∧ (ax == bx && (ay == by_)) = false ∧ (cx == dx && (cy == dy)) = false := by
  unfold lnOk at h
  simp only [Bool.and_eq_true, Bool.not_eq_true'] at h
  exact h
theorem lines_t (ax ay bx by_ cx cy dx dy : Int) (h : lnOk ax ay bx by_ cx cy dx dy = true) (w : World) : Calls Try.prog 39 #[.agg #[.int .i64 ax, .int .i64 ay], .agg #[.int .i64 bx, .int .i64 by_], .agg #[.int .i64 cx, .int .i64 cy], .agg #[.int .i64 dx, .int .i64 dy]] w fun e w' => ∃ g1 g2, e = .returned (.tuple #[.pointer (some ⟨g1, 0, none⟩), .pointer (some ⟨g2, 0, none⟩), .bool true]) ∧ Hd w w' [(g2, #[.int .i64 cx, .int .i64 cy, .int .i64 (wrap64 (dx - cx)), .int .i64 (wrap64 (dy - cy))], 63), (g1, #[.int .i64 ax, .int .i64 ay, .int .i64 (wrap64 (bx - ax)), .int .i64 (wrap64 (by_ - ay))], 63)] := by
  obtain ⟨h1, h2, h3, h4, h5, h6⟩ := lnOk_t _ _ _ _ _ _ _ _ h
  exact lines_yes _ _ _ _ _ _ _ _ h1 h2 h3 h4 h5 h6 w
theorem lines_f (ax ay bx by_ cx cy dx dy : Int) (h : lnOk ax ay bx by_ cx cy dx dy = false) (w : World) : Calls Try.prog 39 #[.agg #[.int .i64 ax, .int .i64 ay], .agg #[.int .i64 bx, .int .i64 by_], .agg #[.int .i64 cx, .int .i64 cy], .agg #[.int .i64 dx, .int .i64 dy]] w fun e w' => e = .returned (.tuple #[.pointer none, .pointer none, .bool false]) ∧ Below w.heap.size w w' := by
  unfold lnOk at h
  cases h1 : inR ax ay 10000 with
  | false => exact lines_no1 _ _ _ _ _ _ _ _ h1 w
  | true =>
    cases h2 : inR bx by_ 10000 with
    | false => exact lines_no2 _ _ _ _ _ _ _ _ h1 h2 w
    | true =>
      cases h3 : inR cx cy 10000 with
      | false => exact lines_no3 _ _ _ _ _ _ _ _ h1 h2 h3 w
      | true =>
        cases h4 : inR dx dy 10000 with
        | false => exact lines_no4 _ _ _ _ _ _ _ _ h1 h2 h3 h4 w
        | true =>
          cases h5 : (ax == bx && (ay == by_)) with
          | true => exact lines_no5 _ _ _ _ _ _ _ _ h1 h2 h3 h4 h5 w
          | false =>
            cases h6 : (cx == dx && (cy == dy)) with
            | true => exact lines_no6 _ _ _ _ _ _ _ _ h1 h2 h3 h4 h5 h6 w
            | false => rw [h1, h2, h3, h4, h5, h6] at h; cases h

end Go.Proofs.Ytgoejfdciejikaa.P

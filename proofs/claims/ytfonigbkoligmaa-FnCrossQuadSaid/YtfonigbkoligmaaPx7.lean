import Derived.Test.YtfonigbkoligmaaPx0
import Derived.Test.YtfonigbkoligmaaPx1
namespace Go.Proofs.Ytfonigbkoligmaa.P
open Go.RowKit Go.Proofs.YtfonigbkoligmaaW.PrintWords Go.Proofs.YtfonigbkoligmaaW.PrintLast Go.Proofs.YtfonigbkoligmaaW.PrintMore
attribute [local go_sem] max2_int min2_int max_two min_two max_three min_three max_four min_four
set_option linter.unusedVariables false
set_option linter.unusedSimpArgs false
attribute [local go_sem high] eqA33
def lnOk (ax ay bx by_ cx cy dx dy : Int) : Bool := inR ax ay 10000 && (inR bx by_ 10000 && (inR cx cy 10000 && (inR dx dy 10000 && (!(ax == bx && (ay == by_)) && !(cx == dx && (cy == dy))))))
section
attribute [local go_sem high] eqA33
set_option maxHeartbeats 4000000 in
theorem lines_no1 (ax ay bx by_ cx cy dx dy : Int) (h1 : inR ax ay 10000 = false) (w : World) :
  Calls Try.prog 58 #[.agg #[.int .i64 ax, .int .i64 ay], .agg #[.int .i64 bx, .int .i64 by_], .agg #[.int .i64 cx, .int .i64 cy], .agg #[.int .i64 dx, .int .i64 dy]] w fun e w' => e = .returned (.tuple #[.pointer none, .pointer none, .bool false]) ∧ Below w.heap.size w w' := by
 have H1 := Aside0.mk h1
 have HM := Aside0.mk (Hd.nil w)
 clear h1
 go_enter Try.func58, Try.ntmps58
 go_wp2_with (first
  | ((with_reducible refine gate_dst (N := 4) rfl ?_); refine box_event ?hg (N := 4) ?hd (cs := #[.int .i64 ax, .int .i64 ay]) (t := 33) ?hr ?_; (case hd => rfl); (case hg => rfl); (case hr => first | (go_simp; done) | (go_simp; rfl)); intro g4 e_ w_ b_ hb; replace HM := Aside0.mk (HM.out.box hb b_ e_); clear e_ b_ hb)
  | ((with_reducible refine gate_dst (N := 5) rfl ?_); refine box_event ?hg (N := 5) ?hd (cs := #[.int .i64 bx, .int .i64 by_]) (t := 33) ?hr ?_; (case hd => rfl); (case hg => rfl); (case hr => first | (go_simp; done) | (go_simp; rfl)); intro g5 e_ w_ b_ hb; replace HM := Aside0.mk (HM.out.box hb b_ e_); clear e_ b_ hb)
  | ((with_reducible refine gate_dst (N := 6) rfl ?_); refine box_event ?hg (N := 6) ?hd (cs := #[.int .i64 cx, .int .i64 cy]) (t := 33) ?hr ?_; (case hd => rfl); (case hg => rfl); (case hr => first | (go_simp; done) | (go_simp; rfl)); intro g6 e_ w_ b_ hb; replace HM := Aside0.mk (HM.out.box hb b_ e_); clear e_ b_ hb)
  | ((with_reducible refine gate_dst (N := 7) rfl ?_); refine box_event ?hg (N := 7) ?hd (cs := #[.int .i64 dx, .int .i64 dy]) (t := 33) ?hr ?_; (case hd => rfl); (case hg => rfl); (case hr => first | (go_simp; done) | (go_simp; rfl)); intro g7 e_ w_ b_ hb; replace HM := Aside0.mk (HM.out.box hb b_ e_); clear e_ b_ hb; have ka0 := blk_cell HM.out.a3 0; have ka1 := blk_cell HM.out.a3 1; have kb0 := blk_cell HM.out.a2 0; have kb1 := blk_cell HM.out.a2 1; have kc0 := blk_cell HM.out.a1 0; have kc1 := blk_cell HM.out.a1 1; have kd0 := blk_cell HM.out.a0 0; have kd1 := blk_cell HM.out.a0 1)
  | (go_at_call 68; (with_reducible refine (PointValid_calls ax ay _).mono ?_); rintro e w_ ⟨rfl, hb⟩; rw [H1.out]; replace HM := Aside0.mk (HM.out.keep hb); clear hb; (try clear ka0 ka1 kb0 kb1 kc0 kc1 kd0 kd1); have ka0 := blk_cell HM.out.a3 0; have ka1 := blk_cell HM.out.a3 1; have kb0 := blk_cell HM.out.a2 0; have kb1 := blk_cell HM.out.a2 1; have kc0 := blk_cell HM.out.a1 0; have kc1 := blk_cell HM.out.a1 1; have kd0 := blk_cell HM.out.a0 0; have kd1 := blk_cell HM.out.a0 1))
 go_ret3
 exact ⟨rfl, HM.out.1⟩
set_option maxHeartbeats 4000000 in
theorem lines_no2 (ax ay bx by_ cx cy dx dy : Int) (h1 : inR ax ay 10000 = true) (h2 : inR bx by_ 10000 = false) (w : World) :
  Calls Try.prog 58 #[.agg #[.int .i64 ax, .int .i64 ay], .agg #[.int .i64 bx, .int .i64 by_], .agg #[.int .i64 cx, .int .i64 cy], .agg #[.int .i64 dx, .int .i64 dy]] w fun e w' => e = .returned (.tuple #[.pointer none, .pointer none, .bool false]) ∧ Below w.heap.size w w' := by
 have H1 := Aside0.mk h1
 have H2 := Aside0.mk h2
 have HM := Aside0.mk (Hd.nil w)
 clear h1 h2
 go_enter Try.func58, Try.ntmps58
 go_wp2_with (first
  | ((with_reducible refine gate_dst (N := 4) rfl ?_); refine box_event ?hg (N := 4) ?hd (cs := #[.int .i64 ax, .int .i64 ay]) (t := 33) ?hr ?_; (case hd => rfl); (case hg => rfl); (case hr => first | (go_simp; done) | (go_simp; rfl)); intro g4 e_ w_ b_ hb; replace HM := Aside0.mk (HM.out.box hb b_ e_); clear e_ b_ hb)
  | ((with_reducible refine gate_dst (N := 5) rfl ?_); refine box_event ?hg (N := 5) ?hd (cs := #[.int .i64 bx, .int .i64 by_]) (t := 33) ?hr ?_; (case hd => rfl); (case hg => rfl); (case hr => first | (go_simp; done) | (go_simp; rfl)); intro g5 e_ w_ b_ hb; replace HM := Aside0.mk (HM.out.box hb b_ e_); clear e_ b_ hb)
  | ((with_reducible refine gate_dst (N := 6) rfl ?_); refine box_event ?hg (N := 6) ?hd (cs := #[.int .i64 cx, .int .i64 cy]) (t := 33) ?hr ?_; (case hd => rfl); (case hg => rfl); (case hr => first | (go_simp; done) | (go_simp; rfl)); intro g6 e_ w_ b_ hb; replace HM := Aside0.mk (HM.out.box hb b_ e_); clear e_ b_ hb)
  | ((with_reducible refine gate_dst (N := 7) rfl ?_); refine box_event ?hg (N := 7) ?hd (cs := #[.int .i64 dx, .int .i64 dy]) (t := 33) ?hr ?_; (case hd => rfl); (case hg => rfl); (case hr => first | (go_simp; done) | (go_simp; rfl)); intro g7 e_ w_ b_ hb; replace HM := Aside0.mk (HM.out.box hb b_ e_); clear e_ b_ hb; have ka0 := blk_cell HM.out.a3 0; have ka1 := blk_cell HM.out.a3 1; have kb0 := blk_cell HM.out.a2 0; have kb1 := blk_cell HM.out.a2 1; have kc0 := blk_cell HM.out.a1 0; have kc1 := blk_cell HM.out.a1 1; have kd0 := blk_cell HM.out.a0 0; have kd1 := blk_cell HM.out.a0 1)
  | (go_at_call 68; (with_reducible refine (PointValid_calls ax ay _).mono ?_); rintro e w_ ⟨rfl, hb⟩; rw [H1.out]; replace HM := Aside0.mk (HM.out.keep hb); clear hb; (try clear ka0 ka1 kb0 kb1 kc0 kc1 kd0 kd1); have ka0 := blk_cell HM.out.a3 0; have ka1 := blk_cell HM.out.a3 1; have kb0 := blk_cell HM.out.a2 0; have kb1 := blk_cell HM.out.a2 1; have kc0 := blk_cell HM.out.a1 0; have kc1 := blk_cell HM.out.a1 1; have kd0 := blk_cell HM.out.a0 0; have kd1 := blk_cell HM.out.a0 1)
  | (go_at_call 68; (with_reducible refine (PointValid_calls bx by_ _).mono ?_); rintro e w_ ⟨rfl, hb⟩; rw [H2.out]; replace HM := Aside0.mk (HM.out.keep hb); clear hb; (try clear ka0 ka1 kb0 kb1 kc0 kc1 kd0 kd1); have ka0 := blk_cell HM.out.a3 0; have ka1 := blk_cell HM.out.a3 1; have kb0 := blk_cell HM.out.a2 0; have kb1 := blk_cell HM.out.a2 1; have kc0 := blk_cell HM.out.a1 0; have kc1 := blk_cell HM.out.a1 1; have kd0 := blk_cell HM.out.a0 0; have kd1 := blk_cell HM.out.a0 1))
 go_ret3
 exact ⟨rfl, HM.out.1⟩
set_option maxHeartbeats 4000000 in
theorem lines_no3 (ax ay bx by_ cx cy dx dy : Int) (h1 : inR ax ay 10000 = true) (h2 : inR bx by_ 10000 = true) (h3 : inR cx cy 10000 = false) (w : World) :
  Calls Try.prog 58 #[.agg #[.int .i64 ax, .int .i64 ay], .agg #[.int .i64 bx, .int .i64 by_], .agg #[.int .i64 cx, .int .i64 cy], .agg #[.int .i64 dx, .int .i64 dy]] w fun e w' => e = .returned (.tuple #[.pointer none, .pointer none, .bool false]) ∧ Below w.heap.size w w' := by
 have H1 := Aside0.mk h1
 have H2 := Aside0.mk h2
 have H3 := Aside0.mk h3
 have HM := Aside0.mk (Hd.nil w)
 clear h1 h2 h3
 go_enter Try.func58, Try.ntmps58
 go_wp2_with (first
  | ((with_reducible refine gate_dst (N := 4) rfl ?_); refine box_event ?hg (N := 4) ?hd (cs := #[.int .i64 ax, .int .i64 ay]) (t := 33) ?hr ?_; (case hd => rfl); (case hg => rfl); (case hr => first | (go_simp; done) | (go_simp; rfl)); intro g4 e_ w_ b_ hb; replace HM := Aside0.mk (HM.out.box hb b_ e_); clear e_ b_ hb)
  | ((with_reducible refine gate_dst (N := 5) rfl ?_); refine box_event ?hg (N := 5) ?hd (cs := #[.int .i64 bx, .int .i64 by_]) (t := 33) ?hr ?_; (case hd => rfl); (case hg => rfl); (case hr => first | (go_simp; done) | (go_simp; rfl)); intro g5 e_ w_ b_ hb; replace HM := Aside0.mk (HM.out.box hb b_ e_); clear e_ b_ hb)
  | ((with_reducible refine gate_dst (N := 6) rfl ?_); refine box_event ?hg (N := 6) ?hd (cs := #[.int .i64 cx, .int .i64 cy]) (t := 33) ?hr ?_; (case hd => rfl); (case hg => rfl); (case hr => first | (go_simp; done) | (go_simp; rfl)); intro g6 e_ w_ b_ hb; replace HM := Aside0.mk (HM.out.box hb b_ e_); clear e_ b_ hb)
  | ((with_reducible refine gate_dst (N := 7) rfl ?_); refine box_event ?hg (N := 7) ?hd (cs := #[.int .i64 dx, .int .i64 dy]) (t := 33) ?hr ?_; (case hd => rfl); (case hg => rfl); (case hr => first | (go_simp; done) | (go_simp; rfl)); intro g7 e_ w_ b_ hb; replace HM := Aside0.mk (HM.out.box hb b_ e_); clear e_ b_ hb; have ka0 := blk_cell HM.out.a3 0; have ka1 := blk_cell HM.out.a3 1; have kb0 := blk_cell HM.out.a2 0; have kb1 := blk_cell HM.out.a2 1; have kc0 := blk_cell HM.out.a1 0; have kc1 := blk_cell HM.out.a1 1; have kd0 := blk_cell HM.out.a0 0; have kd1 := blk_cell HM.out.a0 1)
  | (go_at_call 68; (with_reducible refine (PointValid_calls ax ay _).mono ?_); rintro e w_ ⟨rfl, hb⟩; rw [H1.out]; replace HM := Aside0.mk (HM.out.keep hb); clear hb; (try clear ka0 ka1 kb0 kb1 kc0 kc1 kd0 kd1); have ka0 := blk_cell HM.out.a3 0; have ka1 := blk_cell HM.out.a3 1; have kb0 := blk_cell HM.out.a2 0; have kb1 := blk_cell HM.out.a2 1; have kc0 := blk_cell HM.out.a1 0; have kc1 := blk_cell HM.out.a1 1; have kd0 := blk_cell HM.out.a0 0; have kd1 := blk_cell HM.out.a0 1)
  | (go_at_call 68; (with_reducible refine (PointValid_calls bx by_ _).mono ?_); rintro e w_ ⟨rfl, hb⟩; rw [H2.out]; replace HM := Aside0.mk (HM.out.keep hb); clear hb; (try clear ka0 ka1 kb0 kb1 kc0 kc1 kd0 kd1); have ka0 := blk_cell HM.out.a3 0; have ka1 := blk_cell HM.out.a3 1; have kb0 := blk_cell HM.out.a2 0; have kb1 := blk_cell HM.out.a2 1; have kc0 := blk_cell HM.out.a1 0; have kc1 := blk_cell HM.out.a1 1; have kd0 := blk_cell HM.out.a0 0; have kd1 := blk_cell HM.out.a0 1)
  | (go_at_call 68; (with_reducible refine (PointValid_calls cx cy _).mono ?_); rintro e w_ ⟨rfl, hb⟩; rw [H3.out]; replace HM := Aside0.mk (HM.out.keep hb); clear hb; (try clear ka0 ka1 kb0 kb1 kc0 kc1 kd0 kd1); have ka0 := blk_cell HM.out.a3 0; have ka1 := blk_cell HM.out.a3 1; have kb0 := blk_cell HM.out.a2 0; have kb1 := blk_cell HM.out.a2 1; have kc0 := blk_cell HM.out.a1 0; have kc1 := blk_cell HM.out.a1 1; have kd0 := blk_cell HM.out.a0 0; have kd1 := blk_cell HM.out.a0 1))
 go_ret3
 exact ⟨rfl, HM.out.1⟩
set_option maxHeartbeats 4000000 in
theorem lines_no4 (ax ay bx by_ cx cy dx dy : Int) (h1 : inR ax ay 10000 = true) (h2 : inR bx by_ 10000 = true) (h3 : inR cx cy 10000 = true) (h4 : inR dx dy 10000 = false) (w : World) :
  Calls Try.prog 58 #[.agg #[.int .i64 ax, .int .i64 ay], .agg #[.int .i64 bx, .int .i64 by_], .agg #[.int .i64 cx, .int .i64 cy], .agg #[.int .i64 dx, .int .i64 dy]] w fun e w' => e = .returned (.tuple #[.pointer none, .pointer none, .bool false]) ∧ Below w.heap.size w w' := by
 have H1 := Aside0.mk h1
 have H2 := Aside0.mk h2
 have H3 := Aside0.mk h3
 have H4 := Aside0.mk h4
 have HM := Aside0.mk (Hd.nil w)
 clear h1 h2 h3 h4
 go_enter Try.func58, Try.ntmps58
 go_wp2_with (first
  | ((with_reducible refine gate_dst (N := 4) rfl ?_); refine box_event ?hg (N := 4) ?hd (cs := #[.int .i64 ax, .int .i64 ay]) (t := 33) ?hr ?_; (case hd => rfl); (case hg => rfl); (case hr => first | (go_simp; done) | (go_simp; rfl)); intro g4 e_ w_ b_ hb; replace HM := Aside0.mk (HM.out.box hb b_ e_); clear e_ b_ hb)
  | ((with_reducible refine gate_dst (N := 5) rfl ?_); refine box_event ?hg (N := 5) ?hd (cs := #[.int .i64 bx, .int .i64 by_]) (t := 33) ?hr ?_; (case hd => rfl); (case hg => rfl); (case hr => first | (go_simp; done) | (go_simp; rfl)); intro g5 e_ w_ b_ hb; replace HM := Aside0.mk (HM.out.box hb b_ e_); clear e_ b_ hb)
  | ((with_reducible refine gate_dst (N := 6) rfl ?_); refine box_event ?hg (N := 6) ?hd (cs := #[.int .i64 cx, .int .i64 cy]) (t := 33) ?hr ?_; (case hd => rfl); (case hg => rfl); (case hr => first | (go_simp; done) | (go_simp; rfl)); intro g6 e_ w_ b_ hb; replace HM := Aside0.mk (HM.out.box hb b_ e_); clear e_ b_ hb)
  | ((with_reducible refine gate_dst (N := 7) rfl ?_); refine box_event ?hg (N := 7) ?hd (cs := #[.int .i64 dx, .int .i64 dy]) (t := 33) ?hr ?_; (case hd => rfl); (case hg => rfl); (case hr => first | (go_simp; done) | (go_simp; rfl)); intro g7 e_ w_ b_ hb; replace HM := Aside0.mk (HM.out.box hb b_ e_); clear e_ b_ hb; have ka0 := blk_cell HM.out.a3 0; have ka1 := blk_cell HM.out.a3 1; have kb0 := blk_cell HM.out.a2 0; have kb1 := blk_cell HM.out.a2 1; have kc0 := blk_cell HM.out.a1 0; have kc1 := blk_cell HM.out.a1 1; have kd0 := blk_cell HM.out.a0 0; have kd1 := blk_cell HM.out.a0 1)
  | (go_at_call 68; (with_reducible refine (PointValid_calls ax ay _).mono ?_); rintro e w_ ⟨rfl, hb⟩; rw [H1.out]; replace HM := Aside0.mk (HM.out.keep hb); clear hb; (try clear ka0 ka1 kb0 kb1 kc0 kc1 kd0 kd1); have ka0 := blk_cell HM.out.a3 0; have ka1 := blk_cell HM.out.a3 1; have kb0 := blk_cell HM.out.a2 0; have kb1 := blk_cell HM.out.a2 1; have kc0 := blk_cell HM.out.a1 0; have kc1 := blk_cell HM.out.a1 1; have kd0 := blk_cell HM.out.a0 0; have kd1 := blk_cell HM.out.a0 1)
  | (go_at_call 68; (with_reducible refine (PointValid_calls bx by_ _).mono ?_); rintro e w_ ⟨rfl, hb⟩; rw [H2.out]; replace HM := Aside0.mk (HM.out.keep hb); clear hb; (try clear ka0 ka1 kb0 kb1 kc0 kc1 kd0 kd1); have ka0 := blk_cell HM.out.a3 0; have ka1 := blk_cell HM.out.a3 1; have kb0 := blk_cell HM.out.a2 0; have kb1 := blk_cell HM.out.a2 1; have kc0 := blk_cell HM.out.a1 0; have kc1 := blk_cell HM.out.a1 1; have kd0 := blk_cell HM.out.a0 0; have kd1 := blk_cell HM.out.a0 1)
  | (go_at_call 68; (with_reducible refine (PointValid_calls cx cy _).mono ?_); rintro e w_ ⟨rfl, hb⟩; rw [H3.out]; replace HM := Aside0.mk (HM.out.keep hb); clear hb; (try clear ka0 ka1 kb0 kb1 kc0 kc1 kd0 kd1); have ka0 := blk_cell HM.out.a3 0; have ka1 := blk_cell HM.out.a3 1; have kb0 := blk_cell HM.out.a2 0; have kb1 := blk_cell HM.out.a2 1; have kc0 := blk_cell HM.out.a1 0; have kc1 := blk_cell HM.out.a1 1; have kd0 := blk_cell HM.out.a0 0; have kd1 := blk_cell HM.out.a0 1)
  | (go_at_call 68; (with_reducible refine (PointValid_calls dx dy _).mono ?_); rintro e w_ ⟨rfl, hb⟩; rw [H4.out]; replace HM := Aside0.mk (HM.out.keep hb); clear hb; (try clear ka0 ka1 kb0 kb1 kc0 kc1 kd0 kd1); have ka0 := blk_cell HM.out.a3 0; have ka1 := blk_cell HM.out.a3 1; have kb0 := blk_cell HM.out.a2 0; have kb1 := blk_cell HM.out.a2 1; have kc0 := blk_cell HM.out.a1 0; have kc1 := blk_cell HM.out.a1 1; have kd0 := blk_cell HM.out.a0 0; have kd1 := blk_cell HM.out.a0 1))
 go_ret3
 exact ⟨rfl, HM.out.1⟩
set_option maxHeartbeats 4000000 in
theorem lines_no5 (ax ay bx by_ cx cy dx dy : Int) (h1 : inR ax ay 10000 = true) (h2 : inR bx by_ 10000 = true) (h3 : inR cx cy 10000 = true) (h4 : inR dx dy 10000 = true) (h5 : (ax == bx && (ay == by_)) = true) (w : World) :
  Calls Try.prog 58 #[.agg #[.int .i64 ax, .int .i64 ay], .agg #[.int .i64 bx, .int .i64 by_], .agg #[.int .i64 cx, .int .i64 cy], .agg #[.int .i64 dx, .int .i64 dy]] w fun e w' => e = .returned (.tuple #[.pointer none, .pointer none, .bool false]) ∧ Below w.heap.size w w' := by
 have H1 := Aside0.mk h1
 have H2 := Aside0.mk h2
 have H3 := Aside0.mk h3
 have H4 := Aside0.mk h4
 have HM := Aside0.mk (Hd.nil w)
 clear h1 h2 h3 h4
 go_enter Try.func58, Try.ntmps58
 go_wp2_with (first
  | ((with_reducible refine gate_dst (N := 4) rfl ?_); refine box_event ?hg (N := 4) ?hd (cs := #[.int .i64 ax, .int .i64 ay]) (t := 33) ?hr ?_; (case hd => rfl); (case hg => rfl); (case hr => first | (go_simp; done) | (go_simp; rfl)); intro g4 e_ w_ b_ hb; replace HM := Aside0.mk (HM.out.box hb b_ e_); clear e_ b_ hb)
  | ((with_reducible refine gate_dst (N := 5) rfl ?_); refine box_event ?hg (N := 5) ?hd (cs := #[.int .i64 bx, .int .i64 by_]) (t := 33) ?hr ?_; (case hd => rfl); (case hg => rfl); (case hr => first | (go_simp; done) | (go_simp; rfl)); intro g5 e_ w_ b_ hb; replace HM := Aside0.mk (HM.out.box hb b_ e_); clear e_ b_ hb)
  | ((with_reducible refine gate_dst (N := 6) rfl ?_); refine box_event ?hg (N := 6) ?hd (cs := #[.int .i64 cx, .int .i64 cy]) (t := 33) ?hr ?_; (case hd => rfl); (case hg => rfl); (case hr => first | (go_simp; done) | (go_simp; rfl)); intro g6 e_ w_ b_ hb; replace HM := Aside0.mk (HM.out.box hb b_ e_); clear e_ b_ hb)
  | ((with_reducible refine gate_dst (N := 7) rfl ?_); refine box_event ?hg (N := 7) ?hd (cs := #[.int .i64 dx, .int .i64 dy]) (t := 33) ?hr ?_; (case hd => rfl); (case hg => rfl); (case hr => first | (go_simp; done) | (go_simp; rfl)); intro g7 e_ w_ b_ hb; replace HM := Aside0.mk (HM.out.box hb b_ e_); clear e_ b_ hb; have ka0 := blk_cell HM.out.a3 0; have ka1 := blk_cell HM.out.a3 1; have kb0 := blk_cell HM.out.a2 0; have kb1 := blk_cell HM.out.a2 1; have kc0 := blk_cell HM.out.a1 0; have kc1 := blk_cell HM.out.a1 1; have kd0 := blk_cell HM.out.a0 0; have kd1 := blk_cell HM.out.a0 1)
  | (go_at_call 68; (with_reducible refine (PointValid_calls ax ay _).mono ?_); rintro e w_ ⟨rfl, hb⟩; rw [H1.out]; replace HM := Aside0.mk (HM.out.keep hb); clear hb; (try clear ka0 ka1 kb0 kb1 kc0 kc1 kd0 kd1); have ka0 := blk_cell HM.out.a3 0; have ka1 := blk_cell HM.out.a3 1; have kb0 := blk_cell HM.out.a2 0; have kb1 := blk_cell HM.out.a2 1; have kc0 := blk_cell HM.out.a1 0; have kc1 := blk_cell HM.out.a1 1; have kd0 := blk_cell HM.out.a0 0; have kd1 := blk_cell HM.out.a0 1)
  | (go_at_call 68; (with_reducible refine (PointValid_calls bx by_ _).mono ?_); rintro e w_ ⟨rfl, hb⟩; rw [H2.out]; replace HM := Aside0.mk (HM.out.keep hb); clear hb; (try clear ka0 ka1 kb0 kb1 kc0 kc1 kd0 kd1); have ka0 := blk_cell HM.out.a3 0; have ka1 := blk_cell HM.out.a3 1; have kb0 := blk_cell HM.out.a2 0; have kb1 := blk_cell HM.out.a2 1; have kc0 := blk_cell HM.out.a1 0; have kc1 := blk_cell HM.out.a1 1; have kd0 := blk_cell HM.out.a0 0; have kd1 := blk_cell HM.out.a0 1)
  | (go_at_call 68; (with_reducible refine (PointValid_calls cx cy _).mono ?_); rintro e w_ ⟨rfl, hb⟩; rw [H3.out]; replace HM := Aside0.mk (HM.out.keep hb); clear hb; (try clear ka0 ka1 kb0 kb1 kc0 kc1 kd0 kd1); have ka0 := blk_cell HM.out.a3 0; have ka1 := blk_cell HM.out.a3 1; have kb0 := blk_cell HM.out.a2 0; have kb1 := blk_cell HM.out.a2 1; have kc0 := blk_cell HM.out.a1 0; have kc1 := blk_cell HM.out.a1 1; have kd0 := blk_cell HM.out.a0 0; have kd1 := blk_cell HM.out.a0 1)
  | (go_at_call 68; (with_reducible refine (PointValid_calls dx dy _).mono ?_); rintro e w_ ⟨rfl, hb⟩; rw [H4.out]; replace HM := Aside0.mk (HM.out.keep hb); clear hb; (try clear ka0 ka1 kb0 kb1 kc0 kc1 kd0 kd1); have ka0 := blk_cell HM.out.a3 0; have ka1 := blk_cell HM.out.a3 1; have kb0 := blk_cell HM.out.a2 0; have kb1 := blk_cell HM.out.a2 1; have kc0 := blk_cell HM.out.a1 0; have kc1 := blk_cell HM.out.a1 1; have kd0 := blk_cell HM.out.a0 0; have kd1 := blk_cell HM.out.a0 1))
 go_ret3
 exact ⟨rfl, HM.out.1⟩
set_option maxHeartbeats 4000000 in
theorem lines_no6 (ax ay bx by_ cx cy dx dy : Int) (h1 : inR ax ay 10000 = true) (h2 : inR bx by_ 10000 = true) (h3 : inR cx cy 10000 = true) (h4 : inR dx dy 10000 = true) (h5 : (ax == bx && (ay == by_)) = false) (h6 : (cx == dx && (cy == dy)) = true) (w : World) :
  Calls Try.prog 58 #[.agg #[.int .i64 ax, .int .i64 ay], .agg #[.int .i64 bx, .int .i64 by_], .agg #[.int .i64 cx, .int .i64 cy], .agg #[.int .i64 dx, .int .i64 dy]] w fun e w' => e = .returned (.tuple #[.pointer none, .pointer none, .bool false]) ∧ Below w.heap.size w w' := by
 have H1 := Aside0.mk h1
 have H2 := Aside0.mk h2
 have H3 := Aside0.mk h3
 have H4 := Aside0.mk h4
 have HM := Aside0.mk (Hd.nil w)
 clear h1 h2 h3 h4
 go_enter Try.func58, Try.ntmps58
 go_wp2_with (first
  | ((with_reducible refine gate_dst (N := 4) rfl ?_); refine box_event ?hg (N := 4) ?hd (cs := #[.int .i64 ax, .int .i64 ay]) (t := 33) ?hr ?_; (case hd => rfl); (case hg => rfl); (case hr => first | (go_simp; done) | (go_simp; rfl)); intro g4 e_ w_ b_ hb; replace HM := Aside0.mk (HM.out.box hb b_ e_); clear e_ b_ hb)
  | ((with_reducible refine gate_dst (N := 5) rfl ?_); refine box_event ?hg (N := 5) ?hd (cs := #[.int .i64 bx, .int .i64 by_]) (t := 33) ?hr ?_; (case hd => rfl); (case hg => rfl); (case hr => first | (go_simp; done) | (go_simp; rfl)); intro g5 e_ w_ b_ hb; replace HM := Aside0.mk (HM.out.box hb b_ e_); clear e_ b_ hb)
  | ((with_reducible refine gate_dst (N := 6) rfl ?_); refine box_event ?hg (N := 6) ?hd (cs := #[.int .i64 cx, .int .i64 cy]) (t := 33) ?hr ?_; (case hd => rfl); (case hg => rfl); (case hr => first | (go_simp; done) | (go_simp; rfl)); intro g6 e_ w_ b_ hb; replace HM := Aside0.mk (HM.out.box hb b_ e_); clear e_ b_ hb)
  | ((with_reducible refine gate_dst (N := 7) rfl ?_); refine box_event ?hg (N := 7) ?hd (cs := #[.int .i64 dx, .int .i64 dy]) (t := 33) ?hr ?_; (case hd => rfl); (case hg => rfl); (case hr => first | (go_simp; done) | (go_simp; rfl)); intro g7 e_ w_ b_ hb; replace HM := Aside0.mk (HM.out.box hb b_ e_); clear e_ b_ hb; have ka0 := blk_cell HM.out.a3 0; have ka1 := blk_cell HM.out.a3 1; have kb0 := blk_cell HM.out.a2 0; have kb1 := blk_cell HM.out.a2 1; have kc0 := blk_cell HM.out.a1 0; have kc1 := blk_cell HM.out.a1 1; have kd0 := blk_cell HM.out.a0 0; have kd1 := blk_cell HM.out.a0 1)
  | (go_at_call 68; (with_reducible refine (PointValid_calls ax ay _).mono ?_); rintro e w_ ⟨rfl, hb⟩; rw [H1.out]; replace HM := Aside0.mk (HM.out.keep hb); clear hb; (try clear ka0 ka1 kb0 kb1 kc0 kc1 kd0 kd1); have ka0 := blk_cell HM.out.a3 0; have ka1 := blk_cell HM.out.a3 1; have kb0 := blk_cell HM.out.a2 0; have kb1 := blk_cell HM.out.a2 1; have kc0 := blk_cell HM.out.a1 0; have kc1 := blk_cell HM.out.a1 1; have kd0 := blk_cell HM.out.a0 0; have kd1 := blk_cell HM.out.a0 1)
  | (go_at_call 68; (with_reducible refine (PointValid_calls bx by_ _).mono ?_); rintro e w_ ⟨rfl, hb⟩; rw [H2.out]; replace HM := Aside0.mk (HM.out.keep hb); clear hb; (try clear ka0 ka1 kb0 kb1 kc0 kc1 kd0 kd1); have ka0 := blk_cell HM.out.a3 0; have ka1 := blk_cell HM.out.a3 1; have kb0 := blk_cell HM.out.a2 0; have kb1 := blk_cell HM.out.a2 1; have kc0 := blk_cell HM.out.a1 0; have kc1 := blk_cell HM.out.a1 1; have kd0 := blk_cell HM.out.a0 0; have kd1 := blk_cell HM.out.a0 1)
  | (go_at_call 68; (with_reducible refine (PointValid_calls cx cy _).mono ?_); rintro e w_ ⟨rfl, hb⟩; rw [H3.out]; replace HM := Aside0.mk (HM.out.keep hb); clear hb; (try clear ka0 ka1 kb0 kb1 kc0 kc1 kd0 kd1); have ka0 := blk_cell HM.out.a3 0; have ka1 := blk_cell HM.out.a3 1; have kb0 := blk_cell HM.out.a2 0; have kb1 := blk_cell HM.out.a2 1; have kc0 := blk_cell HM.out.a1 0; have kc1 := blk_cell HM.out.a1 1; have kd0 := blk_cell HM.out.a0 0; have kd1 := blk_cell HM.out.a0 1)
  | (go_at_call 68; (with_reducible refine (PointValid_calls dx dy _).mono ?_); rintro e w_ ⟨rfl, hb⟩; rw [H4.out]; replace HM := Aside0.mk (HM.out.keep hb); clear hb; (try clear ka0 ka1 kb0 kb1 kc0 kc1 kd0 kd1); have ka0 := blk_cell HM.out.a3 0; have ka1 := blk_cell HM.out.a3 1; have kb0 := blk_cell HM.out.a2 0; have kb1 := blk_cell HM.out.a2 1; have kc0 := blk_cell HM.out.a1 0; have kc1 := blk_cell HM.out.a1 1; have kd0 := blk_cell HM.out.a0 0; have kd1 := blk_cell HM.out.a0 1))
 go_ret3
 exact ⟨rfl, HM.out.1⟩
set_option maxHeartbeats 8000000 in
theorem lines_yes (ax ay bx by_ cx cy dx dy : Int) (h1 : inR ax ay 10000 = true) (h2 : inR bx by_ 10000 = true) (h3 : inR cx cy 10000 = true) (h4 : inR dx dy 10000 = true) (h5 : (ax == bx && (ay == by_)) = false) (h6 : (cx == dx && (cy == dy)) = false) (w : World) :
  Calls Try.prog 58 #[.agg #[.int .i64 ax, .int .i64 ay], .agg #[.int .i64 bx, .int .i64 by_], .agg #[.int .i64 cx, .int .i64 cy], .agg #[.int .i64 dx, .int .i64 dy]] w fun e w' => ∃ g1 g2, e = .returned (.tuple #[.pointer (some ⟨g1, 0, none⟩), .pointer (some ⟨g2, 0, none⟩), .bool true]) ∧ Hd w w' [(g2, #[.int .i64 cx, .int .i64 cy, .int .i64 (wrap64 (dx - cx)), .int .i64 (wrap64 (dy - cy))], 110), (g1, #[.int .i64 ax, .int .i64 ay, .int .i64 (wrap64 (bx - ax)), .int .i64 (wrap64 (by_ - ay))], 110)] := by
 have H1 := Aside0.mk h1
 have H2 := Aside0.mk h2
 have H3 := Aside0.mk h3
 have H4 := Aside0.mk h4
 have HM := Aside0.mk (Hd.nil w)
 clear h1 h2 h3 h4
 go_enter Try.func58, Try.ntmps58
 go_wp2_with (first
  | ((with_reducible refine gate_dst (N := 4) rfl ?_); refine box_event ?hg (N := 4) ?hd (cs := #[.int .i64 ax, .int .i64 ay]) (t := 33) ?hr ?_; (case hd => rfl); (case hg => rfl); (case hr => first | (go_simp; done) | (go_simp; rfl)); intro g4 e_ w_ b_ hb; replace HM := Aside0.mk (HM.out.box hb b_ e_); clear e_ b_ hb)
  | ((with_reducible refine gate_dst (N := 5) rfl ?_); refine box_event ?hg (N := 5) ?hd (cs := #[.int .i64 bx, .int .i64 by_]) (t := 33) ?hr ?_; (case hd => rfl); (case hg => rfl); (case hr => first | (go_simp; done) | (go_simp; rfl)); intro g5 e_ w_ b_ hb; replace HM := Aside0.mk (HM.out.box hb b_ e_); clear e_ b_ hb)
  | ((with_reducible refine gate_dst (N := 6) rfl ?_); refine box_event ?hg (N := 6) ?hd (cs := #[.int .i64 cx, .int .i64 cy]) (t := 33) ?hr ?_; (case hd => rfl); (case hg => rfl); (case hr => first | (go_simp; done) | (go_simp; rfl)); intro g6 e_ w_ b_ hb; replace HM := Aside0.mk (HM.out.box hb b_ e_); clear e_ b_ hb)
  | ((with_reducible refine gate_dst (N := 7) rfl ?_); refine box_event ?hg (N := 7) ?hd (cs := #[.int .i64 dx, .int .i64 dy]) (t := 33) ?hr ?_; (case hd => rfl); (case hg => rfl); (case hr => first | (go_simp; done) | (go_simp; rfl)); intro g7 e_ w_ b_ hb; replace HM := Aside0.mk (HM.out.box hb b_ e_); clear e_ b_ hb; have ka0 := blk_cell HM.out.a3 0; have ka1 := blk_cell HM.out.a3 1; have kb0 := blk_cell HM.out.a2 0; have kb1 := blk_cell HM.out.a2 1; have kc0 := blk_cell HM.out.a1 0; have kc1 := blk_cell HM.out.a1 1; have kd0 := blk_cell HM.out.a0 0; have kd1 := blk_cell HM.out.a0 1)
  | (go_at_call 68; (with_reducible refine (PointValid_calls ax ay _).mono ?_); rintro e w_ ⟨rfl, hb⟩; rw [H1.out]; replace HM := Aside0.mk (HM.out.keep hb); clear hb; (try clear ka0 ka1 kb0 kb1 kc0 kc1 kd0 kd1); have ka0 := blk_cell HM.out.a3 0; have ka1 := blk_cell HM.out.a3 1; have kb0 := blk_cell HM.out.a2 0; have kb1 := blk_cell HM.out.a2 1; have kc0 := blk_cell HM.out.a1 0; have kc1 := blk_cell HM.out.a1 1; have kd0 := blk_cell HM.out.a0 0; have kd1 := blk_cell HM.out.a0 1)
  | (go_at_call 68; (with_reducible refine (PointValid_calls bx by_ _).mono ?_); rintro e w_ ⟨rfl, hb⟩; rw [H2.out]; replace HM := Aside0.mk (HM.out.keep hb); clear hb; (try clear ka0 ka1 kb0 kb1 kc0 kc1 kd0 kd1); have ka0 := blk_cell HM.out.a3 0; have ka1 := blk_cell HM.out.a3 1; have kb0 := blk_cell HM.out.a2 0; have kb1 := blk_cell HM.out.a2 1; have kc0 := blk_cell HM.out.a1 0; have kc1 := blk_cell HM.out.a1 1; have kd0 := blk_cell HM.out.a0 0; have kd1 := blk_cell HM.out.a0 1)
  | (go_at_call 68; (with_reducible refine (PointValid_calls cx cy _).mono ?_); rintro e w_ ⟨rfl, hb⟩; rw [H3.out]; replace HM := Aside0.mk (HM.out.keep hb); clear hb; (try clear ka0 ka1 kb0 kb1 kc0 kc1 kd0 kd1); have ka0 := blk_cell HM.out.a3 0; have ka1 := blk_cell HM.out.a3 1; have kb0 := blk_cell HM.out.a2 0; have kb1 := blk_cell HM.out.a2 1; have kc0 := blk_cell HM.out.a1 0; have kc1 := blk_cell HM.out.a1 1; have kd0 := blk_cell HM.out.a0 0; have kd1 := blk_cell HM.out.a0 1)
  | (go_at_call 68; (with_reducible refine (PointValid_calls dx dy _).mono ?_); rintro e w_ ⟨rfl, hb⟩; rw [H4.out]; replace HM := Aside0.mk (HM.out.keep hb); clear hb; (try clear ka0 ka1 kb0 kb1 kc0 kc1 kd0 kd1); have ka0 := blk_cell HM.out.a3 0; have ka1 := blk_cell HM.out.a3 1; have kb0 := blk_cell HM.out.a2 0; have kb1 := blk_cell HM.out.a2 1; have kc0 := blk_cell HM.out.a1 0; have kc1 := blk_cell HM.out.a1 1; have kd0 := blk_cell HM.out.a0 0; have kd1 := blk_cell HM.out.a0 1))
 ·clear H1 H2 H3 H4 h5 h6
  generalize hp : wrap64 (bx - ax) = p at *
  generalize hq : wrap64 (by_ - ay) = q at *
  generalize hr : wrap64 (dx - cx) = r at *
  generalize hs : wrap64 (dy - cy) = s at *
  have HP := Aside0.mk hp
  have HQ := Aside0.mk hq
  have HR := Aside0.mk hr
  have HS := Aside0.mk hs
  clear hp hq hr hs
  go_region_held3 (fun w' => w'.cell? ⟨g4, 0, none⟩ = some (.int .i64 ax) ∧ w'.cell? ⟨g4, 1, none⟩ = some (.int .i64 ay) ∧ w'.cell? ⟨g5, 0, none⟩ = some (.int .i64 bx) ∧ w'.cell? ⟨g5, 1, none⟩ = some (.int .i64 by_))
   (first
    | exact ⟨blk_cell HM.out.a3 0, blk_cell HM.out.a3 1, blk_cell HM.out.a2 0, blk_cell HM.out.a2 1⟩
    | exact ⟨blk_cell HM.out.drew.a3 0, blk_cell HM.out.drew.a3 1, blk_cell HM.out.drew.a2 0, blk_cell HM.out.drew.a2 1⟩
    | exact ⟨blk_cell (HM.out.alloc _ _).a4 0, blk_cell (HM.out.alloc _ _).a4 1, blk_cell (HM.out.alloc _ _).a3 0, blk_cell (HM.out.alloc _ _).a3 1⟩
    | go_keep)
   (first
    | (go_at_call 40; (with_reducible refine (pairOf_calls ax ay _).mono ?_); rintro e w_ ⟨rfl, hb⟩; (first | replace HM := Aside0.mk (HM.out.keep hb) | replace HM := Aside0.mk (HM.out.drew.keep hb)); clear hb; (try clear ka0); (try clear ka1); (try clear kb0); (try clear kb1); (try clear kc0); (try clear kc1); (try clear kd0); (try clear kd1); have ka0 := blk_cell HM.out.a3 0; have ka1 := blk_cell HM.out.a3 1; have kb0 := blk_cell HM.out.a2 0; have kb1 := blk_cell HM.out.a2 1; have kc0 := blk_cell HM.out.a1 0; have kc1 := blk_cell HM.out.a1 1; have kd0 := blk_cell HM.out.a0 0; have kd1 := blk_cell HM.out.a0 1)
    | (go_at_call 40; (with_reducible refine (pairOf_calls bx by_ _).mono ?_); rintro e w_ ⟨rfl, hb⟩; (first | replace HM := Aside0.mk (HM.out.keep hb) | replace HM := Aside0.mk (HM.out.drew.keep hb)); clear hb; (try clear ka0); (try clear ka1); (try clear kb0); (try clear kb1); (try clear kc0); (try clear kc1); (try clear kd0); (try clear kd1); have ka0 := blk_cell HM.out.a3 0; have ka1 := blk_cell HM.out.a3 1; have kb0 := blk_cell HM.out.a2 0; have kb1 := blk_cell HM.out.a2 1; have kc0 := blk_cell HM.out.a1 0; have kc1 := blk_cell HM.out.a1 1; have kd0 := blk_cell HM.out.a0 0; have kd1 := blk_cell HM.out.a0 1)
    | (go_at_call 69; (with_reducible refine (pairMinus_calls bx by_ ax ay _).mono ?_); rw [HP.out, HQ.out]; rintro e w_ ⟨rfl, hb⟩; (first | replace HM := Aside0.mk (HM.out.keep hb) | replace HM := Aside0.mk (HM.out.drew.keep hb)); clear hb; (try clear ka0); (try clear ka1); (try clear kb0); (try clear kb1); (try clear kc0); (try clear kc1); (try clear kd0); (try clear kd1); have ka0 := blk_cell HM.out.a3 0; have ka1 := blk_cell HM.out.a3 1; have kb0 := blk_cell HM.out.a2 0; have kb1 := blk_cell HM.out.a2 1; have kc0 := blk_cell HM.out.a1 0; have kc1 := blk_cell HM.out.a1 1; have kd0 := blk_cell HM.out.a0 0; have kd1 := blk_cell HM.out.a0 1))
  replace HM := Aside0.mk (HM.out.alloc #[.int .i64 ax, .int .i64 ay, .int .i64 p, .int .i64 q] 110)
  clear ka0 ka1 kb0 kb1 kc0 kc1 kd0 kd1
  generalize w_.alloc (.cells #[.int .i64 ax, .int .i64 ay, .int .i64 p, .int .i64 q] 110) = w11 at *
  generalize w_.heap.size = g11 at *
  have ka0 := blk_cell HM.out.a4 0
  have ka1 := blk_cell HM.out.a4 1
  have kb0 := blk_cell HM.out.a3 0
  have kb1 := blk_cell HM.out.a3 1
  have kc0 := blk_cell HM.out.a2 0
  have kc1 := blk_cell HM.out.a2 1
  have kd0 := blk_cell HM.out.a1 0
  have kd1 := blk_cell HM.out.a1 1
  go_wp2_with fail
  go_region_held3 (fun w' => w'.cell? ⟨g6, 0, none⟩ = some (.int .i64 cx) ∧ w'.cell? ⟨g6, 1, none⟩ = some (.int .i64 cy) ∧ w'.cell? ⟨g7, 0, none⟩ = some (.int .i64 dx) ∧ w'.cell? ⟨g7, 1, none⟩ = some (.int .i64 dy))
   (first
    | exact ⟨blk_cell HM.out.a2 0, blk_cell HM.out.a2 1, blk_cell HM.out.a1 0, blk_cell HM.out.a1 1⟩
    | exact ⟨blk_cell HM.out.drew.a2 0, blk_cell HM.out.drew.a2 1, blk_cell HM.out.drew.a1 0, blk_cell HM.out.drew.a1 1⟩
    | exact ⟨blk_cell (HM.out.alloc _ _).a3 0, blk_cell (HM.out.alloc _ _).a3 1, blk_cell (HM.out.alloc _ _).a2 0, blk_cell (HM.out.alloc _ _).a2 1⟩
    | go_keep)
   (first
    | (go_at_call 40; (with_reducible refine (pairOf_calls cx cy _).mono ?_); rintro e w_ ⟨rfl, hb⟩; (first | replace HM := Aside0.mk (HM.out.keep hb) | replace HM := Aside0.mk (HM.out.drew.keep hb)); clear hb; (try clear ka0); (try clear ka1); (try clear kb0); (try clear kb1); (try clear kc0); (try clear kc1); (try clear kd0); (try clear kd1); have ka0 := blk_cell HM.out.a4 0; have ka1 := blk_cell HM.out.a4 1; have kb0 := blk_cell HM.out.a3 0; have kb1 := blk_cell HM.out.a3 1; have kc0 := blk_cell HM.out.a2 0; have kc1 := blk_cell HM.out.a2 1; have kd0 := blk_cell HM.out.a1 0; have kd1 := blk_cell HM.out.a1 1)
    | (go_at_call 40; (with_reducible refine (pairOf_calls dx dy _).mono ?_); rintro e w_ ⟨rfl, hb⟩; (first | replace HM := Aside0.mk (HM.out.keep hb) | replace HM := Aside0.mk (HM.out.drew.keep hb)); clear hb; (try clear ka0); (try clear ka1); (try clear kb0); (try clear kb1); (try clear kc0); (try clear kc1); (try clear kd0); (try clear kd1); have ka0 := blk_cell HM.out.a4 0; have ka1 := blk_cell HM.out.a4 1; have kb0 := blk_cell HM.out.a3 0; have kb1 := blk_cell HM.out.a3 1; have kc0 := blk_cell HM.out.a2 0; have kc1 := blk_cell HM.out.a2 1; have kd0 := blk_cell HM.out.a1 0; have kd1 := blk_cell HM.out.a1 1)
    | (go_at_call 69; (with_reducible refine (pairMinus_calls dx dy cx cy _).mono ?_); rw [HR.out, HS.out]; rintro e w_ ⟨rfl, hb⟩; (first | replace HM := Aside0.mk (HM.out.keep hb) | replace HM := Aside0.mk (HM.out.drew.keep hb)); clear hb; (try clear ka0); (try clear ka1); (try clear kb0); (try clear kb1); (try clear kc0); (try clear kc1); (try clear kd0); (try clear kd1); have ka0 := blk_cell HM.out.a4 0; have ka1 := blk_cell HM.out.a4 1; have kb0 := blk_cell HM.out.a3 0; have kb1 := blk_cell HM.out.a3 1; have kc0 := blk_cell HM.out.a2 0; have kc1 := blk_cell HM.out.a2 1; have kd0 := blk_cell HM.out.a1 0; have kd1 := blk_cell HM.out.a1 1))
  replace HM := Aside0.mk (HM.out.alloc #[.int .i64 cx, .int .i64 cy, .int .i64 r, .int .i64 s] 110)
  clear ka0 ka1 kb0 kb1 kc0 kc1 kd0 kd1
  generalize w_.alloc (.cells #[.int .i64 cx, .int .i64 cy, .int .i64 r, .int .i64 s] 110) = w12 at *
  generalize w_.heap.size = g12 at *
  go_wp2_with fail
  go_ret3
  exact ⟨g11, g12, rfl, by rw [HP.out, HQ.out, HR.out, HS.out]; exact HM.out.two⟩
end
def Ln2 (w W : World) (g1 : Nat) (c1 : Array Value) (g2 : Nat) (c2 : Array Value) (t : TypeId) : Prop := Below w.heap.size w W ∧ W.heap[g1]? = some (.cells c1 t (0, 0)) ∧ W.heap[g2]? = some (.cells c2 t (0, 0))
theorem Ln2.keep {w W W' : World} {g1 g2 : Nat} {c1 c2 : Array Value} {t : TypeId} (h : Ln2 w W g1 c1 g2 c2 t) (hb : Below W.heap.size W W') : Ln2 w W' g1 c1 g2 c2 t := ⟨below_then h.1 h.1.size hb, blk_below h.2.1 hb, blk_below h.2.2 hb⟩
theorem Ln2.drew {w W : World} {g1 g2 : Nat} {c1 c2 : Array Value} {t : TypeId} (h : Ln2 w W g1 c1 g2 c2 t) : Ln2 w W.drew g1 c1 g2 c2 t := h.keep (below_drew1 (Below.refl _ _))
def alT (x1 y1 x2 y2 u2 v2 : Int) : Int := crI (wrap64 (x2 - x1)) (wrap64 (y2 - y1)) u2 v2
def alI (x1 y1 u1 v1 x2 y2 u2 v2 : Int) : Int × Int := if crI u1 v1 u2 v2 < 0 then (wrap64 (-alT x1 y1 x2 y2 u2 v2), wrap64 (-crI u1 v1 u2 v2)) else (alT x1 y1 x2 y2 u2 v2, crI u1 v1 u2 v2)
set_option maxHeartbeats 4000000 in
theorem along_calls (g1 g2 : Nat) (x1 y1 u1 v1 x2 y2 u2 v2 : Int) (w : World) (h1 : w.heap[g1]? = some (.cells #[.int .i64 x1, .int .i64 y1, .int .i64 u1, .int .i64 v1] 110 (0, 0))) (h2 : w.heap[g2]? = some (.cells #[.int .i64 x2, .int .i64 y2, .int .i64 u2, .int .i64 v2] 110 (0, 0))) :
  Calls Try.prog 85 #[.pointer (some ⟨g1, 0, none⟩), .pointer (some ⟨g2, 0, none⟩)] w fun e w' => e = .returned (.tuple #[.int .i64 (alI x1 y1 u1 v1 x2 y2 u2 v2).1, .int .i64 (alI x1 y1 u1 v1 x2 y2 u2 v2).2]) ∧ Below w.heap.size w w' := by
 have HM : Aside0 (Ln2 w w g1 #[.int .i64 x1, .int .i64 y1, .int .i64 u1, .int .i64 v1] g2 #[.int .i64 x2, .int .i64 y2, .int .i64 u2, .int .i64 v2] 110) := ⟨⟨Below.refl _ _, h1, h2⟩⟩
 clear h1 h2
 have k0 := blk_cell HM.out.2.1 0
 have k1 := blk_cell HM.out.2.1 1
 have k2 := blk_cell HM.out.2.1 2
 have k3 := blk_cell HM.out.2.1 3
 have k4 := blk_cell HM.out.2.2 0
 have k5 := blk_cell HM.out.2.2 1
 have k6 := blk_cell HM.out.2.2 2
 have k7 := blk_cell HM.out.2.2 3
 go_enter Try.func85, Try.ntmps85
 go_wp2_with fail
 generalize hp : wrap64 (x2 - x1) = p at *
 generalize hq : wrap64 (y2 - y1) = q at *
 have HP := Aside0.mk hp
 have HQ := Aside0.mk hq
 have HTT : Aside0 (alT x1 y1 x2 y2 u2 v2 = wrap64 (wrap64 (p * v2) - wrap64 (u2 * q))) := ⟨by unfold alT crI; rw [hp, hq]⟩
 clear hp hq
 generalize ht : wrap64 (wrap64 (p * v2) - wrap64 (u2 * q)) = tp at *
 have HT := Aside0.mk ht
 clear ht
 go_region_held3 (fun w' => w'.cell? ⟨g1, 0, none⟩ = some (.int .i64 x1) ∧ w'.cell? ⟨g1, 1, none⟩ = some (.int .i64 y1) ∧ w'.cell? ⟨g1, 2, none⟩ = some (.int .i64 u1) ∧ w'.cell? ⟨g1, 3, none⟩ = some (.int .i64 v1) ∧ w'.cell? ⟨g2, 0, none⟩ = some (.int .i64 x2) ∧ w'.cell? ⟨g2, 1, none⟩ = some (.int .i64 y2) ∧ w'.cell? ⟨g2, 2, none⟩ = some (.int .i64 u2) ∧ w'.cell? ⟨g2, 3, none⟩ = some (.int .i64 v2))
  (first
   | exact ⟨blk_cell HM.out.2.1 0, blk_cell HM.out.2.1 1, blk_cell HM.out.2.1 2, blk_cell HM.out.2.1 3, blk_cell HM.out.2.2 0, blk_cell HM.out.2.2 1, blk_cell HM.out.2.2 2, blk_cell HM.out.2.2 3⟩
   | exact ⟨blk_cell HM.out.drew.2.1 0, blk_cell HM.out.drew.2.1 1, blk_cell HM.out.drew.2.1 2, blk_cell HM.out.drew.2.1 3, blk_cell HM.out.drew.2.2 0, blk_cell HM.out.drew.2.2 1, blk_cell HM.out.drew.2.2 2, blk_cell HM.out.drew.2.2 3⟩
   | go_keep)
  (first
   | (go_at_call 69; (with_reducible refine (pairMinus_calls x2 y2 x1 y1 _).mono ?_); rw [HP.out, HQ.out]; rintro e w_ ⟨rfl, hb⟩; (first | replace HM := Aside0.mk (HM.out.keep hb) | replace HM := Aside0.mk (HM.out.drew.keep hb)); clear hb; (try clear k0); (try clear k1); (try clear k2); (try clear k3); (try clear k4); (try clear k5); (try clear k6); (try clear k7); have k0 := blk_cell HM.out.2.1 0; have k1 := blk_cell HM.out.2.1 1; have k2 := blk_cell HM.out.2.1 2; have k3 := blk_cell HM.out.2.1 3; have k4 := blk_cell HM.out.2.2 0; have k5 := blk_cell HM.out.2.2 1; have k6 := blk_cell HM.out.2.2 2; have k7 := blk_cell HM.out.2.2 3)
   | (go_at_call 67; (with_reducible refine (pairCross_calls p q u2 v2 _).mono ?_); rw [HT.out]; rintro e w_ ⟨rfl, hb⟩; (first | replace HM := Aside0.mk (HM.out.keep hb) | replace HM := Aside0.mk (HM.out.drew.keep hb)); clear hb; (try clear k0); (try clear k1); (try clear k2); (try clear k3); (try clear k4); (try clear k5); (try clear k6); (try clear k7); have k0 := blk_cell HM.out.2.1 0; have k1 := blk_cell HM.out.2.1 1; have k2 := blk_cell HM.out.2.1 2; have k3 := blk_cell HM.out.2.1 3; have k4 := blk_cell HM.out.2.2 0; have k5 := blk_cell HM.out.2.2 1; have k6 := blk_cell HM.out.2.2 2; have k7 := blk_cell HM.out.2.2 3))
 go_wp2_with fail
 generalize hl : wrap64 (wrap64 (u1 * v2) - wrap64 (u2 * v1)) = lo at *
 have HL := Aside0.mk hl
 have HLL : Aside0 (crI u1 v1 u2 v2 = lo) := ⟨by unfold crI; exact hl⟩
 clear hl
 go_region_held3 (fun w' => w'.cell? ⟨g1, 0, none⟩ = some (.int .i64 x1) ∧ w'.cell? ⟨g1, 1, none⟩ = some (.int .i64 y1) ∧ w'.cell? ⟨g1, 2, none⟩ = some (.int .i64 u1) ∧ w'.cell? ⟨g1, 3, none⟩ = some (.int .i64 v1) ∧ w'.cell? ⟨g2, 0, none⟩ = some (.int .i64 x2) ∧ w'.cell? ⟨g2, 1, none⟩ = some (.int .i64 y2) ∧ w'.cell? ⟨g2, 2, none⟩ = some (.int .i64 u2) ∧ w'.cell? ⟨g2, 3, none⟩ = some (.int .i64 v2))
  (first
   | exact ⟨blk_cell HM.out.2.1 0, blk_cell HM.out.2.1 1, blk_cell HM.out.2.1 2, blk_cell HM.out.2.1 3, blk_cell HM.out.2.2 0, blk_cell HM.out.2.2 1, blk_cell HM.out.2.2 2, blk_cell HM.out.2.2 3⟩
   | exact ⟨blk_cell HM.out.drew.2.1 0, blk_cell HM.out.drew.2.1 1, blk_cell HM.out.drew.2.1 2, blk_cell HM.out.drew.2.1 3, blk_cell HM.out.drew.2.2 0, blk_cell HM.out.drew.2.2 1, blk_cell HM.out.drew.2.2 2, blk_cell HM.out.drew.2.2 3⟩
   | go_keep)
  (first
   | (go_at_call 67; (with_reducible refine (pairCross_calls u1 v1 u2 v2 _).mono ?_); rw [HL.out]; rintro e w_ ⟨rfl, hb⟩; (first | replace HM := Aside0.mk (HM.out.keep hb) | replace HM := Aside0.mk (HM.out.drew.keep hb)); clear hb; (try clear k0); (try clear k1); (try clear k2); (try clear k3); (try clear k4); (try clear k5); (try clear k6); (try clear k7); have k0 := blk_cell HM.out.2.1 0; have k1 := blk_cell HM.out.2.1 1; have k2 := blk_cell HM.out.2.1 2; have k3 := blk_cell HM.out.2.1 3; have k4 := blk_cell HM.out.2.2 0; have k5 := blk_cell HM.out.2.2 1; have k6 := blk_cell HM.out.2.2 2; have k7 := blk_cell HM.out.2.2 3))
 by_cases hneg : lo < 0
 ·have HV : Aside0 (alI x1 y1 u1 v1 x2 y2 u2 v2 = (wrap64 (-tp), wrap64 (-lo))) := ⟨by unfold alI; rw [HLL.out, if_pos hneg, HTT.out]⟩
  go_wp2_with fail
  go_ret2
  exact ⟨by rw [HV.out]; rfl, HM.out.1⟩
 ·have HV : Aside0 (alI x1 y1 u1 v1 x2 y2 u2 v2 = (tp, lo)) := ⟨by unfold alI; rw [HLL.out, if_neg hneg, HTT.out]⟩
  go_wp2_with fail
  go_ret2
  exact ⟨by rw [HV.out]; rfl, HM.out.1⟩
def hdI (p : Int × Int) : Bool := p.2 != 0 && (decide (0 ≤ p.1) && decide (p.1 ≤ p.2))
set_option maxHeartbeats 4000000 in
theorem holds_calls (g1 g2 : Nat) (x1 y1 u1 v1 x2 y2 u2 v2 : Int) (w : World) (h1 : w.heap[g1]? = some (.cells #[.int .i64 x1, .int .i64 y1, .int .i64 u1, .int .i64 v1] 110 (0, 0))) (h2 : w.heap[g2]? = some (.cells #[.int .i64 x2, .int .i64 y2, .int .i64 u2, .int .i64 v2] 110 (0, 0))) :
  Calls Try.prog 59 #[.pointer (some ⟨g1, 0, none⟩), .pointer (some ⟨g2, 0, none⟩)] w fun e w' => e = .returned (.bool (hdI (alI x1 y1 u1 v1 x2 y2 u2 v2))) ∧ Below w.heap.size w w' := by
 have hc := fun w h1 h2 => along_calls g1 g2 x1 y1 u1 v1 x2 y2 u2 v2 w h1 h2
 obtain ⟨tp, lo, hal⟩ : ∃ tp lo, alI x1 y1 u1 v1 x2 y2 u2 v2 = (tp, lo) := ⟨_, _, rfl⟩
 simp only [hal] at hc
 rw [hal]
 have HC := Aside0.mk (hc w h1 h2)
 clear hc hal h1 h2
 unfold hdI
 by_cases h0 : lo = 0
 ·have hb0 : (lo != 0) = false := by simpa using h0
  go_enter Try.func59, Try.ntmps59
  go_wp2_with (go_at_call 85; (with_reducible refine HC.out.mono ?_); rintro e w_ ⟨rfl, hb⟩; have HB := Aside0.mk hb; clear hb)
  go_ret
  exact ⟨by first | rfl | (rw [hb0]; rfl) | simp [h0], HB.out⟩
 ·have hb0 : (lo != 0) = true := by simpa using h0
  by_cases ht : 0 ≤ tp
  ·have hbt : decide (0 ≤ tp) = true := decide_eq_true ht
   go_enter Try.func59, Try.ntmps59
   go_wp2_with (go_at_call 85; (with_reducible refine HC.out.mono ?_); rintro e w_ ⟨rfl, hb⟩; have HB := Aside0.mk hb; clear hb)
   go_ret
   exact ⟨by first | rfl | (rw [hb0, hbt]; rfl) | simp [hb0, ht], HB.out⟩
  ·have hbt : decide (0 ≤ tp) = false := decide_eq_false ht
   go_enter Try.func59, Try.ntmps59
   go_wp2_with (go_at_call 85; (with_reducible refine HC.out.mono ?_); rintro e w_ ⟨rfl, hb⟩; have HB := Aside0.mk hb; clear hb)
   go_ret
   exact ⟨by first | rfl | (rw [hb0, hbt]; rfl) | simp [hb0, ht], HB.out⟩
theorem lnOk_t (ax ay bx by_ cx cy dx dy : Int) (h : lnOk ax ay bx by_ cx cy dx dy = true) : inR ax ay 10000 = true ∧ inR bx by_ 10000 = true ∧ inR cx cy 10000 = true ∧ inR dx dy 10000 = true ∧ (ax == bx && (ay == by_)) = false ∧ (cx == dx && (cy == dy)) = false := by
 unfold lnOk at h
 simp only [Bool.and_eq_true, Bool.not_eq_true'] at h
 exact h
theorem lines_t (ax ay bx by_ cx cy dx dy : Int) (h : lnOk ax ay bx by_ cx cy dx dy = true) (w : World) : Calls Try.prog 58 #[.agg #[.int .i64 ax, .int .i64 ay], .agg #[.int .i64 bx, .int .i64 by_], .agg #[.int .i64 cx, .int .i64 cy], .agg #[.int .i64 dx, .int .i64 dy]] w fun e w' => ∃ g1 g2, e = .returned (.tuple #[.pointer (some ⟨g1, 0, none⟩), .pointer (some ⟨g2, 0, none⟩), .bool true]) ∧ Hd w w' [(g2, #[.int .i64 cx, .int .i64 cy, .int .i64 (wrap64 (dx - cx)), .int .i64 (wrap64 (dy - cy))], 110), (g1, #[.int .i64 ax, .int .i64 ay, .int .i64 (wrap64 (bx - ax)), .int .i64 (wrap64 (by_ - ay))], 110)] := by
 obtain ⟨h1, h2, h3, h4, h5, h6⟩ := lnOk_t _ _ _ _ _ _ _ _ h
 exact lines_yes _ _ _ _ _ _ _ _ h1 h2 h3 h4 h5 h6 w
theorem lines_f (ax ay bx by_ cx cy dx dy : Int) (h : lnOk ax ay bx by_ cx cy dx dy = false) (w : World) : Calls Try.prog 58 #[.agg #[.int .i64 ax, .int .i64 ay], .agg #[.int .i64 bx, .int .i64 by_], .agg #[.int .i64 cx, .int .i64 cy], .agg #[.int .i64 dx, .int .i64 dy]] w fun e w' => e = .returned (.tuple #[.pointer none, .pointer none, .bool false]) ∧ Below w.heap.size w w' := by
 unfold lnOk at h
 cases h1 : inR ax ay 10000 with
 | false => exact lines_no1 _ _ _ _ _ _ _ _ h1 w
 | true =>
  cases h2 : inR bx by_ 10000 with
  | false => exact lines_no2 _ _ _ _ _ _ _ _ h1 h2 w
  | true =>
   cases h3 : inR cx cy 10000 with
   | false => exact lines_no3 _ _ _ _ _ _ _ _ h1 h2 h3 w
   | true =>
    cases h4 : inR dx dy 10000 with
    | false => exact lines_no4 _ _ _ _ _ _ _ _ h1 h2 h3 h4 w
    | true =>
     cases h5 : (ax == bx && (ay == by_)) with
     | true => exact lines_no5 _ _ _ _ _ _ _ _ h1 h2 h3 h4 h5 w
     | false =>
      cases h6 : (cx == dx && (cy == dy)) with
      | true => exact lines_no6 _ _ _ _ _ _ _ _ h1 h2 h3 h4 h5 h6 w
      | false => rw [h1, h2, h3, h4, h5, h6] at h; cases h
def ciB (ax ay bx by_ cx cy dx dy : Int) : Bool := lnOk ax ay bx by_ cx cy dx dy && (hdI (alI ax ay (wrap64 (bx - ax)) (wrap64 (by_ - ay)) cx cy (wrap64 (dx - cx)) (wrap64 (dy - cy))) && hdI (alI cx cy (wrap64 (dx - cx)) (wrap64 (dy - cy)) ax ay (wrap64 (bx - ax)) (wrap64 (by_ - ay))))
set_option maxHeartbeats 4000000 in
theorem inner_no (ax ay bx by_ cx cy dx dy : Int) (hl : lnOk ax ay bx by_ cx cy dx dy = false) (w : World) : Calls Try.prog 28 #[.agg #[.int .i64 ax, .int .i64 ay], .agg #[.int .i64 bx, .int .i64 by_], .agg #[.int .i64 cx, .int .i64 cy], .agg #[.int .i64 dx, .int .i64 dy]] w fun e w' => e = .returned (.bool false) ∧ Below w.heap.size w w' := by
 have HL := Aside0.mk hl
 have HM := Aside0.mk (Hd.nil w)
 clear hl
 go_enter Try.func28, Try.ntmps28
 go_wp2_with (first
  | ((with_reducible refine gate_dst (N := 4) rfl ?_); refine box_event ?hg (N := 4) ?hd (cs := #[.int .i64 ax, .int .i64 ay]) (t := 33) ?hr ?_; (case hd => rfl); (case hg => rfl); (case hr => first | (go_simp; done) | (go_simp; rfl)); intro g4 e_ w_ b_ hb; replace HM := Aside0.mk (HM.out.box hb b_ e_); clear e_ b_ hb)
  | ((with_reducible refine gate_dst (N := 5) rfl ?_); refine box_event ?hg (N := 5) ?hd (cs := #[.int .i64 bx, .int .i64 by_]) (t := 33) ?hr ?_; (case hd => rfl); (case hg => rfl); (case hr => first | (go_simp; done) | (go_simp; rfl)); intro g5 e_ w_ b_ hb; replace HM := Aside0.mk (HM.out.box hb b_ e_); clear e_ b_ hb)
  | ((with_reducible refine gate_dst (N := 6) rfl ?_); refine box_event ?hg (N := 6) ?hd (cs := #[.int .i64 cx, .int .i64 cy]) (t := 33) ?hr ?_; (case hd => rfl); (case hg => rfl); (case hr => first | (go_simp; done) | (go_simp; rfl)); intro g6 e_ w_ b_ hb; replace HM := Aside0.mk (HM.out.box hb b_ e_); clear e_ b_ hb)
  | ((with_reducible refine gate_dst (N := 7) rfl ?_); refine box_event ?hg (N := 7) ?hd (cs := #[.int .i64 dx, .int .i64 dy]) (t := 33) ?hr ?_; (case hd => rfl); (case hg => rfl); (case hr => first | (go_simp; done) | (go_simp; rfl)); intro g7 e_ w_ b_ hb; replace HM := Aside0.mk (HM.out.box hb b_ e_); clear e_ b_ hb; have ka0 := blk_cell HM.out.a3 0; have ka1 := blk_cell HM.out.a3 1; have kb0 := blk_cell HM.out.a2 0; have kb1 := blk_cell HM.out.a2 1; have kc0 := blk_cell HM.out.a1 0; have kc1 := blk_cell HM.out.a1 1; have kd0 := blk_cell HM.out.a0 0; have kd1 := blk_cell HM.out.a0 1)
  | (go_at_call 58; (with_reducible refine (lines_f ax ay bx by_ cx cy dx dy HL.out _).mono ?_); rintro e w_ ⟨rfl, hb⟩; replace HM := Aside0.mk (HM.out.keep hb); clear hb; (try clear ka0 ka1 kb0 kb1 kc0 kc1 kd0 kd1); have ka0 := blk_cell HM.out.a3 0; have ka1 := blk_cell HM.out.a3 1; have kb0 := blk_cell HM.out.a2 0; have kb1 := blk_cell HM.out.a2 1; have kc0 := blk_cell HM.out.a1 0; have kc1 := blk_cell HM.out.a1 1; have kd0 := blk_cell HM.out.a0 0; have kd1 := blk_cell HM.out.a0 1))
 go_ret
 exact ⟨rfl, HM.out.1⟩
set_option maxHeartbeats 4000000 in
theorem inner_yes (ax ay bx by_ cx cy dx dy : Int) (hl : lnOk ax ay bx by_ cx cy dx dy = true) (w : World) : Calls Try.prog 28 #[.agg #[.int .i64 ax, .int .i64 ay], .agg #[.int .i64 bx, .int .i64 by_], .agg #[.int .i64 cx, .int .i64 cy], .agg #[.int .i64 dx, .int .i64 dy]] w fun e w' => e = .returned (.bool (hdI (alI ax ay (wrap64 (bx - ax)) (wrap64 (by_ - ay)) cx cy (wrap64 (dx - cx)) (wrap64 (dy - cy))) && hdI (alI cx cy (wrap64 (dx - cx)) (wrap64 (dy - cy)) ax ay (wrap64 (bx - ax)) (wrap64 (by_ - ay))))) ∧ Below w.heap.size w w' := by
 obtain ⟨u, hu⟩ : ∃ u, hdI (alI ax ay (wrap64 (bx - ax)) (wrap64 (by_ - ay)) cx cy (wrap64 (dx - cx)) (wrap64 (dy - cy))) = u := ⟨_, rfl⟩
 obtain ⟨v, hv⟩ : ∃ v, hdI (alI cx cy (wrap64 (dx - cx)) (wrap64 (dy - cy)) ax ay (wrap64 (bx - ax)) (wrap64 (by_ - ay))) = v := ⟨_, rfl⟩
 rw [hu, hv]
 have HV1 := Aside0.mk hu
 have HV2 := Aside0.mk hv
 clear hu hv
 have HL := Aside0.mk hl
 have HM := Aside0.mk (Hd.nil w)
 clear hl
 cases u with
 | true =>
  go_enter Try.func28, Try.ntmps28
  go_wp2_with (first
   | ((with_reducible refine gate_dst (N := 4) rfl ?_); refine box_event ?hg (N := 4) ?hd (cs := #[.int .i64 ax, .int .i64 ay]) (t := 33) ?hr ?_; (case hd => rfl); (case hg => rfl); (case hr => first | (go_simp; done) | (go_simp; rfl)); intro g4 e_ w_ b_ hb; replace HM := Aside0.mk (HM.out.box hb b_ e_); clear e_ b_ hb)
   | ((with_reducible refine gate_dst (N := 5) rfl ?_); refine box_event ?hg (N := 5) ?hd (cs := #[.int .i64 bx, .int .i64 by_]) (t := 33) ?hr ?_; (case hd => rfl); (case hg => rfl); (case hr => first | (go_simp; done) | (go_simp; rfl)); intro g5 e_ w_ b_ hb; replace HM := Aside0.mk (HM.out.box hb b_ e_); clear e_ b_ hb)
   | ((with_reducible refine gate_dst (N := 6) rfl ?_); refine box_event ?hg (N := 6) ?hd (cs := #[.int .i64 cx, .int .i64 cy]) (t := 33) ?hr ?_; (case hd => rfl); (case hg => rfl); (case hr => first | (go_simp; done) | (go_simp; rfl)); intro g6 e_ w_ b_ hb; replace HM := Aside0.mk (HM.out.box hb b_ e_); clear e_ b_ hb)
   | ((with_reducible refine gate_dst (N := 7) rfl ?_); refine box_event ?hg (N := 7) ?hd (cs := #[.int .i64 dx, .int .i64 dy]) (t := 33) ?hr ?_; (case hd => rfl); (case hg => rfl); (case hr => first | (go_simp; done) | (go_simp; rfl)); intro g7 e_ w_ b_ hb; replace HM := Aside0.mk (HM.out.box hb b_ e_); clear e_ b_ hb; have ka0 := blk_cell HM.out.a3 0; have ka1 := blk_cell HM.out.a3 1; have kb0 := blk_cell HM.out.a2 0; have kb1 := blk_cell HM.out.a2 1; have kc0 := blk_cell HM.out.a1 0; have kc1 := blk_cell HM.out.a1 1; have kd0 := blk_cell HM.out.a0 0; have kd1 := blk_cell HM.out.a0 1)
   | (go_at_call 58; (with_reducible refine (lines_t ax ay bx by_ cx cy dx dy HL.out _).mono ?_); rintro e w_ ⟨g1, g2, rfl, hb⟩; replace HM := Aside0.mk (HM.out.lines hb); clear hb; (try clear ka0 ka1 kb0 kb1 kc0 kc1 kd0 kd1); have ka0 := blk_cell HM.out.a5 0; have ka1 := blk_cell HM.out.a5 1; have kb0 := blk_cell HM.out.a4 0; have kb1 := blk_cell HM.out.a4 1; have kc0 := blk_cell HM.out.a3 0; have kc1 := blk_cell HM.out.a3 1; have kd0 := blk_cell HM.out.a2 0; have kd1 := blk_cell HM.out.a2 1)
   | (go_at_call 59; (with_reducible refine (holds_calls g1 g2 _ _ _ _ _ _ _ _ _ HM.out.a1 HM.out.a0).mono ?_); rintro e w_ ⟨rfl, hb⟩; rw [HV1.out]; replace HM := Aside0.mk (HM.out.keep hb); clear hb)
   | (go_at_call 59; (with_reducible refine (holds_calls g2 g1 _ _ _ _ _ _ _ _ _ HM.out.a0 HM.out.a1).mono ?_); rintro e w_ ⟨rfl, hb⟩; rw [HV2.out]; replace HM := Aside0.mk (HM.out.keep hb); clear hb))
  go_ret
  exact ⟨by first | rfl | simp, HM.out.1⟩
 | false =>
  go_enter Try.func28, Try.ntmps28
  go_wp2_with (first
   | ((with_reducible refine gate_dst (N := 4) rfl ?_); refine box_event ?hg (N := 4) ?hd (cs := #[.int .i64 ax, .int .i64 ay]) (t := 33) ?hr ?_; (case hd => rfl); (case hg => rfl); (case hr => first | (go_simp; done) | (go_simp; rfl)); intro g4 e_ w_ b_ hb; replace HM := Aside0.mk (HM.out.box hb b_ e_); clear e_ b_ hb)
   | ((with_reducible refine gate_dst (N := 5) rfl ?_); refine box_event ?hg (N := 5) ?hd (cs := #[.int .i64 bx, .int .i64 by_]) (t := 33) ?hr ?_; (case hd => rfl); (case hg => rfl); (case hr => first | (go_simp; done) | (go_simp; rfl)); intro g5 e_ w_ b_ hb; replace HM := Aside0.mk (HM.out.box hb b_ e_); clear e_ b_ hb)
   | ((with_reducible refine gate_dst (N := 6) rfl ?_); refine box_event ?hg (N := 6) ?hd (cs := #[.int .i64 cx, .int .i64 cy]) (t := 33) ?hr ?_; (case hd => rfl); (case hg => rfl); (case hr => first | (go_simp; done) | (go_simp; rfl)); intro g6 e_ w_ b_ hb; replace HM := Aside0.mk (HM.out.box hb b_ e_); clear e_ b_ hb)
   | ((with_reducible refine gate_dst (N := 7) rfl ?_); refine box_event ?hg (N := 7) ?hd (cs := #[.int .i64 dx, .int .i64 dy]) (t := 33) ?hr ?_; (case hd => rfl); (case hg => rfl); (case hr => first | (go_simp; done) | (go_simp; rfl)); intro g7 e_ w_ b_ hb; replace HM := Aside0.mk (HM.out.box hb b_ e_); clear e_ b_ hb; have ka0 := blk_cell HM.out.a3 0; have ka1 := blk_cell HM.out.a3 1; have kb0 := blk_cell HM.out.a2 0; have kb1 := blk_cell HM.out.a2 1; have kc0 := blk_cell HM.out.a1 0; have kc1 := blk_cell HM.out.a1 1; have kd0 := blk_cell HM.out.a0 0; have kd1 := blk_cell HM.out.a0 1)
   | (go_at_call 58; (with_reducible refine (lines_t ax ay bx by_ cx cy dx dy HL.out _).mono ?_); rintro e w_ ⟨g1, g2, rfl, hb⟩; replace HM := Aside0.mk (HM.out.lines hb); clear hb; (try clear ka0 ka1 kb0 kb1 kc0 kc1 kd0 kd1); have ka0 := blk_cell HM.out.a5 0; have ka1 := blk_cell HM.out.a5 1; have kb0 := blk_cell HM.out.a4 0; have kb1 := blk_cell HM.out.a4 1; have kc0 := blk_cell HM.out.a3 0; have kc1 := blk_cell HM.out.a3 1; have kd0 := blk_cell HM.out.a2 0; have kd1 := blk_cell HM.out.a2 1)
   | (go_at_call 59; (with_reducible refine (holds_calls g1 g2 _ _ _ _ _ _ _ _ _ HM.out.a1 HM.out.a0).mono ?_); rintro e w_ ⟨rfl, hb⟩; rw [HV1.out]; replace HM := Aside0.mk (HM.out.keep hb); clear hb)
   | (go_at_call 59; (with_reducible refine (holds_calls g2 g1 _ _ _ _ _ _ _ _ _ HM.out.a0 HM.out.a1).mono ?_); rintro e w_ ⟨rfl, hb⟩; rw [HV2.out]; replace HM := Aside0.mk (HM.out.keep hb); clear hb))
  go_ret
  exact ⟨by first | rfl | simp, HM.out.1⟩
def impl_CrossInner.f (a0_0 : Int) (a0_1 : Int) (a1_0 : Int) (a1_1 : Int) (a2_0 : Int) (a2_1 : Int) (a3_0 : Int) (a3_1 : Int) : Option (Bool) := some (ciB a0_0 a0_1 a1_0 a1_1 a2_0 a2_1 a3_0 a3_1)
theorem impl_CrossInner.calls (a0_0 : Int) (a0_1 : Int) (a1_0 : Int) (a1_1 : Int) (a2_0 : Int) (a2_1 : Int) (a3_0 : Int) (a3_1 : Int) (r : Bool) (w : World) (h : impl_CrossInner.f a0_0 a0_1 a1_0 a1_1 a2_0 a2_1 a3_0 a3_1 = some r) :
  Calls Try.prog 28 #[.agg #[.int .i64 a0_0, .int .i64 a0_1], .agg #[.int .i64 a1_0, .int .i64 a1_1], .agg #[.int .i64 a2_0, .int .i64 a2_1], .agg #[.int .i64 a3_0, .int .i64 a3_1]] w fun e w' => e = .returned (.bool r) ∧ Below w.heap.size w w' := by
 have h := Option.some.inj h
 unfold ciB at h
 subst h
 cases hl : lnOk a0_0 a0_1 a1_0 a1_1 a2_0 a2_1 a3_0 a3_1 with
 | false => exact inner_no _ _ _ _ _ _ _ _ hl w
 | true => exact inner_yes _ _ _ _ _ _ _ _ hl w
def spec_l6In.f (a0 : Int) (a1 : Int) (a2 : Int) : Option (Bool) := if a0 ≥ a1 then (some (decide (a0 ≤ a2))) else (some false)
set_option maxHeartbeats 8000000 in
set_option maxRecDepth 100000 in
theorem spec_l6In.calls (a0 : Int) (a1 : Int) (a2 : Int) (r : Bool) (w : World) (h : spec_l6In.f a0 a1 a2 = some r) :
  Calls Try.prog 36 #[.int .i64 a0, .int .i64 a1, .int .i64 a2] w fun e w' => e = .returned (.bool r) ∧ Drawn0 w w' := by
 have H : (if a0 ≥ a1 then (some (decide (a0 ≤ a2))) else (some false)) = some r := h
 clear h
 by_cases c4 : a0 ≥ a1
 ·rw [if_pos c4] at H
  have c4b0 : decide (a1 ≤ a0) = true := decide_eq_true c4
  clear c4
  obtain rfl := Option.some.inj H
  go_enter Try.func36, Try.ntmps36
  go_wp2
  go_ret
  exact ⟨by first | rfl | (simp; done) | (simp [*]; done), by repeat (first | exact Drawn0.refl _ | apply Drawn0.step)⟩
 ·rw [if_neg c4] at H
  have c4b0 : decide (a1 ≤ a0) = false := decide_eq_false c4
  clear c4
  obtain rfl := Option.some.inj H
  go_enter Try.func36, Try.ntmps36
  go_wp2
  go_ret
  exact ⟨by first | rfl | (simp; done) | (simp [*]; done), by repeat (first | exact Drawn0.refl _ | apply Drawn0.step)⟩
def spec_PointValid.f (a0_0 : Int) (a0_1 : Int) : Option (Bool) := (spec_l6In.f a0_0 (-10000) 10000).bind fun t264 => (if t264 = true then ((spec_l6In.f a0_1 (-10000) 10000).bind fun t265 => (some t265)) else (some false))
set_option maxHeartbeats 8000000 in
set_option maxRecDepth 100000 in
theorem spec_PointValid.calls (a0_0 : Int) (a0_1 : Int) (r : Bool) (w : World) (h : spec_PointValid.f a0_0 a0_1 = some r) :
  Calls Try.prog 86 #[.agg #[.int .i64 a0_0, .int .i64 a0_1]] w fun e w' => e = .returned (.bool r) ∧ Below w.heap.size w w' := by
 have hu33 := Try.underlying33
 have HB := Aside0.mk (Below.refl w.heap.size w)
 have H : ((spec_l6In.f a0_0 (-10000) 10000).bind fun t264 => (if t264 = true then ((spec_l6In.f a0_1 (-10000) 10000).bind fun t265 => (some t265)) else (some false))) = some r := h
 clear h
 replace H := Option.bind_eq_some_iff.mp H
 obtain ⟨t264, A20, H⟩ := H
 replace H : (if t264 = true then ((spec_l6In.f a0_1 (-10000) 10000).bind fun t265 => (some t265)) else (some false)) = some r := H
 have A2 := Aside0.mk A20
 clear A20
 by_cases c3 : t264 = true
 ·subst c3
  have H1 : ((spec_l6In.f a0_1 (-10000) 10000).bind fun t265 => (some t265)) = some r := by rw [if_pos rfl] at H; exact H
  clear H
  have H := H1
  clear H1
  replace H := Option.bind_eq_some_iff.mp H
  obtain ⟨t265, A40, H⟩ := H
  replace H : (some t265) = some r := H
  have A4 := Aside0.mk A40
  clear A40
  obtain rfl := Option.some.inj H
  go_enter Try.func86, Try.ntmps86
  go_wp2_with (first | ((with_reducible refine gate_dst (N := 1) rfl ?_); refine box_event ?hg (N := 1) ?hd (cs := #[.int .i64 a0_0, .int .i64 a0_1]) (t := 33) ?hr ?_; (case hd => rfl); (case hg => rfl); (case hr => first | (go_simp; done) | (go_simp; rfl)); intro gb263 hg w5 hbox hb; have n0_ := Aside0.mk (below_step (lb HB.out) hb); have n1_ := Aside0.mk (hbox); have n2_ := Aside0.mk ((by rw [hg]; exact (below_size (lb HB.out)) : w.heap.size ≤ gb263)); have n3_ := Aside0.mk ((by rw [hg]; exact (below_size (lb HB.out)) : w.heap.size ≤ gb263)); clear HB; have HB := n0_; have BK263 := n1_; have GW263 := n2_; have GE263 := n3_; clear n0_ n1_ n2_ n3_; clear hb hbox hg; have hcz6_0 : w5.cell? ⟨gb263, 0, none⟩ = some (.int .i64 a0_0) := (blk_cell BK263.out 0).trans rfl; have hcz6_1 : w5.cell? ⟨gb263, 1, none⟩ = some (.int .i64 a0_1) := (blk_cell BK263.out 1).trans rfl; have hfz6_0 := blk_frozen BK263.out 0; have hfz6_1 := blk_frozen BK263.out 1) | ((with_reducible refine gate_callee (f := 36) rfl ?_); refine goesL_ (some 5) rfl rfl Try.func36 (by kernel_rfl) rfl #[.int .i64 a0_0, .int .i64 (-10000), .int .i64 10000] rfl al ?_; (with_reducible refine (spec_l6In.calls a0_0 (-10000) 10000 true _ A2.out).mono ?_); rintro e w' ⟨rfl, ⟨nd, rfl⟩⟩; refine ⟨_, rfl, ?_⟩) | (go_at_call 36; (with_reducible refine (spec_l6In.calls a0_1 (-10000) 10000 t265 _ A4.out).mono ?_); rintro e w' ⟨rfl, ⟨nd, rfl⟩⟩))
  go_ret
  exact ⟨er, lb HB.out⟩
 ·replace c3 := Bool.eq_false_iff.mpr c3
  subst c3
  have H1 : (some false) = some r := by rw [if_neg (show ¬ (false = true) by decide)] at H; exact H
  clear H
  have H := H1
  clear H1
  obtain rfl := Option.some.inj H
  go_enter Try.func86, Try.ntmps86
  go_wp2_with (first | ((with_reducible refine gate_dst (N := 1) rfl ?_); refine box_event ?hg (N := 1) ?hd (cs := #[.int .i64 a0_0, .int .i64 a0_1]) (t := 33) ?hr ?_; (case hd => rfl); (case hg => rfl); (case hr => first | (go_simp; done) | (go_simp; rfl)); intro gb263 hg w7 hbox hb; have n0_ := Aside0.mk (below_step (lb HB.out) hb); have n1_ := Aside0.mk (hbox); have n2_ := Aside0.mk ((by rw [hg]; exact (below_size (lb HB.out)) : w.heap.size ≤ gb263)); have n3_ := Aside0.mk ((by rw [hg]; exact (below_size (lb HB.out)) : w.heap.size ≤ gb263)); clear HB; have HB := n0_; have BK263 := n1_; have GW263 := n2_; have GE263 := n3_; clear n0_ n1_ n2_ n3_; clear hb hbox hg; have hcz8_0 : w7.cell? ⟨gb263, 0, none⟩ = some (.int .i64 a0_0) := (blk_cell BK263.out 0).trans rfl; have hcz8_1 : w7.cell? ⟨gb263, 1, none⟩ = some (.int .i64 a0_1) := (blk_cell BK263.out 1).trans rfl; have hfz8_0 := blk_frozen BK263.out 0; have hfz8_1 := blk_frozen BK263.out 1) | ((with_reducible refine gate_callee (f := 36) rfl ?_); refine goesL_ (some 5) rfl rfl Try.func36 (by kernel_rfl) rfl #[.int .i64 a0_0, .int .i64 (-10000), .int .i64 10000] rfl al ?_; (with_reducible refine (spec_l6In.calls a0_0 (-10000) 10000 false _ A2.out).mono ?_); rintro e w' ⟨rfl, ⟨nd, rfl⟩⟩; refine ⟨_, rfl, ?_⟩))
  go_ret
  exact ⟨er, lb HB.out⟩
def spec_l34Ok.f (a0_0 : Int) (a0_1 : Int) (a1_0 : Int) (a1_1 : Int) (a2_0 : Int) (a2_1 : Int) (a3_0 : Int) (a3_1 : Int) : Option (Bool) := (spec_PointValid.f a0_0 a0_1).bind fun t270 => (if t270 = true then ((spec_PointValid.f a1_0 a1_1).bind fun t271 => (if t271 = true then ((spec_PointValid.f a2_0 a2_1).bind fun t272 => (if t272 = true then ((spec_PointValid.f a3_0 a3_1).bind fun t273 => (if t273 = true then (if (!(a0_0 == a1_0) || (!(a0_1 == a1_1))) = true then (some (!(a2_0 == a3_0) || (!(a2_1 == a3_1)))) else (some false)) else (some false))) else (some false))) else (some false))) else (some false))
set_option maxHeartbeats 8000000 in
set_option maxRecDepth 100000 in
theorem spec_l34Ok.calls (a0_0 : Int) (a0_1 : Int) (a1_0 : Int) (a1_1 : Int) (a2_0 : Int) (a2_1 : Int) (a3_0 : Int) (a3_1 : Int) (r : Bool) (w : World) (h : spec_l34Ok.f a0_0 a0_1 a1_0 a1_1 a2_0 a2_1 a3_0 a3_1 = some r) :
  Calls Try.prog 60 #[.agg #[.int .i64 a0_0, .int .i64 a0_1], .agg #[.int .i64 a1_0, .int .i64 a1_1], .agg #[.int .i64 a2_0, .int .i64 a2_1], .agg #[.int .i64 a3_0, .int .i64 a3_1]] w fun e w' => e = .returned (.bool r) ∧ Below w.heap.size w w' := by
 have hu33 := Try.underlying33
 have HB := Aside0.mk (Below.refl w.heap.size w)
 have H : ((spec_PointValid.f a0_0 a0_1).bind fun t270 => (if t270 = true then ((spec_PointValid.f a1_0 a1_1).bind fun t271 => (if t271 = true then ((spec_PointValid.f a2_0 a2_1).bind fun t272 => (if t272 = true then ((spec_PointValid.f a3_0 a3_1).bind fun t273 => (if t273 = true then (if (!(a0_0 == a1_0) || (!(a0_1 == a1_1))) = true then (some (!(a2_0 == a3_0) || (!(a2_1 == a3_1)))) else (some false)) else (some false))) else (some false))) else (some false))) else (some false))) = some r := h
 clear h
 replace H := Option.bind_eq_some_iff.mp H
 obtain ⟨t270, A50, H⟩ := H
 replace H : (if t270 = true then ((spec_PointValid.f a1_0 a1_1).bind fun t271 => (if t271 = true then ((spec_PointValid.f a2_0 a2_1).bind fun t272 => (if t272 = true then ((spec_PointValid.f a3_0 a3_1).bind fun t273 => (if t273 = true then (if (!(a0_0 == a1_0) || (!(a0_1 == a1_1))) = true then (some (!(a2_0 == a3_0) || (!(a2_1 == a3_1)))) else (some false)) else (some false))) else (some false))) else (some false))) else (some false)) = some r := H
 have A5 := Aside0.mk A50
 clear A50
 by_cases c6 : t270 = true
 ·subst c6
  have H1 : ((spec_PointValid.f a1_0 a1_1).bind fun t271 => (if t271 = true then ((spec_PointValid.f a2_0 a2_1).bind fun t272 => (if t272 = true then ((spec_PointValid.f a3_0 a3_1).bind fun t273 => (if t273 = true then (if (!(a0_0 == a1_0) || (!(a0_1 == a1_1))) = true then (some (!(a2_0 == a3_0) || (!(a2_1 == a3_1)))) else (some false)) else (some false))) else (some false))) else (some false))) = some r := by rw [if_pos rfl] at H; exact H
  clear H
  have H := H1
  clear H1
  replace H := Option.bind_eq_some_iff.mp H
  obtain ⟨t271, A70, H⟩ := H
  replace H : (if t271 = true then ((spec_PointValid.f a2_0 a2_1).bind fun t272 => (if t272 = true then ((spec_PointValid.f a3_0 a3_1).bind fun t273 => (if t273 = true then (if (!(a0_0 == a1_0) || (!(a0_1 == a1_1))) = true then (some (!(a2_0 == a3_0) || (!(a2_1 == a3_1)))) else (some false)) else (some false))) else (some false))) else (some false)) = some r := H
  have A7 := Aside0.mk A70
  clear A70
  by_cases c8 : t271 = true
  ·subst c8
   have H1 : ((spec_PointValid.f a2_0 a2_1).bind fun t272 => (if t272 = true then ((spec_PointValid.f a3_0 a3_1).bind fun t273 => (if t273 = true then (if (!(a0_0 == a1_0) || (!(a0_1 == a1_1))) = true then (some (!(a2_0 == a3_0) || (!(a2_1 == a3_1)))) else (some false)) else (some false))) else (some false))) = some r := by rw [if_pos rfl] at H; exact H
   clear H
   have H := H1
   clear H1
   replace H := Option.bind_eq_some_iff.mp H
   obtain ⟨t272, A90, H⟩ := H
   replace H : (if t272 = true then ((spec_PointValid.f a3_0 a3_1).bind fun t273 => (if t273 = true then (if (!(a0_0 == a1_0) || (!(a0_1 == a1_1))) = true then (some (!(a2_0 == a3_0) || (!(a2_1 == a3_1)))) else (some false)) else (some false))) else (some false)) = some r := H
   have A9 := Aside0.mk A90
   clear A90
   by_cases c10 : t272 = true
   ·subst c10
    have H1 : ((spec_PointValid.f a3_0 a3_1).bind fun t273 => (if t273 = true then (if (!(a0_0 == a1_0) || (!(a0_1 == a1_1))) = true then (some (!(a2_0 == a3_0) || (!(a2_1 == a3_1)))) else (some false)) else (some false))) = some r := by rw [if_pos rfl] at H; exact H
    clear H
    have H := H1
    clear H1
    replace H := Option.bind_eq_some_iff.mp H
    obtain ⟨t273, A110, H⟩ := H
    replace H : (if t273 = true then (if (!(a0_0 == a1_0) || (!(a0_1 == a1_1))) = true then (some (!(a2_0 == a3_0) || (!(a2_1 == a3_1)))) else (some false)) else (some false)) = some r := H
    have A11 := Aside0.mk A110
    clear A110
    by_cases c12 : t273 = true
    ·subst c12
     have H1 : (if (!(a0_0 == a1_0) || (!(a0_1 == a1_1))) = true then (some (!(a2_0 == a3_0) || (!(a2_1 == a3_1)))) else (some false)) = some r := by rw [if_pos rfl] at H; exact H
     clear H
     have H := H1
     clear H1
     by_cases c13 : (!(a0_0 == a1_0) || (!(a0_1 == a1_1))) = true
     ·rw [if_pos c13] at H
      have c13b0 : (!(a0_0 == a1_0) || (!(a0_1 == a1_1))) = true := c13
      clear c13
      obtain rfl := Option.some.inj H
      go_enter Try.func60, Try.ntmps60
      go_wp2_with (first | ((with_reducible refine gate_dst (N := 4) rfl ?_); refine box_event ?hg (N := 4) ?hd (cs := #[.int .i64 a0_0, .int .i64 a0_1]) (t := 33) ?hr ?_; (case hd => rfl); (case hg => rfl); (case hr => first | (go_simp; done) | (go_simp; rfl)); intro gb266 hg w14 hbox hb; have n0_ := Aside0.mk (below_step (lb HB.out) hb); have n1_ := Aside0.mk (hbox); have n2_ := Aside0.mk ((by rw [hg]; exact (below_size (lb HB.out)) : w.heap.size ≤ gb266)); have n3_ := Aside0.mk ((by rw [hg]; exact (below_size (lb HB.out)) : w.heap.size ≤ gb266)); clear HB; have HB := n0_; have BK266 := n1_; have GW266 := n2_; have GE266 := n3_; clear n0_ n1_ n2_ n3_; clear hb hbox hg) | ((with_reducible refine gate_dst (N := 5) rfl ?_); refine box_event ?hg (N := 5) ?hd (cs := #[.int .i64 a1_0, .int .i64 a1_1]) (t := 33) ?hr ?_; (case hd => rfl); (case hg => rfl); (case hr => first | (go_simp; done) | (go_simp; rfl)); intro gb267 hg w15 hbox hb; have n0_ := Aside0.mk (blk_below (bf BK266.out) hb); have n1_ := Aside0.mk (below_step (lb HB.out) hb); have n2_ := Aside0.mk (hbox); have n3_ := Aside0.mk ((by rw [hg]; exact (below_size (lb HB.out)) : w.heap.size ≤ gb267)); have n4_ := Aside0.mk ((by rw [hg]; exact (below_size (lb HB.out)) : w.heap.size ≤ gb267)); have n5_ := Aside0.mk ((by rw [hg]; exact Nat.ne_of_lt (blk_lt (bf BK266.out)) : gb266 ≠ gb267)); have n6_ := Aside0.mk ((by rw [hg]; exact Nat.ne_of_gt (blk_lt (bf BK266.out)) : gb267 ≠ gb266)); clear BK266; clear HB; have BK266 := n0_; have HB := n1_; have BK267 := n2_; have GW267 := n3_; have GE267 := n4_; have NB266_267 := n5_; have NB267_266 := n6_; clear n0_ n1_ n2_ n3_ n4_ n5_ n6_; clear hb hbox hg) | ((with_reducible refine gate_dst (N := 6) rfl ?_); refine box_event ?hg (N := 6) ?hd (cs := #[.int .i64 a2_0, .int .i64 a2_1]) (t := 33) ?hr ?_; (case hd => rfl); (case hg => rfl); (case hr => first | (go_simp; done) | (go_simp; rfl)); intro gb268 hg w16 hbox hb; have n0_ := Aside0.mk (blk_below (bf BK266.out) hb); have n1_ := Aside0.mk (blk_below (bf BK267.out) hb); have n2_ := Aside0.mk (below_step (lb HB.out) hb); have n3_ := Aside0.mk (hbox); have n4_ := Aside0.mk ((by rw [hg]; exact (below_size (lb HB.out)) : w.heap.size ≤ gb268)); have n5_ := Aside0.mk ((by rw [hg]; exact (below_size (lb HB.out)) : w.heap.size ≤ gb268)); have n6_ := Aside0.mk ((by rw [hg]; exact Nat.ne_of_lt (blk_lt (bf BK266.out)) : gb266 ≠ gb268)); have n7_ := Aside0.mk ((by rw [hg]; exact Nat.ne_of_gt (blk_lt (bf BK266.out)) : gb268 ≠ gb266)); have n8_ := Aside0.mk ((by rw [hg]; exact Nat.ne_of_lt (blk_lt (bf BK267.out)) : gb267 ≠ gb268)); have n9_ := Aside0.mk ((by rw [hg]; exact Nat.ne_of_gt (blk_lt (bf BK267.out)) : gb268 ≠ gb267)); clear BK266; clear BK267; clear HB; have BK266 := n0_; have BK267 := n1_; have HB := n2_; have BK268 := n3_; have GW268 := n4_; have GE268 := n5_; have NB266_268 := n6_; have NB268_266 := n7_; have NB267_268 := n8_; have NB268_267 := n9_; clear n0_ n1_ n2_ n3_ n4_ n5_ n6_ n7_ n8_ n9_; clear hb hbox hg) | ((with_reducible refine gate_dst (N := 7) rfl ?_); refine box_event ?hg (N := 7) ?hd (cs := #[.int .i64 a3_0, .int .i64 a3_1]) (t := 33) ?hr ?_; (case hd => rfl); (case hg => rfl); (case hr => first | (go_simp; done) | (go_simp; rfl)); intro gb269 hg w17 hbox hb; have n0_ := Aside0.mk (blk_below (bf BK266.out) hb); have n1_ := Aside0.mk (blk_below (bf BK267.out) hb); have n2_ := Aside0.mk (blk_below (bf BK268.out) hb); have n3_ := Aside0.mk (below_step (lb HB.out) hb); have n4_ := Aside0.mk (hbox); have n5_ := Aside0.mk ((by rw [hg]; exact (below_size (lb HB.out)) : w.heap.size ≤ gb269)); have n6_ := Aside0.mk ((by rw [hg]; exact (below_size (lb HB.out)) : w.heap.size ≤ gb269)); have n7_ := Aside0.mk ((by rw [hg]; exact Nat.ne_of_lt (blk_lt (bf BK266.out)) : gb266 ≠ gb269)); have n8_ := Aside0.mk ((by rw [hg]; exact Nat.ne_of_gt (blk_lt (bf BK266.out)) : gb269 ≠ gb266)); have n9_ := Aside0.mk ((by rw [hg]; exact Nat.ne_of_lt (blk_lt (bf BK267.out)) : gb267 ≠ gb269)); have n10_ := Aside0.mk ((by rw [hg]; exact Nat.ne_of_gt (blk_lt (bf BK267.out)) : gb269 ≠ gb267)); have n11_ := Aside0.mk ((by rw [hg]; exact Nat.ne_of_lt (blk_lt (bf BK268.out)) : gb268 ≠ gb269)); have n12_ := Aside0.mk ((by rw [hg]; exact Nat.ne_of_gt (blk_lt (bf BK268.out)) : gb269 ≠ gb268)); clear BK266; clear BK267; clear BK268; clear HB; have BK266 := n0_; have BK267 := n1_; have BK268 := n2_; have HB := n3_; have BK269 := n4_; have GW269 := n5_; have GE269 := n6_; have NB266_269 := n7_; have NB269_266 := n8_; have NB267_269 := n9_; have NB269_267 := n10_; have NB268_269 := n11_; have NB269_268 := n12_; clear n0_ n1_ n2_ n3_ n4_ n5_ n6_ n7_ n8_ n9_ n10_ n11_ n12_; clear hb hbox hg; have hnb18 := NB266_267.out; have hnc18 := NB267_266.out; have hnb19 := NB266_268.out; have hnc19 := NB268_266.out; have hnb20 := NB266_269.out; have hnc20 := NB269_266.out; have hcz21_0 : w17.cell? ⟨gb266, 0, none⟩ = some (.int .i64 a0_0) := (blk_cell BK266.out 0).trans rfl; have hcz21_1 : w17.cell? ⟨gb266, 1, none⟩ = some (.int .i64 a0_1) := (blk_cell BK266.out 1).trans rfl; have hfz21_0 := blk_frozen BK266.out 0; have hfz21_1 := blk_frozen BK266.out 1) | ((with_reducible refine gate_callee (f := 86) rfl ?_); refine goesL_ (some 10) rfl rfl Try.func86 (by kernel_rfl) rfl #[.agg #[.int .i64 a0_0, .int .i64 a0_1]] rfl al ?_; (with_reducible refine (spec_PointValid.calls a0_0 a0_1 true _ A5.out).mono ?_); rintro e w22 ⟨rfl, hb⟩; refine ⟨_, rfl, ?_⟩; have n0_ := Aside0.mk (blk_below (bf BK266.out) hb); have n1_ := Aside0.mk (blk_below (bf BK267.out) hb); have n2_ := Aside0.mk (blk_below (bf BK268.out) hb); have n3_ := Aside0.mk (blk_below (bf BK269.out) hb); have n4_ := Aside0.mk (below_step (lb HB.out) hb); clear BK266; clear BK267; clear BK268; clear BK269; clear HB; have BK266 := n0_; have BK267 := n1_; have BK268 := n2_; have BK269 := n3_; have HB := n4_; clear n0_ n1_ n2_ n3_ n4_; (try clear hb); (try clear hb2); (try clear hk); (try clear hi); have hnb23 := NB267_268.out; have hnc23 := NB268_267.out; have hnb24 := NB267_269.out; have hnc24 := NB269_267.out; have hcz25_0 : w22.cell? ⟨gb267, 0, none⟩ = some (.int .i64 a1_0) := (blk_cell BK267.out 0).trans rfl; have hcz25_1 : w22.cell? ⟨gb267, 1, none⟩ = some (.int .i64 a1_1) := (blk_cell BK267.out 1).trans rfl; have hfz25_0 := blk_frozen BK267.out 0; have hfz25_1 := blk_frozen BK267.out 1) | (go_at_call 86; (with_reducible refine (spec_PointValid.calls a1_0 a1_1 true _ A7.out).mono ?_); rintro e w26 ⟨rfl, hb⟩; have n0_ := Aside0.mk (blk_below (bf BK266.out) hb); have n1_ := Aside0.mk (blk_below (bf BK267.out) hb); have n2_ := Aside0.mk (blk_below (bf BK268.out) hb); have n3_ := Aside0.mk (blk_below (bf BK269.out) hb); have n4_ := Aside0.mk (below_step (lb HB.out) hb); clear BK266; clear BK267; clear BK268; clear BK269; clear HB; have BK266 := n0_; have BK267 := n1_; have BK268 := n2_; have BK269 := n3_; have HB := n4_; clear n0_ n1_ n2_ n3_ n4_; (try clear hb); (try clear hb2); (try clear hk); (try clear hi); have hnb27 := NB268_269.out; have hnc27 := NB269_268.out; have hcz28_0 : w26.cell? ⟨gb268, 0, none⟩ = some (.int .i64 a2_0) := (blk_cell BK268.out 0).trans rfl; have hcz28_1 : w26.cell? ⟨gb268, 1, none⟩ = some (.int .i64 a2_1) := (blk_cell BK268.out 1).trans rfl; have hfz28_0 := blk_frozen BK268.out 0; have hfz28_1 := blk_frozen BK268.out 1) | (go_at_call 86; (with_reducible refine (spec_PointValid.calls a2_0 a2_1 true _ A9.out).mono ?_); rintro e w29 ⟨rfl, hb⟩; have n0_ := Aside0.mk (blk_below (bf BK266.out) hb); have n1_ := Aside0.mk (blk_below (bf BK267.out) hb); have n2_ := Aside0.mk (blk_below (bf BK268.out) hb); have n3_ := Aside0.mk (blk_below (bf BK269.out) hb); have n4_ := Aside0.mk (below_step (lb HB.out) hb); clear BK266; clear BK267; clear BK268; clear BK269; clear HB; have BK266 := n0_; have BK267 := n1_; have BK268 := n2_; have BK269 := n3_; have HB := n4_; clear n0_ n1_ n2_ n3_ n4_; (try clear hb); (try clear hb2); (try clear hk); (try clear hi); have hcz30_0 : w29.cell? ⟨gb269, 0, none⟩ = some (.int .i64 a3_0) := (blk_cell BK269.out 0).trans rfl; have hcz30_1 : w29.cell? ⟨gb269, 1, none⟩ = some (.int .i64 a3_1) := (blk_cell BK269.out 1).trans rfl; have hfz30_0 := blk_frozen BK269.out 0; have hfz30_1 := blk_frozen BK269.out 1) | (go_at_call 86; (with_reducible refine (spec_PointValid.calls a3_0 a3_1 true _ A11.out).mono ?_); rintro e w31 ⟨rfl, hb⟩; have n0_ := Aside0.mk (blk_below (bf BK266.out) hb); have n1_ := Aside0.mk (blk_below (bf BK267.out) hb); have n2_ := Aside0.mk (blk_below (bf BK268.out) hb); have n3_ := Aside0.mk (blk_below (bf BK269.out) hb); have n4_ := Aside0.mk (below_step (lb HB.out) hb); clear BK266; clear BK267; clear BK268; clear BK269; clear HB; have BK266 := n0_; have BK267 := n1_; have BK268 := n2_; have BK269 := n3_; have HB := n4_; clear n0_ n1_ n2_ n3_ n4_; (try clear hb); (try clear hb2); (try clear hk); (try clear hi); have hcz32_0 : w31.cell? ⟨gb266, 0, none⟩ = some (.int .i64 a0_0) := (blk_cell BK266.out 0).trans rfl; have hcz32_1 : w31.cell? ⟨gb266, 1, none⟩ = some (.int .i64 a0_1) := (blk_cell BK266.out 1).trans rfl; have hfz32_0 := blk_frozen BK266.out 0; have hfz32_1 := blk_frozen BK266.out 1; have hcz33_0 : w31.cell? ⟨gb267, 0, none⟩ = some (.int .i64 a1_0) := (blk_cell BK267.out 0).trans rfl; have hcz33_1 : w31.cell? ⟨gb267, 1, none⟩ = some (.int .i64 a1_1) := (blk_cell BK267.out 1).trans rfl; have hfz33_0 := blk_frozen BK267.out 0; have hfz33_1 := blk_frozen BK267.out 1; have hcz34_0 : w31.cell? ⟨gb268, 0, none⟩ = some (.int .i64 a2_0) := (blk_cell BK268.out 0).trans rfl; have hcz34_1 : w31.cell? ⟨gb268, 1, none⟩ = some (.int .i64 a2_1) := (blk_cell BK268.out 1).trans rfl; have hfz34_0 := blk_frozen BK268.out 0; have hfz34_1 := blk_frozen BK268.out 1; have hcz35_0 : w31.cell? ⟨gb269, 0, none⟩ = some (.int .i64 a3_0) := (blk_cell BK269.out 0).trans rfl; have hcz35_1 : w31.cell? ⟨gb269, 1, none⟩ = some (.int .i64 a3_1) := (blk_cell BK269.out 1).trans rfl; have hfz35_0 := blk_frozen BK269.out 0; have hfz35_1 := blk_frozen BK269.out 1))
      go_ret
      exact ⟨er, lb HB.out⟩
     ·rw [if_neg c13] at H
      have c13b0 : (!(a0_0 == a1_0) || (!(a0_1 == a1_1))) = false := by simpa using c13
      clear c13
      obtain rfl := Option.some.inj H
      go_enter Try.func60, Try.ntmps60
      go_wp2_with (first | ((with_reducible refine gate_dst (N := 4) rfl ?_); refine box_event ?hg (N := 4) ?hd (cs := #[.int .i64 a0_0, .int .i64 a0_1]) (t := 33) ?hr ?_; (case hd => rfl); (case hg => rfl); (case hr => first | (go_simp; done) | (go_simp; rfl)); intro gb266 hg w36 hbox hb; have n0_ := Aside0.mk (below_step (lb HB.out) hb); have n1_ := Aside0.mk (hbox); have n2_ := Aside0.mk ((by rw [hg]; exact (below_size (lb HB.out)) : w.heap.size ≤ gb266)); have n3_ := Aside0.mk ((by rw [hg]; exact (below_size (lb HB.out)) : w.heap.size ≤ gb266)); clear HB; have HB := n0_; have BK266 := n1_; have GW266 := n2_; have GE266 := n3_; clear n0_ n1_ n2_ n3_; clear hb hbox hg) | ((with_reducible refine gate_dst (N := 5) rfl ?_); refine box_event ?hg (N := 5) ?hd (cs := #[.int .i64 a1_0, .int .i64 a1_1]) (t := 33) ?hr ?_; (case hd => rfl); (case hg => rfl); (case hr => first | (go_simp; done) | (go_simp; rfl)); intro gb267 hg w37 hbox hb; have n0_ := Aside0.mk (blk_below (bf BK266.out) hb); have n1_ := Aside0.mk (below_step (lb HB.out) hb); have n2_ := Aside0.mk (hbox); have n3_ := Aside0.mk ((by rw [hg]; exact (below_size (lb HB.out)) : w.heap.size ≤ gb267)); have n4_ := Aside0.mk ((by rw [hg]; exact (below_size (lb HB.out)) : w.heap.size ≤ gb267)); have n5_ := Aside0.mk ((by rw [hg]; exact Nat.ne_of_lt (blk_lt (bf BK266.out)) : gb266 ≠ gb267)); have n6_ := Aside0.mk ((by rw [hg]; exact Nat.ne_of_gt (blk_lt (bf BK266.out)) : gb267 ≠ gb266)); clear BK266; clear HB; have BK266 := n0_; have HB := n1_; have BK267 := n2_; have GW267 := n3_; have GE267 := n4_; have NB266_267 := n5_; have NB267_266 := n6_; clear n0_ n1_ n2_ n3_ n4_ n5_ n6_; clear hb hbox hg) | ((with_reducible refine gate_dst (N := 6) rfl ?_); refine box_event ?hg (N := 6) ?hd (cs := #[.int .i64 a2_0, .int .i64 a2_1]) (t := 33) ?hr ?_; (case hd => rfl); (case hg => rfl); (case hr => first | (go_simp; done) | (go_simp; rfl)); intro gb268 hg w38 hbox hb; have n0_ := Aside0.mk (blk_below (bf BK266.out) hb); have n1_ := Aside0.mk (blk_below (bf BK267.out) hb); have n2_ := Aside0.mk (below_step (lb HB.out) hb); have n3_ := Aside0.mk (hbox); have n4_ := Aside0.mk ((by rw [hg]; exact (below_size (lb HB.out)) : w.heap.size ≤ gb268)); have n5_ := Aside0.mk ((by rw [hg]; exact (below_size (lb HB.out)) : w.heap.size ≤ gb268)); have n6_ := Aside0.mk ((by rw [hg]; exact Nat.ne_of_lt (blk_lt (bf BK266.out)) : gb266 ≠ gb268)); have n7_ := Aside0.mk ((by rw [hg]; exact Nat.ne_of_gt (blk_lt (bf BK266.out)) : gb268 ≠ gb266)); have n8_ := Aside0.mk ((by rw [hg]; exact Nat.ne_of_lt (blk_lt (bf BK267.out)) : gb267 ≠ gb268)); have n9_ := Aside0.mk ((by rw [hg]; exact Nat.ne_of_gt (blk_lt (bf BK267.out)) : gb268 ≠ gb267)); clear BK266; clear BK267; clear HB; have BK266 := n0_; have BK267 := n1_; have HB := n2_; have BK268 := n3_; have GW268 := n4_; have GE268 := n5_; have NB266_268 := n6_; have NB268_266 := n7_; have NB267_268 := n8_; have NB268_267 := n9_; clear n0_ n1_ n2_ n3_ n4_ n5_ n6_ n7_ n8_ n9_; clear hb hbox hg) | ((with_reducible refine gate_dst (N := 7) rfl ?_); refine box_event ?hg (N := 7) ?hd (cs := #[.int .i64 a3_0, .int .i64 a3_1]) (t := 33) ?hr ?_; (case hd => rfl); (case hg => rfl); (case hr => first | (go_simp; done) | (go_simp; rfl)); intro gb269 hg w39 hbox hb; have n0_ := Aside0.mk (blk_below (bf BK266.out) hb); have n1_ := Aside0.mk (blk_below (bf BK267.out) hb); have n2_ := Aside0.mk (blk_below (bf BK268.out) hb); have n3_ := Aside0.mk (below_step (lb HB.out) hb); have n4_ := Aside0.mk (hbox); have n5_ := Aside0.mk ((by rw [hg]; exact (below_size (lb HB.out)) : w.heap.size ≤ gb269)); have n6_ := Aside0.mk ((by rw [hg]; exact (below_size (lb HB.out)) : w.heap.size ≤ gb269)); have n7_ := Aside0.mk ((by rw [hg]; exact Nat.ne_of_lt (blk_lt (bf BK266.out)) : gb266 ≠ gb269)); have n8_ := Aside0.mk ((by rw [hg]; exact Nat.ne_of_gt (blk_lt (bf BK266.out)) : gb269 ≠ gb266)); have n9_ := Aside0.mk ((by rw [hg]; exact Nat.ne_of_lt (blk_lt (bf BK267.out)) : gb267 ≠ gb269)); have n10_ := Aside0.mk ((by rw [hg]; exact Nat.ne_of_gt (blk_lt (bf BK267.out)) : gb269 ≠ gb267)); have n11_ := Aside0.mk ((by rw [hg]; exact Nat.ne_of_lt (blk_lt (bf BK268.out)) : gb268 ≠ gb269)); have n12_ := Aside0.mk ((by rw [hg]; exact Nat.ne_of_gt (blk_lt (bf BK268.out)) : gb269 ≠ gb268)); clear BK266; clear BK267; clear BK268; clear HB; have BK266 := n0_; have BK267 := n1_; have BK268 := n2_; have HB := n3_; have BK269 := n4_; have GW269 := n5_; have GE269 := n6_; have NB266_269 := n7_; have NB269_266 := n8_; have NB267_269 := n9_; have NB269_267 := n10_; have NB268_269 := n11_; have NB269_268 := n12_; clear n0_ n1_ n2_ n3_ n4_ n5_ n6_ n7_ n8_ n9_ n10_ n11_ n12_; clear hb hbox hg; have hnb40 := NB266_267.out; have hnc40 := NB267_266.out; have hnb41 := NB266_268.out; have hnc41 := NB268_266.out; have hnb42 := NB266_269.out; have hnc42 := NB269_266.out; have hcz43_0 : w39.cell? ⟨gb266, 0, none⟩ = some (.int .i64 a0_0) := (blk_cell BK266.out 0).trans rfl; have hcz43_1 : w39.cell? ⟨gb266, 1, none⟩ = some (.int .i64 a0_1) := (blk_cell BK266.out 1).trans rfl; have hfz43_0 := blk_frozen BK266.out 0; have hfz43_1 := blk_frozen BK266.out 1) | ((with_reducible refine gate_callee (f := 86) rfl ?_); refine goesL_ (some 10) rfl rfl Try.func86 (by kernel_rfl) rfl #[.agg #[.int .i64 a0_0, .int .i64 a0_1]] rfl al ?_; (with_reducible refine (spec_PointValid.calls a0_0 a0_1 true _ A5.out).mono ?_); rintro e w44 ⟨rfl, hb⟩; refine ⟨_, rfl, ?_⟩; have n0_ := Aside0.mk (blk_below (bf BK266.out) hb); have n1_ := Aside0.mk (blk_below (bf BK267.out) hb); have n2_ := Aside0.mk (blk_below (bf BK268.out) hb); have n3_ := Aside0.mk (blk_below (bf BK269.out) hb); have n4_ := Aside0.mk (below_step (lb HB.out) hb); clear BK266; clear BK267; clear BK268; clear BK269; clear HB; have BK266 := n0_; have BK267 := n1_; have BK268 := n2_; have BK269 := n3_; have HB := n4_; clear n0_ n1_ n2_ n3_ n4_; (try clear hb); (try clear hb2); (try clear hk); (try clear hi); have hnb45 := NB267_268.out; have hnc45 := NB268_267.out; have hnb46 := NB267_269.out; have hnc46 := NB269_267.out; have hcz47_0 : w44.cell? ⟨gb267, 0, none⟩ = some (.int .i64 a1_0) := (blk_cell BK267.out 0).trans rfl; have hcz47_1 : w44.cell? ⟨gb267, 1, none⟩ = some (.int .i64 a1_1) := (blk_cell BK267.out 1).trans rfl; have hfz47_0 := blk_frozen BK267.out 0; have hfz47_1 := blk_frozen BK267.out 1) | (go_at_call 86; (with_reducible refine (spec_PointValid.calls a1_0 a1_1 true _ A7.out).mono ?_); rintro e w48 ⟨rfl, hb⟩; have n0_ := Aside0.mk (blk_below (bf BK266.out) hb); have n1_ := Aside0.mk (blk_below (bf BK267.out) hb); have n2_ := Aside0.mk (blk_below (bf BK268.out) hb); have n3_ := Aside0.mk (blk_below (bf BK269.out) hb); have n4_ := Aside0.mk (below_step (lb HB.out) hb); clear BK266; clear BK267; clear BK268; clear BK269; clear HB; have BK266 := n0_; have BK267 := n1_; have BK268 := n2_; have BK269 := n3_; have HB := n4_; clear n0_ n1_ n2_ n3_ n4_; (try clear hb); (try clear hb2); (try clear hk); (try clear hi); have hnb49 := NB268_269.out; have hnc49 := NB269_268.out; have hcz50_0 : w48.cell? ⟨gb268, 0, none⟩ = some (.int .i64 a2_0) := (blk_cell BK268.out 0).trans rfl; have hcz50_1 : w48.cell? ⟨gb268, 1, none⟩ = some (.int .i64 a2_1) := (blk_cell BK268.out 1).trans rfl; have hfz50_0 := blk_frozen BK268.out 0; have hfz50_1 := blk_frozen BK268.out 1) | (go_at_call 86; (with_reducible refine (spec_PointValid.calls a2_0 a2_1 true _ A9.out).mono ?_); rintro e w51 ⟨rfl, hb⟩; have n0_ := Aside0.mk (blk_below (bf BK266.out) hb); have n1_ := Aside0.mk (blk_below (bf BK267.out) hb); have n2_ := Aside0.mk (blk_below (bf BK268.out) hb); have n3_ := Aside0.mk (blk_below (bf BK269.out) hb); have n4_ := Aside0.mk (below_step (lb HB.out) hb); clear BK266; clear BK267; clear BK268; clear BK269; clear HB; have BK266 := n0_; have BK267 := n1_; have BK268 := n2_; have BK269 := n3_; have HB := n4_; clear n0_ n1_ n2_ n3_ n4_; (try clear hb); (try clear hb2); (try clear hk); (try clear hi); have hcz52_0 : w51.cell? ⟨gb269, 0, none⟩ = some (.int .i64 a3_0) := (blk_cell BK269.out 0).trans rfl; have hcz52_1 : w51.cell? ⟨gb269, 1, none⟩ = some (.int .i64 a3_1) := (blk_cell BK269.out 1).trans rfl; have hfz52_0 := blk_frozen BK269.out 0; have hfz52_1 := blk_frozen BK269.out 1) | (go_at_call 86; (with_reducible refine (spec_PointValid.calls a3_0 a3_1 true _ A11.out).mono ?_); rintro e w53 ⟨rfl, hb⟩; have n0_ := Aside0.mk (blk_below (bf BK266.out) hb); have n1_ := Aside0.mk (blk_below (bf BK267.out) hb); have n2_ := Aside0.mk (blk_below (bf BK268.out) hb); have n3_ := Aside0.mk (blk_below (bf BK269.out) hb); have n4_ := Aside0.mk (below_step (lb HB.out) hb); clear BK266; clear BK267; clear BK268; clear BK269; clear HB; have BK266 := n0_; have BK267 := n1_; have BK268 := n2_; have BK269 := n3_; have HB := n4_; clear n0_ n1_ n2_ n3_ n4_; (try clear hb); (try clear hb2); (try clear hk); (try clear hi); have hcz54_0 : w53.cell? ⟨gb266, 0, none⟩ = some (.int .i64 a0_0) := (blk_cell BK266.out 0).trans rfl; have hcz54_1 : w53.cell? ⟨gb266, 1, none⟩ = some (.int .i64 a0_1) := (blk_cell BK266.out 1).trans rfl; have hfz54_0 := blk_frozen BK266.out 0; have hfz54_1 := blk_frozen BK266.out 1; have hcz55_0 : w53.cell? ⟨gb267, 0, none⟩ = some (.int .i64 a1_0) := (blk_cell BK267.out 0).trans rfl; have hcz55_1 : w53.cell? ⟨gb267, 1, none⟩ = some (.int .i64 a1_1) := (blk_cell BK267.out 1).trans rfl; have hfz55_0 := blk_frozen BK267.out 0; have hfz55_1 := blk_frozen BK267.out 1))
      go_ret
      exact ⟨er, lb HB.out⟩
    ·replace c12 := Bool.eq_false_iff.mpr c12
     subst c12
     have H1 : (some false) = some r := by rw [if_neg (show ¬ (false = true) by decide)] at H; exact H
     clear H
     have H := H1
     clear H1
     obtain rfl := Option.some.inj H
     go_enter Try.func60, Try.ntmps60
     go_wp2_with (first | ((with_reducible refine gate_dst (N := 4) rfl ?_); refine box_event ?hg (N := 4) ?hd (cs := #[.int .i64 a0_0, .int .i64 a0_1]) (t := 33) ?hr ?_; (case hd => rfl); (case hg => rfl); (case hr => first | (go_simp; done) | (go_simp; rfl)); intro gb266 hg w56 hbox hb; have n0_ := Aside0.mk (below_step (lb HB.out) hb); have n1_ := Aside0.mk (hbox); have n2_ := Aside0.mk ((by rw [hg]; exact (below_size (lb HB.out)) : w.heap.size ≤ gb266)); have n3_ := Aside0.mk ((by rw [hg]; exact (below_size (lb HB.out)) : w.heap.size ≤ gb266)); clear HB; have HB := n0_; have BK266 := n1_; have GW266 := n2_; have GE266 := n3_; clear n0_ n1_ n2_ n3_; clear hb hbox hg) | ((with_reducible refine gate_dst (N := 5) rfl ?_); refine box_event ?hg (N := 5) ?hd (cs := #[.int .i64 a1_0, .int .i64 a1_1]) (t := 33) ?hr ?_; (case hd => rfl); (case hg => rfl); (case hr => first | (go_simp; done) | (go_simp; rfl)); intro gb267 hg w57 hbox hb; have n0_ := Aside0.mk (blk_below (bf BK266.out) hb); have n1_ := Aside0.mk (below_step (lb HB.out) hb); have n2_ := Aside0.mk (hbox); have n3_ := Aside0.mk ((by rw [hg]; exact (below_size (lb HB.out)) : w.heap.size ≤ gb267)); have n4_ := Aside0.mk ((by rw [hg]; exact (below_size (lb HB.out)) : w.heap.size ≤ gb267)); have n5_ := Aside0.mk ((by rw [hg]; exact Nat.ne_of_lt (blk_lt (bf BK266.out)) : gb266 ≠ gb267)); have n6_ := Aside0.mk ((by rw [hg]; exact Nat.ne_of_gt (blk_lt (bf BK266.out)) : gb267 ≠ gb266)); clear BK266; clear HB; have BK266 := n0_; have HB := n1_; have BK267 := n2_; have GW267 := n3_; have GE267 := n4_; have NB266_267 := n5_; have NB267_266 := n6_; clear n0_ n1_ n2_ n3_ n4_ n5_ n6_; clear hb hbox hg) | ((with_reducible refine gate_dst (N := 6) rfl ?_); refine box_event ?hg (N := 6) ?hd (cs := #[.int .i64 a2_0, .int .i64 a2_1]) (t := 33) ?hr ?_; (case hd => rfl); (case hg => rfl); (case hr => first | (go_simp; done) | (go_simp; rfl)); intro gb268 hg w58 hbox hb; have n0_ := Aside0.mk (blk_below (bf BK266.out) hb); have n1_ := Aside0.mk (blk_below (bf BK267.out) hb); have n2_ := Aside0.mk (below_step (lb HB.out) hb); have n3_ := Aside0.mk (hbox); have n4_ := Aside0.mk ((by rw [hg]; exact (below_size (lb HB.out)) : w.heap.size ≤ gb268)); have n5_ := Aside0.mk ((by rw [hg]; exact (below_size (lb HB.out)) : w.heap.size ≤ gb268)); have n6_ := Aside0.mk ((by rw [hg]; exact Nat.ne_of_lt (blk_lt (bf BK266.out)) : gb266 ≠ gb268)); have n7_ := Aside0.mk ((by rw [hg]; exact Nat.ne_of_gt (blk_lt (bf BK266.out)) : gb268 ≠ gb266)); have n8_ := Aside0.mk ((by rw [hg]; exact Nat.ne_of_lt (blk_lt (bf BK267.out)) : gb267 ≠ gb268)); have n9_ := Aside0.mk ((by rw [hg]; exact Nat.ne_of_gt (blk_lt (bf BK267.out)) : gb268 ≠ gb267)); clear BK266; clear BK267; clear HB; have BK266 := n0_; have BK267 := n1_; have HB := n2_; have BK268 := n3_; have GW268 := n4_; have GE268 := n5_; have NB266_268 := n6_; have NB268_266 := n7_; have NB267_268 := n8_; have NB268_267 := n9_; clear n0_ n1_ n2_ n3_ n4_ n5_ n6_ n7_ n8_ n9_; clear hb hbox hg) | ((with_reducible refine gate_dst (N := 7) rfl ?_); refine box_event ?hg (N := 7) ?hd (cs := #[.int .i64 a3_0, .int .i64 a3_1]) (t := 33) ?hr ?_; (case hd => rfl); (case hg => rfl); (case hr => first | (go_simp; done) | (go_simp; rfl)); intro gb269 hg w59 hbox hb; have n0_ := Aside0.mk (blk_below (bf BK266.out) hb); have n1_ := Aside0.mk (blk_below (bf BK267.out) hb); have n2_ := Aside0.mk (blk_below (bf BK268.out) hb); have n3_ := Aside0.mk (below_step (lb HB.out) hb); have n4_ := Aside0.mk (hbox); have n5_ := Aside0.mk ((by rw [hg]; exact (below_size (lb HB.out)) : w.heap.size ≤ gb269)); have n6_ := Aside0.mk ((by rw [hg]; exact (below_size (lb HB.out)) : w.heap.size ≤ gb269)); have n7_ := Aside0.mk ((by rw [hg]; exact Nat.ne_of_lt (blk_lt (bf BK266.out)) : gb266 ≠ gb269)); have n8_ := Aside0.mk ((by rw [hg]; exact Nat.ne_of_gt (blk_lt (bf BK266.out)) : gb269 ≠ gb266)); have n9_ := Aside0.mk ((by rw [hg]; exact Nat.ne_of_lt (blk_lt (bf BK267.out)) : gb267 ≠ gb269)); have n10_ := Aside0.mk ((by rw [hg]; exact Nat.ne_of_gt (blk_lt (bf BK267.out)) : gb269 ≠ gb267)); have n11_ := Aside0.mk ((by rw [hg]; exact Nat.ne_of_lt (blk_lt (bf BK268.out)) : gb268 ≠ gb269)); have n12_ := Aside0.mk ((by rw [hg]; exact Nat.ne_of_gt (blk_lt (bf BK268.out)) : gb269 ≠ gb268)); clear BK266; clear BK267; clear BK268; clear HB; have BK266 := n0_; have BK267 := n1_; have BK268 := n2_; have HB := n3_; have BK269 := n4_; have GW269 := n5_; have GE269 := n6_; have NB266_269 := n7_; have NB269_266 := n8_; have NB267_269 := n9_; have NB269_267 := n10_; have NB268_269 := n11_; have NB269_268 := n12_; clear n0_ n1_ n2_ n3_ n4_ n5_ n6_ n7_ n8_ n9_ n10_ n11_ n12_; clear hb hbox hg; have hnb60 := NB266_267.out; have hnc60 := NB267_266.out; have hnb61 := NB266_268.out; have hnc61 := NB268_266.out; have hnb62 := NB266_269.out; have hnc62 := NB269_266.out; have hcz63_0 : w59.cell? ⟨gb266, 0, none⟩ = some (.int .i64 a0_0) := (blk_cell BK266.out 0).trans rfl; have hcz63_1 : w59.cell? ⟨gb266, 1, none⟩ = some (.int .i64 a0_1) := (blk_cell BK266.out 1).trans rfl; have hfz63_0 := blk_frozen BK266.out 0; have hfz63_1 := blk_frozen BK266.out 1) | ((with_reducible refine gate_callee (f := 86) rfl ?_); refine goesL_ (some 10) rfl rfl Try.func86 (by kernel_rfl) rfl #[.agg #[.int .i64 a0_0, .int .i64 a0_1]] rfl al ?_; (with_reducible refine (spec_PointValid.calls a0_0 a0_1 true _ A5.out).mono ?_); rintro e w64 ⟨rfl, hb⟩; refine ⟨_, rfl, ?_⟩; have n0_ := Aside0.mk (blk_below (bf BK266.out) hb); have n1_ := Aside0.mk (blk_below (bf BK267.out) hb); have n2_ := Aside0.mk (blk_below (bf BK268.out) hb); have n3_ := Aside0.mk (blk_below (bf BK269.out) hb); have n4_ := Aside0.mk (below_step (lb HB.out) hb); clear BK266; clear BK267; clear BK268; clear BK269; clear HB; have BK266 := n0_; have BK267 := n1_; have BK268 := n2_; have BK269 := n3_; have HB := n4_; clear n0_ n1_ n2_ n3_ n4_; (try clear hb); (try clear hb2); (try clear hk); (try clear hi); have hnb65 := NB267_268.out; have hnc65 := NB268_267.out; have hnb66 := NB267_269.out; have hnc66 := NB269_267.out; have hcz67_0 : w64.cell? ⟨gb267, 0, none⟩ = some (.int .i64 a1_0) := (blk_cell BK267.out 0).trans rfl; have hcz67_1 : w64.cell? ⟨gb267, 1, none⟩ = some (.int .i64 a1_1) := (blk_cell BK267.out 1).trans rfl; have hfz67_0 := blk_frozen BK267.out 0; have hfz67_1 := blk_frozen BK267.out 1) | (go_at_call 86; (with_reducible refine (spec_PointValid.calls a1_0 a1_1 true _ A7.out).mono ?_); rintro e w68 ⟨rfl, hb⟩; have n0_ := Aside0.mk (blk_below (bf BK266.out) hb); have n1_ := Aside0.mk (blk_below (bf BK267.out) hb); have n2_ := Aside0.mk (blk_below (bf BK268.out) hb); have n3_ := Aside0.mk (blk_below (bf BK269.out) hb); have n4_ := Aside0.mk (below_step (lb HB.out) hb); clear BK266; clear BK267; clear BK268; clear BK269; clear HB; have BK266 := n0_; have BK267 := n1_; have BK268 := n2_; have BK269 := n3_; have HB := n4_; clear n0_ n1_ n2_ n3_ n4_; (try clear hb); (try clear hb2); (try clear hk); (try clear hi); have hnb69 := NB268_269.out; have hnc69 := NB269_268.out; have hcz70_0 : w68.cell? ⟨gb268, 0, none⟩ = some (.int .i64 a2_0) := (blk_cell BK268.out 0).trans rfl; have hcz70_1 : w68.cell? ⟨gb268, 1, none⟩ = some (.int .i64 a2_1) := (blk_cell BK268.out 1).trans rfl; have hfz70_0 := blk_frozen BK268.out 0; have hfz70_1 := blk_frozen BK268.out 1) | (go_at_call 86; (with_reducible refine (spec_PointValid.calls a2_0 a2_1 true _ A9.out).mono ?_); rintro e w71 ⟨rfl, hb⟩; have n0_ := Aside0.mk (blk_below (bf BK266.out) hb); have n1_ := Aside0.mk (blk_below (bf BK267.out) hb); have n2_ := Aside0.mk (blk_below (bf BK268.out) hb); have n3_ := Aside0.mk (blk_below (bf BK269.out) hb); have n4_ := Aside0.mk (below_step (lb HB.out) hb); clear BK266; clear BK267; clear BK268; clear BK269; clear HB; have BK266 := n0_; have BK267 := n1_; have BK268 := n2_; have BK269 := n3_; have HB := n4_; clear n0_ n1_ n2_ n3_ n4_; (try clear hb); (try clear hb2); (try clear hk); (try clear hi); have hcz72_0 : w71.cell? ⟨gb269, 0, none⟩ = some (.int .i64 a3_0) := (blk_cell BK269.out 0).trans rfl; have hcz72_1 : w71.cell? ⟨gb269, 1, none⟩ = some (.int .i64 a3_1) := (blk_cell BK269.out 1).trans rfl; have hfz72_0 := blk_frozen BK269.out 0; have hfz72_1 := blk_frozen BK269.out 1) | (go_at_call 86; (with_reducible refine (spec_PointValid.calls a3_0 a3_1 false _ A11.out).mono ?_); rintro e w73 ⟨rfl, hb⟩; have n0_ := Aside0.mk (blk_below (bf BK266.out) hb); have n1_ := Aside0.mk (blk_below (bf BK267.out) hb); have n2_ := Aside0.mk (blk_below (bf BK268.out) hb); have n3_ := Aside0.mk (blk_below (bf BK269.out) hb); have n4_ := Aside0.mk (below_step (lb HB.out) hb); clear BK266; clear BK267; clear BK268; clear BK269; clear HB; have BK266 := n0_; have BK267 := n1_; have BK268 := n2_; have BK269 := n3_; have HB := n4_; clear n0_ n1_ n2_ n3_ n4_; (try clear hb); (try clear hb2); (try clear hk); (try clear hi)))
     go_ret
     exact ⟨er, lb HB.out⟩
   ·replace c10 := Bool.eq_false_iff.mpr c10
    subst c10
    have H1 : (some false) = some r := by rw [if_neg (show ¬ (false = true) by decide)] at H; exact H
    clear H
    have H := H1
    clear H1
    obtain rfl := Option.some.inj H
    go_enter Try.func60, Try.ntmps60
    go_wp2_with (first | ((with_reducible refine gate_dst (N := 4) rfl ?_); refine box_event ?hg (N := 4) ?hd (cs := #[.int .i64 a0_0, .int .i64 a0_1]) (t := 33) ?hr ?_; (case hd => rfl); (case hg => rfl); (case hr => first | (go_simp; done) | (go_simp; rfl)); intro gb266 hg w74 hbox hb; have n0_ := Aside0.mk (below_step (lb HB.out) hb); have n1_ := Aside0.mk (hbox); have n2_ := Aside0.mk ((by rw [hg]; exact (below_size (lb HB.out)) : w.heap.size ≤ gb266)); have n3_ := Aside0.mk ((by rw [hg]; exact (below_size (lb HB.out)) : w.heap.size ≤ gb266)); clear HB; have HB := n0_; have BK266 := n1_; have GW266 := n2_; have GE266 := n3_; clear n0_ n1_ n2_ n3_; clear hb hbox hg) | ((with_reducible refine gate_dst (N := 5) rfl ?_); refine box_event ?hg (N := 5) ?hd (cs := #[.int .i64 a1_0, .int .i64 a1_1]) (t := 33) ?hr ?_; (case hd => rfl); (case hg => rfl); (case hr => first | (go_simp; done) | (go_simp; rfl)); intro gb267 hg w75 hbox hb; have n0_ := Aside0.mk (blk_below (bf BK266.out) hb); have n1_ := Aside0.mk (below_step (lb HB.out) hb); have n2_ := Aside0.mk (hbox); have n3_ := Aside0.mk ((by rw [hg]; exact (below_size (lb HB.out)) : w.heap.size ≤ gb267)); have n4_ := Aside0.mk ((by rw [hg]; exact (below_size (lb HB.out)) : w.heap.size ≤ gb267)); have n5_ := Aside0.mk ((by rw [hg]; exact Nat.ne_of_lt (blk_lt (bf BK266.out)) : gb266 ≠ gb267)); have n6_ := Aside0.mk ((by rw [hg]; exact Nat.ne_of_gt (blk_lt (bf BK266.out)) : gb267 ≠ gb266)); clear BK266; clear HB; have BK266 := n0_; have HB := n1_; have BK267 := n2_; have GW267 := n3_; have GE267 := n4_; have NB266_267 := n5_; have NB267_266 := n6_; clear n0_ n1_ n2_ n3_ n4_ n5_ n6_; clear hb hbox hg) | ((with_reducible refine gate_dst (N := 6) rfl ?_); refine box_event ?hg (N := 6) ?hd (cs := #[.int .i64 a2_0, .int .i64 a2_1]) (t := 33) ?hr ?_; (case hd => rfl); (case hg => rfl); (case hr => first | (go_simp; done) | (go_simp; rfl)); intro gb268 hg w76 hbox hb; have n0_ := Aside0.mk (blk_below (bf BK266.out) hb); have n1_ := Aside0.mk (blk_below (bf BK267.out) hb); have n2_ := Aside0.mk (below_step (lb HB.out) hb); have n3_ := Aside0.mk (hbox); have n4_ := Aside0.mk ((by rw [hg]; exact (below_size (lb HB.out)) : w.heap.size ≤ gb268)); have n5_ := Aside0.mk ((by rw [hg]; exact (below_size (lb HB.out)) : w.heap.size ≤ gb268)); have n6_ := Aside0.mk ((by rw [hg]; exact Nat.ne_of_lt (blk_lt (bf BK266.out)) : gb266 ≠ gb268)); have n7_ := Aside0.mk ((by rw [hg]; exact Nat.ne_of_gt (blk_lt (bf BK266.out)) : gb268 ≠ gb266)); have n8_ := Aside0.mk ((by rw [hg]; exact Nat.ne_of_lt (blk_lt (bf BK267.out)) : gb267 ≠ gb268)); have n9_ := Aside0.mk ((by rw [hg]; exact Nat.ne_of_gt (blk_lt (bf BK267.out)) : gb268 ≠ gb267)); clear BK266; clear BK267; clear HB; have BK266 := n0_; have BK267 := n1_; have HB := n2_; have BK268 := n3_; have GW268 := n4_; have GE268 := n5_; have NB266_268 := n6_; have NB268_266 := n7_; have NB267_268 := n8_; have NB268_267 := n9_; clear n0_ n1_ n2_ n3_ n4_ n5_ n6_ n7_ n8_ n9_; clear hb hbox hg) | ((with_reducible refine gate_dst (N := 7) rfl ?_); refine box_event ?hg (N := 7) ?hd (cs := #[.int .i64 a3_0, .int .i64 a3_1]) (t := 33) ?hr ?_; (case hd => rfl); (case hg => rfl); (case hr => first | (go_simp; done) | (go_simp; rfl)); intro gb269 hg w77 hbox hb; have n0_ := Aside0.mk (blk_below (bf BK266.out) hb); have n1_ := Aside0.mk (blk_below (bf BK267.out) hb); have n2_ := Aside0.mk (blk_below (bf BK268.out) hb); have n3_ := Aside0.mk (below_step (lb HB.out) hb); have n4_ := Aside0.mk (hbox); have n5_ := Aside0.mk ((by rw [hg]; exact (below_size (lb HB.out)) : w.heap.size ≤ gb269)); have n6_ := Aside0.mk ((by rw [hg]; exact (below_size (lb HB.out)) : w.heap.size ≤ gb269)); have n7_ := Aside0.mk ((by rw [hg]; exact Nat.ne_of_lt (blk_lt (bf BK266.out)) : gb266 ≠ gb269)); have n8_ := Aside0.mk ((by rw [hg]; exact Nat.ne_of_gt (blk_lt (bf BK266.out)) : gb269 ≠ gb266)); have n9_ := Aside0.mk ((by rw [hg]; exact Nat.ne_of_lt (blk_lt (bf BK267.out)) : gb267 ≠ gb269)); have n10_ := Aside0.mk ((by rw [hg]; exact Nat.ne_of_gt (blk_lt (bf BK267.out)) : gb269 ≠ gb267)); have n11_ := Aside0.mk ((by rw [hg]; exact Nat.ne_of_lt (blk_lt (bf BK268.out)) : gb268 ≠ gb269)); have n12_ := Aside0.mk ((by rw [hg]; exact Nat.ne_of_gt (blk_lt (bf BK268.out)) : gb269 ≠ gb268)); clear BK266; clear BK267; clear BK268; clear HB; have BK266 := n0_; have BK267 := n1_; have BK268 := n2_; have HB := n3_; have BK269 := n4_; have GW269 := n5_; have GE269 := n6_; have NB266_269 := n7_; have NB269_266 := n8_; have NB267_269 := n9_; have NB269_267 := n10_; have NB268_269 := n11_; have NB269_268 := n12_; clear n0_ n1_ n2_ n3_ n4_ n5_ n6_ n7_ n8_ n9_ n10_ n11_ n12_; clear hb hbox hg; have hnb78 := NB266_267.out; have hnc78 := NB267_266.out; have hnb79 := NB266_268.out; have hnc79 := NB268_266.out; have hnb80 := NB266_269.out; have hnc80 := NB269_266.out; have hcz81_0 : w77.cell? ⟨gb266, 0, none⟩ = some (.int .i64 a0_0) := (blk_cell BK266.out 0).trans rfl; have hcz81_1 : w77.cell? ⟨gb266, 1, none⟩ = some (.int .i64 a0_1) := (blk_cell BK266.out 1).trans rfl; have hfz81_0 := blk_frozen BK266.out 0; have hfz81_1 := blk_frozen BK266.out 1) | ((with_reducible refine gate_callee (f := 86) rfl ?_); refine goesL_ (some 10) rfl rfl Try.func86 (by kernel_rfl) rfl #[.agg #[.int .i64 a0_0, .int .i64 a0_1]] rfl al ?_; (with_reducible refine (spec_PointValid.calls a0_0 a0_1 true _ A5.out).mono ?_); rintro e w82 ⟨rfl, hb⟩; refine ⟨_, rfl, ?_⟩; have n0_ := Aside0.mk (blk_below (bf BK266.out) hb); have n1_ := Aside0.mk (blk_below (bf BK267.out) hb); have n2_ := Aside0.mk (blk_below (bf BK268.out) hb); have n3_ := Aside0.mk (blk_below (bf BK269.out) hb); have n4_ := Aside0.mk (below_step (lb HB.out) hb); clear BK266; clear BK267; clear BK268; clear BK269; clear HB; have BK266 := n0_; have BK267 := n1_; have BK268 := n2_; have BK269 := n3_; have HB := n4_; clear n0_ n1_ n2_ n3_ n4_; (try clear hb); (try clear hb2); (try clear hk); (try clear hi); have hnb83 := NB267_268.out; have hnc83 := NB268_267.out; have hnb84 := NB267_269.out; have hnc84 := NB269_267.out; have hcz85_0 : w82.cell? ⟨gb267, 0, none⟩ = some (.int .i64 a1_0) := (blk_cell BK267.out 0).trans rfl; have hcz85_1 : w82.cell? ⟨gb267, 1, none⟩ = some (.int .i64 a1_1) := (blk_cell BK267.out 1).trans rfl; have hfz85_0 := blk_frozen BK267.out 0; have hfz85_1 := blk_frozen BK267.out 1) | (go_at_call 86; (with_reducible refine (spec_PointValid.calls a1_0 a1_1 true _ A7.out).mono ?_); rintro e w86 ⟨rfl, hb⟩; have n0_ := Aside0.mk (blk_below (bf BK266.out) hb); have n1_ := Aside0.mk (blk_below (bf BK267.out) hb); have n2_ := Aside0.mk (blk_below (bf BK268.out) hb); have n3_ := Aside0.mk (blk_below (bf BK269.out) hb); have n4_ := Aside0.mk (below_step (lb HB.out) hb); clear BK266; clear BK267; clear BK268; clear BK269; clear HB; have BK266 := n0_; have BK267 := n1_; have BK268 := n2_; have BK269 := n3_; have HB := n4_; clear n0_ n1_ n2_ n3_ n4_; (try clear hb); (try clear hb2); (try clear hk); (try clear hi); have hnb87 := NB268_269.out; have hnc87 := NB269_268.out; have hcz88_0 : w86.cell? ⟨gb268, 0, none⟩ = some (.int .i64 a2_0) := (blk_cell BK268.out 0).trans rfl; have hcz88_1 : w86.cell? ⟨gb268, 1, none⟩ = some (.int .i64 a2_1) := (blk_cell BK268.out 1).trans rfl; have hfz88_0 := blk_frozen BK268.out 0; have hfz88_1 := blk_frozen BK268.out 1) | (go_at_call 86; (with_reducible refine (spec_PointValid.calls a2_0 a2_1 false _ A9.out).mono ?_); rintro e w89 ⟨rfl, hb⟩; have n0_ := Aside0.mk (blk_below (bf BK266.out) hb); have n1_ := Aside0.mk (blk_below (bf BK267.out) hb); have n2_ := Aside0.mk (blk_below (bf BK268.out) hb); have n3_ := Aside0.mk (blk_below (bf BK269.out) hb); have n4_ := Aside0.mk (below_step (lb HB.out) hb); clear BK266; clear BK267; clear BK268; clear BK269; clear HB; have BK266 := n0_; have BK267 := n1_; have BK268 := n2_; have BK269 := n3_; have HB := n4_; clear n0_ n1_ n2_ n3_ n4_; (try clear hb); (try clear hb2); (try clear hk); (try clear hi)))
    go_ret
    exact ⟨er, lb HB.out⟩
  ·replace c8 := Bool.eq_false_iff.mpr c8
   subst c8
   have H1 : (some false) = some r := by rw [if_neg (show ¬ (false = true) by decide)] at H; exact H
   clear H
   have H := H1
   clear H1
   obtain rfl := Option.some.inj H
   go_enter Try.func60, Try.ntmps60
   go_wp2_with (first | ((with_reducible refine gate_dst (N := 4) rfl ?_); refine box_event ?hg (N := 4) ?hd (cs := #[.int .i64 a0_0, .int .i64 a0_1]) (t := 33) ?hr ?_; (case hd => rfl); (case hg => rfl); (case hr => first | (go_simp; done) | (go_simp; rfl)); intro gb266 hg w90 hbox hb; have n0_ := Aside0.mk (below_step (lb HB.out) hb); have n1_ := Aside0.mk (hbox); have n2_ := Aside0.mk ((by rw [hg]; exact (below_size (lb HB.out)) : w.heap.size ≤ gb266)); have n3_ := Aside0.mk ((by rw [hg]; exact (below_size (lb HB.out)) : w.heap.size ≤ gb266)); clear HB; have HB := n0_; have BK266 := n1_; have GW266 := n2_; have GE266 := n3_; clear n0_ n1_ n2_ n3_; clear hb hbox hg) | ((with_reducible refine gate_dst (N := 5) rfl ?_); refine box_event ?hg (N := 5) ?hd (cs := #[.int .i64 a1_0, .int .i64 a1_1]) (t := 33) ?hr ?_; (case hd => rfl); (case hg => rfl); (case hr => first | (go_simp; done) | (go_simp; rfl)); intro gb267 hg w91 hbox hb; have n0_ := Aside0.mk (blk_below (bf BK266.out) hb); have n1_ := Aside0.mk (below_step (lb HB.out) hb); have n2_ := Aside0.mk (hbox); have n3_ := Aside0.mk ((by rw [hg]; exact (below_size (lb HB.out)) : w.heap.size ≤ gb267)); have n4_ := Aside0.mk ((by rw [hg]; exact (below_size (lb HB.out)) : w.heap.size ≤ gb267)); have n5_ := Aside0.mk ((by rw [hg]; exact Nat.ne_of_lt (blk_lt (bf BK266.out)) : gb266 ≠ gb267)); have n6_ := Aside0.mk ((by rw [hg]; exact Nat.ne_of_gt (blk_lt (bf BK266.out)) : gb267 ≠ gb266)); clear BK266; clear HB; have BK266 := n0_; have HB := n1_; have BK267 := n2_; have GW267 := n3_; have GE267 := n4_; have NB266_267 := n5_; have NB267_266 := n6_; clear n0_ n1_ n2_ n3_ n4_ n5_ n6_; clear hb hbox hg) | ((with_reducible refine gate_dst (N := 6) rfl ?_); refine box_event ?hg (N := 6) ?hd (cs := #[.int .i64 a2_0, .int .i64 a2_1]) (t := 33) ?hr ?_; (case hd => rfl); (case hg => rfl); (case hr => first | (go_simp; done) | (go_simp; rfl)); intro gb268 hg w92 hbox hb; have n0_ := Aside0.mk (blk_below (bf BK266.out) hb); have n1_ := Aside0.mk (blk_below (bf BK267.out) hb); have n2_ := Aside0.mk (below_step (lb HB.out) hb); have n3_ := Aside0.mk (hbox); have n4_ := Aside0.mk ((by rw [hg]; exact (below_size (lb HB.out)) : w.heap.size ≤ gb268)); have n5_ := Aside0.mk ((by rw [hg]; exact (below_size (lb HB.out)) : w.heap.size ≤ gb268)); have n6_ := Aside0.mk ((by rw [hg]; exact Nat.ne_of_lt (blk_lt (bf BK266.out)) : gb266 ≠ gb268)); have n7_ := Aside0.mk ((by rw [hg]; exact Nat.ne_of_gt (blk_lt (bf BK266.out)) : gb268 ≠ gb266)); have n8_ := Aside0.mk ((by rw [hg]; exact Nat.ne_of_lt (blk_lt (bf BK267.out)) : gb267 ≠ gb268)); have n9_ := Aside0.mk ((by rw [hg]; exact Nat.ne_of_gt (blk_lt (bf BK267.out)) : gb268 ≠ gb267)); clear BK266; clear BK267; clear HB; have BK266 := n0_; have BK267 := n1_; have HB := n2_; have BK268 := n3_; have GW268 := n4_; have GE268 := n5_; have NB266_268 := n6_; have NB268_266 := n7_; have NB267_268 := n8_; have NB268_267 := n9_; clear n0_ n1_ n2_ n3_ n4_ n5_ n6_ n7_ n8_ n9_; clear hb hbox hg) | ((with_reducible refine gate_dst (N := 7) rfl ?_); refine box_event ?hg (N := 7) ?hd (cs := #[.int .i64 a3_0, .int .i64 a3_1]) (t := 33) ?hr ?_; (case hd => rfl); (case hg => rfl); (case hr => first | (go_simp; done) | (go_simp; rfl)); intro gb269 hg w93 hbox hb; have n0_ := Aside0.mk (blk_below (bf BK266.out) hb); have n1_ := Aside0.mk (blk_below (bf BK267.out) hb); have n2_ := Aside0.mk (blk_below (bf BK268.out) hb); have n3_ := Aside0.mk (below_step (lb HB.out) hb); have n4_ := Aside0.mk (hbox); have n5_ := Aside0.mk ((by rw [hg]; exact (below_size (lb HB.out)) : w.heap.size ≤ gb269)); have n6_ := Aside0.mk ((by rw [hg]; exact (below_size (lb HB.out)) : w.heap.size ≤ gb269)); have n7_ := Aside0.mk ((by rw [hg]; exact Nat.ne_of_lt (blk_lt (bf BK266.out)) : gb266 ≠ gb269)); have n8_ := Aside0.mk ((by rw [hg]; exact Nat.ne_of_gt (blk_lt (bf BK266.out)) : gb269 ≠ gb266)); have n9_ := Aside0.mk ((by rw [hg]; exact Nat.ne_of_lt (blk_lt (bf BK267.out)) : gb267 ≠ gb269)); have n10_ := Aside0.mk ((by rw [hg]; exact Nat.ne_of_gt (blk_lt (bf BK267.out)) : gb269 ≠ gb267)); have n11_ := Aside0.mk ((by rw [hg]; exact Nat.ne_of_lt (blk_lt (bf BK268.out)) : gb268 ≠ gb269)); have n12_ := Aside0.mk ((by rw [hg]; exact Nat.ne_of_gt (blk_lt (bf BK268.out)) : gb269 ≠ gb268)); clear BK266; clear BK267; clear BK268; clear HB; have BK266 := n0_; have BK267 := n1_; have BK268 := n2_; have HB := n3_; have BK269 := n4_; have GW269 := n5_; have GE269 := n6_; have NB266_269 := n7_; have NB269_266 := n8_; have NB267_269 := n9_; have NB269_267 := n10_; have NB268_269 := n11_; have NB269_268 := n12_; clear n0_ n1_ n2_ n3_ n4_ n5_ n6_ n7_ n8_ n9_ n10_ n11_ n12_; clear hb hbox hg; have hnb94 := NB266_267.out; have hnc94 := NB267_266.out; have hnb95 := NB266_268.out; have hnc95 := NB268_266.out; have hnb96 := NB266_269.out; have hnc96 := NB269_266.out; have hcz97_0 : w93.cell? ⟨gb266, 0, none⟩ = some (.int .i64 a0_0) := (blk_cell BK266.out 0).trans rfl; have hcz97_1 : w93.cell? ⟨gb266, 1, none⟩ = some (.int .i64 a0_1) := (blk_cell BK266.out 1).trans rfl; have hfz97_0 := blk_frozen BK266.out 0; have hfz97_1 := blk_frozen BK266.out 1) | ((with_reducible refine gate_callee (f := 86) rfl ?_); refine goesL_ (some 10) rfl rfl Try.func86 (by kernel_rfl) rfl #[.agg #[.int .i64 a0_0, .int .i64 a0_1]] rfl al ?_; (with_reducible refine (spec_PointValid.calls a0_0 a0_1 true _ A5.out).mono ?_); rintro e w98 ⟨rfl, hb⟩; refine ⟨_, rfl, ?_⟩; have n0_ := Aside0.mk (blk_below (bf BK266.out) hb); have n1_ := Aside0.mk (blk_below (bf BK267.out) hb); have n2_ := Aside0.mk (blk_below (bf BK268.out) hb); have n3_ := Aside0.mk (blk_below (bf BK269.out) hb); have n4_ := Aside0.mk (below_step (lb HB.out) hb); clear BK266; clear BK267; clear BK268; clear BK269; clear HB; have BK266 := n0_; have BK267 := n1_; have BK268 := n2_; have BK269 := n3_; have HB := n4_; clear n0_ n1_ n2_ n3_ n4_; (try clear hb); (try clear hb2); (try clear hk); (try clear hi); have hnb99 := NB267_268.out; have hnc99 := NB268_267.out; have hnb100 := NB267_269.out; have hnc100 := NB269_267.out; have hcz101_0 : w98.cell? ⟨gb267, 0, none⟩ = some (.int .i64 a1_0) := (blk_cell BK267.out 0).trans rfl; have hcz101_1 : w98.cell? ⟨gb267, 1, none⟩ = some (.int .i64 a1_1) := (blk_cell BK267.out 1).trans rfl; have hfz101_0 := blk_frozen BK267.out 0; have hfz101_1 := blk_frozen BK267.out 1) | (go_at_call 86; (with_reducible refine (spec_PointValid.calls a1_0 a1_1 false _ A7.out).mono ?_); rintro e w102 ⟨rfl, hb⟩; have n0_ := Aside0.mk (blk_below (bf BK266.out) hb); have n1_ := Aside0.mk (blk_below (bf BK267.out) hb); have n2_ := Aside0.mk (blk_below (bf BK268.out) hb); have n3_ := Aside0.mk (blk_below (bf BK269.out) hb); have n4_ := Aside0.mk (below_step (lb HB.out) hb); clear BK266; clear BK267; clear BK268; clear BK269; clear HB; have BK266 := n0_; have BK267 := n1_; have BK268 := n2_; have BK269 := n3_; have HB := n4_; clear n0_ n1_ n2_ n3_ n4_; (try clear hb); (try clear hb2); (try clear hk); (try clear hi)))
   go_ret
   exact ⟨er, lb HB.out⟩
 ·replace c6 := Bool.eq_false_iff.mpr c6
  subst c6
  have H1 : (some false) = some r := by rw [if_neg (show ¬ (false = true) by decide)] at H; exact H
  clear H
  have H := H1
  clear H1
  obtain rfl := Option.some.inj H
  go_enter Try.func60, Try.ntmps60
  go_wp2_with (first | ((with_reducible refine gate_dst (N := 4) rfl ?_); refine box_event ?hg (N := 4) ?hd (cs := #[.int .i64 a0_0, .int .i64 a0_1]) (t := 33) ?hr ?_; (case hd => rfl); (case hg => rfl); (case hr => first | (go_simp; done) | (go_simp; rfl)); intro gb266 hg w103 hbox hb; have n0_ := Aside0.mk (below_step (lb HB.out) hb); have n1_ := Aside0.mk (hbox); have n2_ := Aside0.mk ((by rw [hg]; exact (below_size (lb HB.out)) : w.heap.size ≤ gb266)); have n3_ := Aside0.mk ((by rw [hg]; exact (below_size (lb HB.out)) : w.heap.size ≤ gb266)); clear HB; have HB := n0_; have BK266 := n1_; have GW266 := n2_; have GE266 := n3_; clear n0_ n1_ n2_ n3_; clear hb hbox hg) | ((with_reducible refine gate_dst (N := 5) rfl ?_); refine box_event ?hg (N := 5) ?hd (cs := #[.int .i64 a1_0, .int .i64 a1_1]) (t := 33) ?hr ?_; (case hd => rfl); (case hg => rfl); (case hr => first | (go_simp; done) | (go_simp; rfl)); intro gb267 hg w104 hbox hb; have n0_ := Aside0.mk (blk_below (bf BK266.out) hb); have n1_ := Aside0.mk (below_step (lb HB.out) hb); have n2_ := Aside0.mk (hbox); have n3_ := Aside0.mk ((by rw [hg]; exact (below_size (lb HB.out)) : w.heap.size ≤ gb267)); have n4_ := Aside0.mk ((by rw [hg]; exact (below_size (lb HB.out)) : w.heap.size ≤ gb267)); have n5_ := Aside0.mk ((by rw [hg]; exact Nat.ne_of_lt (blk_lt (bf BK266.out)) : gb266 ≠ gb267)); have n6_ := Aside0.mk ((by rw [hg]; exact Nat.ne_of_gt (blk_lt (bf BK266.out)) : gb267 ≠ gb266)); clear BK266; clear HB; have BK266 := n0_; have HB := n1_; have BK267 := n2_; have GW267 := n3_; have GE267 := n4_; have NB266_267 := n5_; have NB267_266 := n6_; clear n0_ n1_ n2_ n3_ n4_ n5_ n6_; clear hb hbox hg) | ((with_reducible refine gate_dst (N := 6) rfl ?_); refine box_event ?hg (N := 6) ?hd (cs := #[.int .i64 a2_0, .int .i64 a2_1]) (t := 33) ?hr ?_; (case hd => rfl); (case hg => rfl); (case hr => first | (go_simp; done) | (go_simp; rfl)); intro gb268 hg w105 hbox hb; have n0_ := Aside0.mk (blk_below (bf BK266.out) hb); have n1_ := Aside0.mk (blk_below (bf BK267.out) hb); have n2_ := Aside0.mk (below_step (lb HB.out) hb); have n3_ := Aside0.mk (hbox); have n4_ := Aside0.mk ((by rw [hg]; exact (below_size (lb HB.out)) : w.heap.size ≤ gb268)); have n5_ := Aside0.mk ((by rw [hg]; exact (below_size (lb HB.out)) : w.heap.size ≤ gb268)); have n6_ := Aside0.mk ((by rw [hg]; exact Nat.ne_of_lt (blk_lt (bf BK266.out)) : gb266 ≠ gb268)); have n7_ := Aside0.mk ((by rw [hg]; exact Nat.ne_of_gt (blk_lt (bf BK266.out)) : gb268 ≠ gb266)); have n8_ := Aside0.mk ((by rw [hg]; exact Nat.ne_of_lt (blk_lt (bf BK267.out)) : gb267 ≠ gb268)); have n9_ := Aside0.mk ((by rw [hg]; exact Nat.ne_of_gt (blk_lt (bf BK267.out)) : gb268 ≠ gb267)); clear BK266; clear BK267; clear HB; have BK266 := n0_; have BK267 := n1_; have HB := n2_; have BK268 := n3_; have GW268 := n4_; have GE268 := n5_; have NB266_268 := n6_; have NB268_266 := n7_; have NB267_268 := n8_; have NB268_267 := n9_; clear n0_ n1_ n2_ n3_ n4_ n5_ n6_ n7_ n8_ n9_; clear hb hbox hg) | ((with_reducible refine gate_dst (N := 7) rfl ?_); refine box_event ?hg (N := 7) ?hd (cs := #[.int .i64 a3_0, .int .i64 a3_1]) (t := 33) ?hr ?_; (case hd => rfl); (case hg => rfl); (case hr => first | (go_simp; done) | (go_simp; rfl)); intro gb269 hg w106 hbox hb; have n0_ := Aside0.mk (blk_below (bf BK266.out) hb); have n1_ := Aside0.mk (blk_below (bf BK267.out) hb); have n2_ := Aside0.mk (blk_below (bf BK268.out) hb); have n3_ := Aside0.mk (below_step (lb HB.out) hb); have n4_ := Aside0.mk (hbox); have n5_ := Aside0.mk ((by rw [hg]; exact (below_size (lb HB.out)) : w.heap.size ≤ gb269)); have n6_ := Aside0.mk ((by rw [hg]; exact (below_size (lb HB.out)) : w.heap.size ≤ gb269)); have n7_ := Aside0.mk ((by rw [hg]; exact Nat.ne_of_lt (blk_lt (bf BK266.out)) : gb266 ≠ gb269)); have n8_ := Aside0.mk ((by rw [hg]; exact Nat.ne_of_gt (blk_lt (bf BK266.out)) : gb269 ≠ gb266)); have n9_ := Aside0.mk ((by rw [hg]; exact Nat.ne_of_lt (blk_lt (bf BK267.out)) : gb267 ≠ gb269)); have n10_ := Aside0.mk ((by rw [hg]; exact Nat.ne_of_gt (blk_lt (bf BK267.out)) : gb269 ≠ gb267)); have n11_ := Aside0.mk ((by rw [hg]; exact Nat.ne_of_lt (blk_lt (bf BK268.out)) : gb268 ≠ gb269)); have n12_ := Aside0.mk ((by rw [hg]; exact Nat.ne_of_gt (blk_lt (bf BK268.out)) : gb269 ≠ gb268)); clear BK266; clear BK267; clear BK268; clear HB; have BK266 := n0_; have BK267 := n1_; have BK268 := n2_; have HB := n3_; have BK269 := n4_; have GW269 := n5_; have GE269 := n6_; have NB266_269 := n7_; have NB269_266 := n8_; have NB267_269 := n9_; have NB269_267 := n10_; have NB268_269 := n11_; have NB269_268 := n12_; clear n0_ n1_ n2_ n3_ n4_ n5_ n6_ n7_ n8_ n9_ n10_ n11_ n12_; clear hb hbox hg; have hnb107 := NB266_267.out; have hnc107 := NB267_266.out; have hnb108 := NB266_268.out; have hnc108 := NB268_266.out; have hnb109 := NB266_269.out; have hnc109 := NB269_266.out; have hcz110_0 : w106.cell? ⟨gb266, 0, none⟩ = some (.int .i64 a0_0) := (blk_cell BK266.out 0).trans rfl; have hcz110_1 : w106.cell? ⟨gb266, 1, none⟩ = some (.int .i64 a0_1) := (blk_cell BK266.out 1).trans rfl; have hfz110_0 := blk_frozen BK266.out 0; have hfz110_1 := blk_frozen BK266.out 1) | ((with_reducible refine gate_callee (f := 86) rfl ?_); refine goesL_ (some 10) rfl rfl Try.func86 (by kernel_rfl) rfl #[.agg #[.int .i64 a0_0, .int .i64 a0_1]] rfl al ?_; (with_reducible refine (spec_PointValid.calls a0_0 a0_1 false _ A5.out).mono ?_); rintro e w111 ⟨rfl, hb⟩; refine ⟨_, rfl, ?_⟩; have n0_ := Aside0.mk (blk_below (bf BK266.out) hb); have n1_ := Aside0.mk (blk_below (bf BK267.out) hb); have n2_ := Aside0.mk (blk_below (bf BK268.out) hb); have n3_ := Aside0.mk (blk_below (bf BK269.out) hb); have n4_ := Aside0.mk (below_step (lb HB.out) hb); clear BK266; clear BK267; clear BK268; clear BK269; clear HB; have BK266 := n0_; have BK267 := n1_; have BK268 := n2_; have BK269 := n3_; have HB := n4_; clear n0_ n1_ n2_ n3_ n4_; (try clear hb); (try clear hb2); (try clear hk); (try clear hi)))
  go_ret
  exact ⟨er, lb HB.out⟩
def spec_l2Cross.f (a0_0 : Int) (a0_1 : Int) (a1_0 : Int) (a1_1 : Int) : Option (Int) := some (wrap64 ((wrap64 (a0_0 * a1_1)) - (wrap64 (a0_1 * a1_0))))
set_option maxHeartbeats 8000000 in
set_option maxRecDepth 100000 in
theorem spec_l2Cross.calls (a0_0 : Int) (a0_1 : Int) (a1_0 : Int) (a1_1 : Int) (r : Int) (w : World) (h : spec_l2Cross.f a0_0 a0_1 a1_0 a1_1 = some r) :
  Calls Try.prog 78 #[.agg #[.int .i64 a0_0, .int .i64 a0_1], .agg #[.int .i64 a1_0, .int .i64 a1_1]] w fun e w' => e = .returned (.int .i64 r) ∧ Below w.heap.size w w' := by
 have hu33 := Try.underlying33
 have HB := Aside0.mk (Below.refl w.heap.size w)
 have H : (some (wrap64 ((wrap64 (a0_0 * a1_1)) - (wrap64 (a0_1 * a1_0))))) = some r := h
 clear h
 obtain rfl := Option.some.inj H
 go_enter Try.func78, Try.ntmps78
 go_wp2_with (first | ((with_reducible refine gate_dst (N := 2) rfl ?_); refine box_event ?hg (N := 2) ?hd (cs := #[.int .i64 a0_0, .int .i64 a0_1]) (t := 33) ?hr ?_; (case hd => rfl); (case hg => rfl); (case hr => first | (go_simp; done) | (go_simp; rfl)); intro gb274 hg w3 hbox hb; have n0_ := Aside0.mk (below_step (lb HB.out) hb); have n1_ := Aside0.mk (hbox); have n2_ := Aside0.mk ((by rw [hg]; exact (below_size (lb HB.out)) : w.heap.size ≤ gb274)); have n3_ := Aside0.mk ((by rw [hg]; exact (below_size (lb HB.out)) : w.heap.size ≤ gb274)); clear HB; have HB := n0_; have BK274 := n1_; have GW274 := n2_; have GE274 := n3_; clear n0_ n1_ n2_ n3_; clear hb hbox hg) | ((with_reducible refine gate_dst (N := 3) rfl ?_); refine box_event ?hg (N := 3) ?hd (cs := #[.int .i64 a1_0, .int .i64 a1_1]) (t := 33) ?hr ?_; (case hd => rfl); (case hg => rfl); (case hr => first | (go_simp; done) | (go_simp; rfl)); intro gb275 hg w4 hbox hb; have n0_ := Aside0.mk (blk_below (bf BK274.out) hb); have n1_ := Aside0.mk (below_step (lb HB.out) hb); have n2_ := Aside0.mk (hbox); have n3_ := Aside0.mk ((by rw [hg]; exact (below_size (lb HB.out)) : w.heap.size ≤ gb275)); have n4_ := Aside0.mk ((by rw [hg]; exact (below_size (lb HB.out)) : w.heap.size ≤ gb275)); have n5_ := Aside0.mk ((by rw [hg]; exact Nat.ne_of_lt (blk_lt (bf BK274.out)) : gb274 ≠ gb275)); have n6_ := Aside0.mk ((by rw [hg]; exact Nat.ne_of_gt (blk_lt (bf BK274.out)) : gb275 ≠ gb274)); clear BK274; clear HB; have BK274 := n0_; have HB := n1_; have BK275 := n2_; have GW275 := n3_; have GE275 := n4_; have NB274_275 := n5_; have NB275_274 := n6_; clear n0_ n1_ n2_ n3_ n4_ n5_ n6_; clear hb hbox hg; have hnb5 := NB274_275.out; have hnc5 := NB275_274.out; have hcz6_0 : w4.cell? ⟨gb274, 0, none⟩ = some (.int .i64 a0_0) := (blk_cell BK274.out 0).trans rfl; have hcz6_1 : w4.cell? ⟨gb274, 1, none⟩ = some (.int .i64 a0_1) := (blk_cell BK274.out 1).trans rfl; have hfz6_0 := blk_frozen BK274.out 0; have hfz6_1 := blk_frozen BK274.out 1; have hcz7_0 : w4.cell? ⟨gb275, 0, none⟩ = some (.int .i64 a1_0) := (blk_cell BK275.out 0).trans rfl; have hcz7_1 : w4.cell? ⟨gb275, 1, none⟩ = some (.int .i64 a1_1) := (blk_cell BK275.out 1).trans rfl; have hfz7_0 := blk_frozen BK275.out 0; have hfz7_1 := blk_frozen BK275.out 1))
 go_ret
 exact ⟨er, lb HB.out⟩
def spec_l2Step.f (a0_0 : Int) (a0_1 : Int) (a1_0 : Int) (a1_1 : Int) : Option (Int × Int) := some (wrap64 (a1_0 - a0_0), wrap64 (a1_1 - a0_1))
set_option maxHeartbeats 8000000 in
set_option maxRecDepth 100000 in
theorem spec_l2Step.calls (a0_0 : Int) (a0_1 : Int) (a1_0 : Int) (a1_1 : Int) (r1 : Int) (r2 : Int) (w : World) (h : spec_l2Step.f a0_0 a0_1 a1_0 a1_1 = some (r1, r2)) :
  Calls Try.prog 84 #[.agg #[.int .i64 a0_0, .int .i64 a0_1], .agg #[.int .i64 a1_0, .int .i64 a1_1]] w fun e w' => e = .returned (.agg #[.int .i64 r1, .int .i64 r2]) ∧ Below w.heap.size w w' := by
 have hu33 := Try.underlying33
 have HB := Aside0.mk (Below.refl w.heap.size w)
 have H : (some (wrap64 (a1_0 - a0_0), wrap64 (a1_1 - a0_1))) = some (r1, r2) := h
 clear h
 simp only [Option.some.injEq, Prod.mk.injEq] at H
 obtain ⟨rfl, rfl⟩ := H
 go_enter Try.func84, Try.ntmps84
 go_wp2_with (first | ((with_reducible refine gate_dst (N := 2) rfl ?_); refine box_event ?hg (N := 2) ?hd (cs := #[.int .i64 a0_0, .int .i64 a0_1]) (t := 33) ?hr ?_; (case hd => rfl); (case hg => rfl); (case hr => first | (go_simp; done) | (go_simp; rfl)); intro gb276 hg w3 hbox hb; have n0_ := Aside0.mk (below_step (lb HB.out) hb); have n1_ := Aside0.mk (hbox); have n2_ := Aside0.mk ((by rw [hg]; exact (below_size (lb HB.out)) : w.heap.size ≤ gb276)); have n3_ := Aside0.mk ((by rw [hg]; exact (below_size (lb HB.out)) : w.heap.size ≤ gb276)); clear HB; have HB := n0_; have BK276 := n1_; have GW276 := n2_; have GE276 := n3_; clear n0_ n1_ n2_ n3_; clear hb hbox hg) | ((with_reducible refine gate_dst (N := 3) rfl ?_); refine box_event ?hg (N := 3) ?hd (cs := #[.int .i64 a1_0, .int .i64 a1_1]) (t := 33) ?hr ?_; (case hd => rfl); (case hg => rfl); (case hr => first | (go_simp; done) | (go_simp; rfl)); intro gb277 hg w4 hbox hb; have n0_ := Aside0.mk (blk_below (bf BK276.out) hb); have n1_ := Aside0.mk (below_step (lb HB.out) hb); have n2_ := Aside0.mk (hbox); have n3_ := Aside0.mk ((by rw [hg]; exact (below_size (lb HB.out)) : w.heap.size ≤ gb277)); have n4_ := Aside0.mk ((by rw [hg]; exact (below_size (lb HB.out)) : w.heap.size ≤ gb277)); have n5_ := Aside0.mk ((by rw [hg]; exact Nat.ne_of_lt (blk_lt (bf BK276.out)) : gb276 ≠ gb277)); have n6_ := Aside0.mk ((by rw [hg]; exact Nat.ne_of_gt (blk_lt (bf BK276.out)) : gb277 ≠ gb276)); clear BK276; clear HB; have BK276 := n0_; have HB := n1_; have BK277 := n2_; have GW277 := n3_; have GE277 := n4_; have NB276_277 := n5_; have NB277_276 := n6_; clear n0_ n1_ n2_ n3_ n4_ n5_ n6_; clear hb hbox hg) | ((with_reducible refine gate_dst (N := 4) rfl ?_); refine box_event ?hg (N := 4) ?hd (cs := #[.int .i64 0, .int .i64 0]) (t := 33) ?hr ?_; (case hd => rfl); (case hg => rfl); (case hr => first | (go_simp; done) | (go_simp; rfl)); intro gb278 hg w5 hbox hb; have n0_ := Aside0.mk (blk_below (bf BK276.out) hb); have n1_ := Aside0.mk (blk_below (bf BK277.out) hb); have n2_ := Aside0.mk (below_step (lb HB.out) hb); have n3_ := Aside0.mk (hbox); have n4_ := Aside0.mk ((by rw [hg]; exact (below_size (lb HB.out)) : w.heap.size ≤ gb278)); have n5_ := Aside0.mk ((by rw [hg]; exact (below_size (lb HB.out)) : w.heap.size ≤ gb278)); have n6_ := Aside0.mk ((by rw [hg]; exact Nat.ne_of_lt (blk_lt (bf BK276.out)) : gb276 ≠ gb278)); have n7_ := Aside0.mk ((by rw [hg]; exact Nat.ne_of_gt (blk_lt (bf BK276.out)) : gb278 ≠ gb276)); have n8_ := Aside0.mk ((by rw [hg]; exact Nat.ne_of_lt (blk_lt (bf BK277.out)) : gb277 ≠ gb278)); have n9_ := Aside0.mk ((by rw [hg]; exact Nat.ne_of_gt (blk_lt (bf BK277.out)) : gb278 ≠ gb277)); clear BK276; clear BK277; clear HB; have BK276 := n0_; have BK277 := n1_; have HB := n2_; have BK278 := n3_; have GW278 := n4_; have GE278 := n5_; have NB276_278 := n6_; have NB278_276 := n7_; have NB277_278 := n8_; have NB278_277 := n9_; clear n0_ n1_ n2_ n3_ n4_ n5_ n6_ n7_ n8_ n9_; clear hb hbox hg; have hnb6 := NB277_276.out; have hnc6 := NB276_277.out; have hnb7 := NB277_278.out; have hnc7 := NB278_277.out; have hcz8_0 : w5.cell? ⟨gb277, 0, none⟩ = some (.int .i64 a1_0) := (blk_cell BK277.out 0).trans rfl; have hcz8_1 : w5.cell? ⟨gb277, 1, none⟩ = some (.int .i64 a1_1) := (blk_cell BK277.out 1).trans rfl; have hfz8_0 := blk_frozen BK277.out 0; have hfz8_1 := blk_frozen BK277.out 1; have hnb9 := NB276_278.out; have hnc9 := NB278_276.out; have hcz10_0 : w5.cell? ⟨gb276, 0, none⟩ = some (.int .i64 a0_0) := (blk_cell BK276.out 0).trans rfl; have hcz10_1 : w5.cell? ⟨gb276, 1, none⟩ = some (.int .i64 a0_1) := (blk_cell BK276.out 1).trans rfl; have hfz10_0 := blk_frozen BK276.out 0; have hfz10_1 := blk_frozen BK276.out 1; have hcz11_0 : w5.cell? ⟨gb278, 0, none⟩ = some (.int .i64 0) := (blk_cell BK278.out 0).trans rfl; have hcz11_1 : w5.cell? ⟨gb278, 1, none⟩ = some (.int .i64 0) := (blk_cell BK278.out 1).trans rfl; have hfz11_0 := blk_frozen BK278.out 0; have hfz11_1 := blk_frozen BK278.out 1))
 refine bodyPost_ret (results_cell_row rfl _ _ gb278 33 #[.int .i64 (wrap64 (a1_0 - a0_0)), .int .i64 (wrap64 (a1_1 - a0_1))] (0, 0) _ rfl (by (with_reducible repeat (first | refine blk_drewN ?_ _ | refine blk_drew ?_ | refine blk_alloc ?_ _)); refine blk_put (cs := #[.int .i64 (wrap64 (a1_0 - a0_0)), .int .i64 0]) ?_ 1 _ rfl; (with_reducible repeat (first | refine blk_drewN ?_ _ | refine blk_drew ?_ | refine blk_alloc ?_ _)); refine blk_put (cs := #[.int .i64 0, .int .i64 0]) ?_ 0 _ rfl; (with_reducible repeat (first | refine blk_drewN ?_ _ | refine blk_drew ?_ | refine blk_alloc ?_ _)); exact BK278.out) Try.underlying33 rfl (by kernel_rfl)) rfl ?_
 exact ⟨er, lb HB.out⟩
def spec_l34Parts.f (a0_0 : Int) (a0_1 : Int) (a1_0 : Int) (a1_1 : Int) (a2_0 : Int) (a2_1 : Int) (a3_0 : Int) (a3_1 : Int) : Option (Int × Int) := (spec_l2Step.f a0_0 a0_1 a1_0 a1_1).bind fun bt283 => ((spec_l2Step.f a2_0 a2_1 a3_0 a3_1).bind fun bt286 => ((spec_l2Step.f a0_0 a0_1 a2_0 a2_1).bind fun bt289 => ((spec_l2Cross.f bt289.1 bt289.2 bt286.1 bt286.2).bind fun t291 => ((spec_l2Cross.f bt283.1 bt283.2 bt286.1 bt286.2).bind fun t292 => (some (t291, t292))))))
def spec_l34Parts.T3 : Bool × List (List Nat × List Nat) := (true,[([],[]),([],[]),([0,1],[0,1]),([],[]),([2,3,2],[2,3]),([],[]),([],[]),([5,6,4],[5,6]),([4,7,0,1,2,3,4],[4]),([7,8,0,1,2,3,4,5,6,7,8],[7])])
def spec_l34Parts.B3 : List Nat := [0,0,3,0,15,0,0,127,255,511]
theorem spec_l34Parts.tab3 : rtab .any (opsOf Try.f61 3) = spec_l34Parts.T3 := by kernel_rfl
theorem spec_l34Parts.bits3 : waitsOk spec_l34Parts.T3.2 spec_l34Parts.B3 = true := by kernel_rfl
set_option maxHeartbeats 8000000 in
set_option maxRecDepth 100000 in
theorem spec_l34Parts.calls (a0_0 : Int) (a0_1 : Int) (a1_0 : Int) (a1_1 : Int) (a2_0 : Int) (a2_1 : Int) (a3_0 : Int) (a3_1 : Int) (r1 : Int) (r2 : Int) (w : World) (h : spec_l34Parts.f a0_0 a0_1 a1_0 a1_1 a2_0 a2_1 a3_0 a3_1 = some (r1, r2)) :
  Calls Try.prog 61 #[.agg #[.int .i64 a0_0, .int .i64 a0_1], .agg #[.int .i64 a1_0, .int .i64 a1_1], .agg #[.int .i64 a2_0, .int .i64 a2_1], .agg #[.int .i64 a3_0, .int .i64 a3_1]] w fun e w' => e = .returned (.tuple #[.int .i64 r1, .int .i64 r2]) ∧ Below w.heap.size w w' := by
 have hu33 := Try.underlying33
 have HB := Aside0.mk (Below.refl w.heap.size w)
 have H : ((spec_l2Step.f a0_0 a0_1 a1_0 a1_1).bind fun bt283 => ((spec_l2Step.f a2_0 a2_1 a3_0 a3_1).bind fun bt286 => ((spec_l2Step.f a0_0 a0_1 a2_0 a2_1).bind fun bt289 => ((spec_l2Cross.f bt289.1 bt289.2 bt286.1 bt286.2).bind fun t291 => ((spec_l2Cross.f bt283.1 bt283.2 bt286.1 bt286.2).bind fun t292 => (some (t291, t292))))))) = some (r1, r2) := h
 clear h
 replace H := Option.bind_eq_some_iff.mp H
 obtain ⟨⟨t283, t284⟩, A50, H⟩ := H
 replace H : ((spec_l2Step.f a2_0 a2_1 a3_0 a3_1).bind fun bt286 => ((spec_l2Step.f a0_0 a0_1 a2_0 a2_1).bind fun bt289 => ((spec_l2Cross.f bt289.1 bt289.2 bt286.1 bt286.2).bind fun t291 => ((spec_l2Cross.f t283 t284 bt286.1 bt286.2).bind fun t292 => (some (t291, t292)))))) = some (r1, r2) := H
 have A5 := Aside0.mk A50
 clear A50
 replace H := Option.bind_eq_some_iff.mp H
 obtain ⟨⟨t286, t287⟩, A60, H⟩ := H
 replace H : ((spec_l2Step.f a0_0 a0_1 a2_0 a2_1).bind fun bt289 => ((spec_l2Cross.f bt289.1 bt289.2 t286 t287).bind fun t291 => ((spec_l2Cross.f t283 t284 t286 t287).bind fun t292 => (some (t291, t292))))) = some (r1, r2) := H
 have A6 := Aside0.mk A60
 clear A60
 replace H := Option.bind_eq_some_iff.mp H
 obtain ⟨⟨t289, t290⟩, A70, H⟩ := H
 replace H : ((spec_l2Cross.f t289 t290 t286 t287).bind fun t291 => ((spec_l2Cross.f t283 t284 t286 t287).bind fun t292 => (some (t291, t292)))) = some (r1, r2) := H
 have A7 := Aside0.mk A70
 clear A70
 replace H := Option.bind_eq_some_iff.mp H
 obtain ⟨t291, A80, H⟩ := H
 replace H : ((spec_l2Cross.f t283 t284 t286 t287).bind fun t292 => (some (t291, t292))) = some (r1, r2) := H
 have A8 := Aside0.mk A80
 clear A80
 replace H := Option.bind_eq_some_iff.mp H
 obtain ⟨t292, A90, H⟩ := H
 replace H : (some (t291, t292)) = some (r1, r2) := H
 have A9 := Aside0.mk A90
 clear A90
 simp only [Option.some.injEq, Prod.mk.injEq] at H
 obtain ⟨rfl, rfl⟩ := H
 go_enter Try.func61, Try.ntmps61
 try go_wp2_with (first | ((with_reducible refine gate_dst (N := 4) rfl ?_); refine box_event ?hg (N := 4) ?hd (cs := #[.int .i64 a0_0, .int .i64 a0_1]) (t := 33) ?hr ?_; (case hd => rfl); (case hg => rfl); (case hr => first | (go_simp; done) | (go_simp; rfl)); intro gb279 hg w10 hbox hb; have n0_ := Aside0.mk (below_step (lb HB.out) hb); have n1_ := Aside0.mk (hbox); have n2_ := Aside0.mk ((by rw [hg]; exact (below_size (lb HB.out)) : w.heap.size ≤ gb279)); have n3_ := Aside0.mk ((by rw [hg]; exact (below_size (lb HB.out)) : w.heap.size ≤ gb279)); clear HB; have HB := n0_; have BK279 := n1_; have GW279 := n2_; have GE279 := n3_; clear n0_ n1_ n2_ n3_; clear hb hbox hg) | ((with_reducible refine gate_dst (N := 5) rfl ?_); refine box_event ?hg (N := 5) ?hd (cs := #[.int .i64 a1_0, .int .i64 a1_1]) (t := 33) ?hr ?_; (case hd => rfl); (case hg => rfl); (case hr => first | (go_simp; done) | (go_simp; rfl)); intro gb280 hg w11 hbox hb; have n0_ := Aside0.mk (blk_below (bf BK279.out) hb); have n1_ := Aside0.mk (below_step (lb HB.out) hb); have n2_ := Aside0.mk (hbox); have n3_ := Aside0.mk ((by rw [hg]; exact (below_size (lb HB.out)) : w.heap.size ≤ gb280)); have n4_ := Aside0.mk ((by rw [hg]; exact (below_size (lb HB.out)) : w.heap.size ≤ gb280)); have n5_ := Aside0.mk ((by rw [hg]; exact Nat.ne_of_lt (blk_lt (bf BK279.out)) : gb279 ≠ gb280)); have n6_ := Aside0.mk ((by rw [hg]; exact Nat.ne_of_gt (blk_lt (bf BK279.out)) : gb280 ≠ gb279)); clear BK279; clear HB; have BK279 := n0_; have HB := n1_; have BK280 := n2_; have GW280 := n3_; have GE280 := n4_; have NB279_280 := n5_; have NB280_279 := n6_; clear n0_ n1_ n2_ n3_ n4_ n5_ n6_; clear hb hbox hg) | ((with_reducible refine gate_dst (N := 6) rfl ?_); refine box_event ?hg (N := 6) ?hd (cs := #[.int .i64 a2_0, .int .i64 a2_1]) (t := 33) ?hr ?_; (case hd => rfl); (case hg => rfl); (case hr => first | (go_simp; done) | (go_simp; rfl)); intro gb281 hg w12 hbox hb; have n0_ := Aside0.mk (blk_below (bf BK279.out) hb); have n1_ := Aside0.mk (blk_below (bf BK280.out) hb); have n2_ := Aside0.mk (below_step (lb HB.out) hb); have n3_ := Aside0.mk (hbox); have n4_ := Aside0.mk ((by rw [hg]; exact (below_size (lb HB.out)) : w.heap.size ≤ gb281)); have n5_ := Aside0.mk ((by rw [hg]; exact (below_size (lb HB.out)) : w.heap.size ≤ gb281)); have n6_ := Aside0.mk ((by rw [hg]; exact Nat.ne_of_lt (blk_lt (bf BK279.out)) : gb279 ≠ gb281)); have n7_ := Aside0.mk ((by rw [hg]; exact Nat.ne_of_gt (blk_lt (bf BK279.out)) : gb281 ≠ gb279)); have n8_ := Aside0.mk ((by rw [hg]; exact Nat.ne_of_lt (blk_lt (bf BK280.out)) : gb280 ≠ gb281)); have n9_ := Aside0.mk ((by rw [hg]; exact Nat.ne_of_gt (blk_lt (bf BK280.out)) : gb281 ≠ gb280)); clear BK279; clear BK280; clear HB; have BK279 := n0_; have BK280 := n1_; have HB := n2_; have BK281 := n3_; have GW281 := n4_; have GE281 := n5_; have NB279_281 := n6_; have NB281_279 := n7_; have NB280_281 := n8_; have NB281_280 := n9_; clear n0_ n1_ n2_ n3_ n4_ n5_ n6_ n7_ n8_ n9_; clear hb hbox hg) | ((with_reducible refine gate_dst (N := 7) rfl ?_); refine box_event ?hg (N := 7) ?hd (cs := #[.int .i64 a3_0, .int .i64 a3_1]) (t := 33) ?hr ?_; (case hd => rfl); (case hg => rfl); (case hr => first | (go_simp; done) | (go_simp; rfl)); intro gb282 hg w13 hbox hb; have n0_ := Aside0.mk (blk_below (bf BK279.out) hb); have n1_ := Aside0.mk (blk_below (bf BK280.out) hb); have n2_ := Aside0.mk (blk_below (bf BK281.out) hb); have n3_ := Aside0.mk (below_step (lb HB.out) hb); have n4_ := Aside0.mk (hbox); have n5_ := Aside0.mk ((by rw [hg]; exact (below_size (lb HB.out)) : w.heap.size ≤ gb282)); have n6_ := Aside0.mk ((by rw [hg]; exact (below_size (lb HB.out)) : w.heap.size ≤ gb282)); have n7_ := Aside0.mk ((by rw [hg]; exact Nat.ne_of_lt (blk_lt (bf BK279.out)) : gb279 ≠ gb282)); have n8_ := Aside0.mk ((by rw [hg]; exact Nat.ne_of_gt (blk_lt (bf BK279.out)) : gb282 ≠ gb279)); have n9_ := Aside0.mk ((by rw [hg]; exact Nat.ne_of_lt (blk_lt (bf BK280.out)) : gb280 ≠ gb282)); have n10_ := Aside0.mk ((by rw [hg]; exact Nat.ne_of_gt (blk_lt (bf BK280.out)) : gb282 ≠ gb280)); have n11_ := Aside0.mk ((by rw [hg]; exact Nat.ne_of_lt (blk_lt (bf BK281.out)) : gb281 ≠ gb282)); have n12_ := Aside0.mk ((by rw [hg]; exact Nat.ne_of_gt (blk_lt (bf BK281.out)) : gb282 ≠ gb281)); clear BK279; clear BK280; clear BK281; clear HB; have BK279 := n0_; have BK280 := n1_; have BK281 := n2_; have HB := n3_; have BK282 := n4_; have GW282 := n5_; have GE282 := n6_; have NB279_282 := n7_; have NB282_279 := n8_; have NB280_282 := n9_; have NB282_280 := n10_; have NB281_282 := n11_; have NB282_281 := n12_; clear n0_ n1_ n2_ n3_ n4_ n5_ n6_ n7_ n8_ n9_ n10_ n11_ n12_; clear hb hbox hg; have hnb14 := NB279_280.out; have hnc14 := NB280_279.out; have hnb15 := NB279_281.out; have hnc15 := NB281_279.out; have hnb16 := NB279_282.out; have hnc16 := NB282_279.out; have hcz17_0 : w13.cell? ⟨gb279, 0, none⟩ = some (.int .i64 a0_0) := (blk_cell BK279.out 0).trans rfl; have hcz17_1 : w13.cell? ⟨gb279, 1, none⟩ = some (.int .i64 a0_1) := (blk_cell BK279.out 1).trans rfl; have hfz17_0 := blk_frozen BK279.out 0; have hfz17_1 := blk_frozen BK279.out 1; have hnb18 := NB280_281.out; have hnc18 := NB281_280.out; have hnb19 := NB280_282.out; have hnc19 := NB282_280.out; have hcz20_0 : w13.cell? ⟨gb280, 0, none⟩ = some (.int .i64 a1_0) := (blk_cell BK280.out 0).trans rfl; have hcz20_1 : w13.cell? ⟨gb280, 1, none⟩ = some (.int .i64 a1_1) := (blk_cell BK280.out 1).trans rfl; have hfz20_0 := blk_frozen BK280.out 0; have hfz20_1 := blk_frozen BK280.out 1) | ((with_reducible refine gate_callee (f := 84) rfl ?_); refine goesL_ (some 14) rfl rfl Try.func84 (by kernel_rfl) rfl #[.agg #[.int .i64 a0_0, .int .i64 a0_1], .agg #[.int .i64 a1_0, .int .i64 a1_1]] rfl al ?_; (with_reducible refine (spec_l2Step.calls a0_0 a0_1 a1_0 a1_1 t283 t284 _ A5.out).mono ?_); rintro e w21 ⟨rfl, hb⟩; refine ⟨_, rfl, ?_⟩; have n0_ := Aside0.mk (blk_below (bf BK279.out) hb); have n1_ := Aside0.mk (blk_below (bf BK280.out) hb); have n2_ := Aside0.mk (blk_below (bf BK281.out) hb); have n3_ := Aside0.mk (blk_below (bf BK282.out) hb); have n4_ := Aside0.mk (below_step (lb HB.out) hb); clear BK279; clear BK280; clear BK281; clear BK282; clear HB; have BK279 := n0_; have BK280 := n1_; have BK281 := n2_; have BK282 := n3_; have HB := n4_; clear n0_ n1_ n2_ n3_ n4_; (try clear hb); (try clear hb2); (try clear hk); (try clear hi)) | ((with_reducible refine gate_dst (N := 10) rfl ?_); refine box_event ?hg (N := 10) ?hd (cs := #[.int .i64 0, .int .i64 0]) (t := 33) ?hr ?_; (case hd => rfl); (case hg => rfl); (case hr => first | (go_simp; done) | (go_simp; rfl)); intro gb285 hg w22 hbox hb; have n0_ := Aside0.mk (blk_below (bf BK279.out) hb); have n1_ := Aside0.mk (blk_below (bf BK280.out) hb); have n2_ := Aside0.mk (blk_below (bf BK281.out) hb); have n3_ := Aside0.mk (blk_below (bf BK282.out) hb); have n4_ := Aside0.mk (below_step (lb HB.out) hb); have n5_ := Aside0.mk (hbox); have n6_ := Aside0.mk ((by rw [hg]; exact (below_size (lb HB.out)) : w.heap.size ≤ gb285)); have n7_ := Aside0.mk ((by rw [hg]; exact (below_size (lb HB.out)) : w.heap.size ≤ gb285)); have n8_ := Aside0.mk ((by rw [hg]; exact Nat.ne_of_lt (blk_lt (bf BK279.out)) : gb279 ≠ gb285)); have n9_ := Aside0.mk ((by rw [hg]; exact Nat.ne_of_gt (blk_lt (bf BK279.out)) : gb285 ≠ gb279)); have n10_ := Aside0.mk ((by rw [hg]; exact Nat.ne_of_lt (blk_lt (bf BK280.out)) : gb280 ≠ gb285)); have n11_ := Aside0.mk ((by rw [hg]; exact Nat.ne_of_gt (blk_lt (bf BK280.out)) : gb285 ≠ gb280)); have n12_ := Aside0.mk ((by rw [hg]; exact Nat.ne_of_lt (blk_lt (bf BK281.out)) : gb281 ≠ gb285)); have n13_ := Aside0.mk ((by rw [hg]; exact Nat.ne_of_gt (blk_lt (bf BK281.out)) : gb285 ≠ gb281)); have n14_ := Aside0.mk ((by rw [hg]; exact Nat.ne_of_lt (blk_lt (bf BK282.out)) : gb282 ≠ gb285)); have n15_ := Aside0.mk ((by rw [hg]; exact Nat.ne_of_gt (blk_lt (bf BK282.out)) : gb285 ≠ gb282)); clear BK279; clear BK280; clear BK281; clear BK282; clear HB; have BK279 := n0_; have BK280 := n1_; have BK281 := n2_; have BK282 := n3_; have HB := n4_; have BK285 := n5_; have GW285 := n6_; have GE285 := n7_; have NB279_285 := n8_; have NB285_279 := n9_; have NB280_285 := n10_; have NB285_280 := n11_; have NB281_285 := n12_; have NB285_281 := n13_; have NB282_285 := n14_; have NB285_282 := n15_; clear n0_ n1_ n2_ n3_ n4_ n5_ n6_ n7_ n8_ n9_ n10_ n11_ n12_ n13_ n14_ n15_; clear hb hbox hg; have hnb23 := NB285_279.out; have hnc23 := NB279_285.out; have hnb24 := NB285_280.out; have hnc24 := NB280_285.out; have hnb25 := NB285_281.out; have hnc25 := NB281_285.out; have hnb26 := NB285_282.out; have hnc26 := NB282_285.out; have hcz27_0 : w22.cell? ⟨gb285, 0, none⟩ = some (.int .i64 0) := (blk_cell BK285.out 0).trans rfl; have hcz27_1 : w22.cell? ⟨gb285, 1, none⟩ = some (.int .i64 0) := (blk_cell BK285.out 1).trans rfl; have hfz27_0 := blk_frozen BK285.out 0; have hfz27_1 := blk_frozen BK285.out 1; have hnb28 := NB281_282.out; have hnc28 := NB282_281.out; have hcz29_0 : w22.cell? ⟨gb281, 0, none⟩ = some (.int .i64 a2_0) := (blk_cell BK281.out 0).trans rfl; have hcz29_1 : w22.cell? ⟨gb281, 1, none⟩ = some (.int .i64 a2_1) := (blk_cell BK281.out 1).trans rfl; have hfz29_0 := blk_frozen BK281.out 0; have hfz29_1 := blk_frozen BK281.out 1; have hcz30_0 : w22.cell? ⟨gb282, 0, none⟩ = some (.int .i64 a3_0) := (blk_cell BK282.out 0).trans rfl; have hcz30_1 : w22.cell? ⟨gb282, 1, none⟩ = some (.int .i64 a3_1) := (blk_cell BK282.out 1).trans rfl; have hfz30_0 := blk_frozen BK282.out 0; have hfz30_1 := blk_frozen BK282.out 1) | ((with_reducible refine gate_callee (f := 84) rfl ?_); refine goesL_ (some 17) rfl rfl Try.func84 (by kernel_rfl) rfl #[.agg #[.int .i64 a2_0, .int .i64 a2_1], .agg #[.int .i64 a3_0, .int .i64 a3_1]] rfl al ?_; (with_reducible refine (spec_l2Step.calls a2_0 a2_1 a3_0 a3_1 t286 t287 _ A6.out).mono ?_); rintro e w31 ⟨rfl, hb⟩; refine ⟨_, rfl, ?_⟩; have n0_ := Aside0.mk (blk_below (bf BK279.out) hb); have n1_ := Aside0.mk (blk_below (bf BK280.out) hb); have n2_ := Aside0.mk (blk_below (bf BK281.out) hb); have n3_ := Aside0.mk (blk_below (bf BK282.out) hb); have n4_ := Aside0.mk (blk_below (g := gb285) (o := .cells #[.int .i64 t283, .int .i64 t284] 33 (0, 0)) (by (with_reducible repeat (first | refine blk_drewN ?_ _ | refine blk_drew ?_ | refine blk_alloc ?_ _)); refine blk_put (cs := #[.int .i64 t283, .int .i64 0]) ?_ 1 _ rfl; (with_reducible repeat (first | refine blk_drewN ?_ _ | refine blk_drew ?_ | refine blk_alloc ?_ _)); refine blk_put (cs := #[.int .i64 0, .int .i64 0]) ?_ 0 _ rfl; (with_reducible repeat (first | refine blk_drewN ?_ _ | refine blk_drew ?_ | refine blk_alloc ?_ _)); exact BK285.out) hb); have n5_ := Aside0.mk (below_step (lb HB.out) hb); clear BK279; clear BK280; clear BK281; clear BK282; clear BK285; clear HB; have BK279 := n0_; have BK280 := n1_; have BK281 := n2_; have BK282 := n3_; have BK285 := n4_; have HB := n5_; clear n0_ n1_ n2_ n3_ n4_ n5_; (try clear hb); (try clear hb2); (try clear hk); (try clear hi)) | ((with_reducible refine gate_dst (N := 11) rfl ?_); refine box_event ?hg (N := 11) ?hd (cs := #[.int .i64 0, .int .i64 0]) (t := 33) ?hr ?_; (case hd => rfl); (case hg => rfl); (case hr => first | (go_simp; done) | (go_simp; rfl)); intro gb288 hg w32 hbox hb; have n0_ := Aside0.mk (blk_below (bf BK279.out) hb); have n1_ := Aside0.mk (blk_below (bf BK280.out) hb); have n2_ := Aside0.mk (blk_below (bf BK281.out) hb); have n3_ := Aside0.mk (blk_below (bf BK282.out) hb); have n4_ := Aside0.mk (blk_below (bf BK285.out) hb); have n5_ := Aside0.mk (below_step (lb HB.out) hb); have n6_ := Aside0.mk (hbox); have n7_ := Aside0.mk ((by rw [hg]; exact (below_size (lb HB.out)) : w.heap.size ≤ gb288)); have n8_ := Aside0.mk ((by rw [hg]; exact (below_size (lb HB.out)) : w.heap.size ≤ gb288)); have n9_ := Aside0.mk ((by rw [hg]; exact Nat.ne_of_lt (blk_lt (bf BK279.out)) : gb279 ≠ gb288)); have n10_ := Aside0.mk ((by rw [hg]; exact Nat.ne_of_gt (blk_lt (bf BK279.out)) : gb288 ≠ gb279)); have n11_ := Aside0.mk ((by rw [hg]; exact Nat.ne_of_lt (blk_lt (bf BK280.out)) : gb280 ≠ gb288)); have n12_ := Aside0.mk ((by rw [hg]; exact Nat.ne_of_gt (blk_lt (bf BK280.out)) : gb288 ≠ gb280)); have n13_ := Aside0.mk ((by rw [hg]; exact Nat.ne_of_lt (blk_lt (bf BK281.out)) : gb281 ≠ gb288)); have n14_ := Aside0.mk ((by rw [hg]; exact Nat.ne_of_gt (blk_lt (bf BK281.out)) : gb288 ≠ gb281)); have n15_ := Aside0.mk ((by rw [hg]; exact Nat.ne_of_lt (blk_lt (bf BK282.out)) : gb282 ≠ gb288)); have n16_ := Aside0.mk ((by rw [hg]; exact Nat.ne_of_gt (blk_lt (bf BK282.out)) : gb288 ≠ gb282)); have n17_ := Aside0.mk ((by rw [hg]; exact Nat.ne_of_lt (blk_lt (bf BK285.out)) : gb285 ≠ gb288)); have n18_ := Aside0.mk ((by rw [hg]; exact Nat.ne_of_gt (blk_lt (bf BK285.out)) : gb288 ≠ gb285)); clear BK279; clear BK280; clear BK281; clear BK282; clear BK285; clear HB; have BK279 := n0_; have BK280 := n1_; have BK281 := n2_; have BK282 := n3_; have BK285 := n4_; have HB := n5_; have BK288 := n6_; have GW288 := n7_; have GE288 := n8_; have NB279_288 := n9_; have NB288_279 := n10_; have NB280_288 := n11_; have NB288_280 := n12_; have NB281_288 := n13_; have NB288_281 := n14_; have NB282_288 := n15_; have NB288_282 := n16_; have NB285_288 := n17_; have NB288_285 := n18_; clear n0_ n1_ n2_ n3_ n4_ n5_ n6_ n7_ n8_ n9_ n10_ n11_ n12_ n13_ n14_ n15_ n16_ n17_ n18_; clear hb hbox hg; have hnb33 := NB288_279.out; have hnc33 := NB279_288.out; have hnb34 := NB288_280.out; have hnc34 := NB280_288.out; have hnb35 := NB288_281.out; have hnc35 := NB281_288.out; have hnb36 := NB288_282.out; have hnc36 := NB282_288.out; have hnb37 := NB288_285.out; have hnc37 := NB285_288.out; have hcz38_0 : w32.cell? ⟨gb288, 0, none⟩ = some (.int .i64 0) := (blk_cell BK288.out 0).trans rfl; have hcz38_1 : w32.cell? ⟨gb288, 1, none⟩ = some (.int .i64 0) := (blk_cell BK288.out 1).trans rfl; have hfz38_0 := blk_frozen BK288.out 0; have hfz38_1 := blk_frozen BK288.out 1))
 have n0_ : Aside0 (((w32.setCell ⟨gb288, 0, none⟩ (.int .i64 t286)).setCell ⟨gb288, 1, none⟩ (.int .i64 t287)).heap[gb279]? = some (.cells #[.int .i64 a0_0, .int .i64 a0_1] 33 (0, 0))) := ⟨by (with_reducible repeat (first | refine blk_drewN ?_ _ | refine blk_drew ?_ | refine blk_alloc ?_ _)); refine blk_far ?_ NB279_288.out _; (with_reducible repeat (first | refine blk_drewN ?_ _ | refine blk_drew ?_ | refine blk_alloc ?_ _)); refine blk_far ?_ NB279_288.out _; (with_reducible repeat (first | refine blk_drewN ?_ _ | refine blk_drew ?_ | refine blk_alloc ?_ _)); exact BK279.out⟩
 have n1_ : Aside0 (((w32.setCell ⟨gb288, 0, none⟩ (.int .i64 t286)).setCell ⟨gb288, 1, none⟩ (.int .i64 t287)).heap[gb280]? = some (.cells #[.int .i64 a1_0, .int .i64 a1_1] 33 (0, 0))) := ⟨by (with_reducible repeat (first | refine blk_drewN ?_ _ | refine blk_drew ?_ | refine blk_alloc ?_ _)); refine blk_far ?_ NB280_288.out _; (with_reducible repeat (first | refine blk_drewN ?_ _ | refine blk_drew ?_ | refine blk_alloc ?_ _)); refine blk_far ?_ NB280_288.out _; (with_reducible repeat (first | refine blk_drewN ?_ _ | refine blk_drew ?_ | refine blk_alloc ?_ _)); exact BK280.out⟩
 have n2_ : Aside0 (((w32.setCell ⟨gb288, 0, none⟩ (.int .i64 t286)).setCell ⟨gb288, 1, none⟩ (.int .i64 t287)).heap[gb281]? = some (.cells #[.int .i64 a2_0, .int .i64 a2_1] 33 (0, 0))) := ⟨by (with_reducible repeat (first | refine blk_drewN ?_ _ | refine blk_drew ?_ | refine blk_alloc ?_ _)); refine blk_far ?_ NB281_288.out _; (with_reducible repeat (first | refine blk_drewN ?_ _ | refine blk_drew ?_ | refine blk_alloc ?_ _)); refine blk_far ?_ NB281_288.out _; (with_reducible repeat (first | refine blk_drewN ?_ _ | refine blk_drew ?_ | refine blk_alloc ?_ _)); exact BK281.out⟩
 have n3_ : Aside0 (((w32.setCell ⟨gb288, 0, none⟩ (.int .i64 t286)).setCell ⟨gb288, 1, none⟩ (.int .i64 t287)).heap[gb282]? = some (.cells #[.int .i64 a3_0, .int .i64 a3_1] 33 (0, 0))) := ⟨by (with_reducible repeat (first | refine blk_drewN ?_ _ | refine blk_drew ?_ | refine blk_alloc ?_ _)); refine blk_far ?_ NB282_288.out _; (with_reducible repeat (first | refine blk_drewN ?_ _ | refine blk_drew ?_ | refine blk_alloc ?_ _)); refine blk_far ?_ NB282_288.out _; (with_reducible repeat (first | refine blk_drewN ?_ _ | refine blk_drew ?_ | refine blk_alloc ?_ _)); exact BK282.out⟩
 have n4_ : Aside0 (((w32.setCell ⟨gb288, 0, none⟩ (.int .i64 t286)).setCell ⟨gb288, 1, none⟩ (.int .i64 t287)).heap[gb285]? = some (.cells #[.int .i64 t283, .int .i64 t284] 33 (0, 0))) := ⟨by (with_reducible repeat (first | refine blk_drewN ?_ _ | refine blk_drew ?_ | refine blk_alloc ?_ _)); refine blk_far ?_ NB285_288.out _; (with_reducible repeat (first | refine blk_drewN ?_ _ | refine blk_drew ?_ | refine blk_alloc ?_ _)); refine blk_far ?_ NB285_288.out _; (with_reducible repeat (first | refine blk_drewN ?_ _ | refine blk_drew ?_ | refine blk_alloc ?_ _)); exact BK285.out⟩
 have n5_ : Aside0 (((w32.setCell ⟨gb288, 0, none⟩ (.int .i64 t286)).setCell ⟨gb288, 1, none⟩ (.int .i64 t287)).heap[gb288]? = some (.cells #[.int .i64 t286, .int .i64 t287] 33 (0, 0))) := ⟨by (with_reducible repeat (first | refine blk_drewN ?_ _ | refine blk_drew ?_ | refine blk_alloc ?_ _)); refine blk_put (cs := #[.int .i64 t286, .int .i64 0]) ?_ 1 _ rfl; (with_reducible repeat (first | refine blk_drewN ?_ _ | refine blk_drew ?_ | refine blk_alloc ?_ _)); refine blk_put (cs := #[.int .i64 0, .int .i64 0]) ?_ 0 _ rfl; (with_reducible repeat (first | refine blk_drewN ?_ _ | refine blk_drew ?_ | refine blk_alloc ?_ _)); exact BK288.out⟩
 have n6_ : Aside0 (Below w.heap.size w ((w32.setCell ⟨gb288, 0, none⟩ (.int .i64 t286)).setCell ⟨gb288, 1, none⟩ (.int .i64 t287))) := ⟨lb HB.out⟩
 (try clear BK279);(try clear BK280);(try clear BK281);(try clear BK282)
 (try clear BK285)
 (try clear BK288)
 (try clear HB)
 generalize ((w32.setCell ⟨gb288, 0, none⟩ (.int .i64 t286)).setCell ⟨gb288, 1, none⟩ (.int .i64 t287)) = w39 at n0_ n1_ n2_ n3_ n4_ n5_ n6_ ⊢
 have BK279 := n0_
 have BK280 := n1_
 have BK281 := n2_
 have BK282 := n3_
 have BK285 := n4_
 have BK288 := n5_
 have HB := n6_
 clear n0_ n1_ n2_ n3_ n4_ n5_ n6_
 have n0_ := Aside0.mk (blk_drew BK279.out)
 have n1_ := Aside0.mk (blk_drew BK280.out)
 have n2_ := Aside0.mk (blk_drew BK281.out)
 have n3_ := Aside0.mk (blk_drew BK282.out)
 have n4_ := Aside0.mk (blk_drew BK285.out)
 have n5_ := Aside0.mk (blk_drew BK288.out)
 have n6_ := Aside0.mk (below_drew1 HB.out)
 clear BK279 BK280 BK281 BK282 BK285 BK288 HB
 have BK279 := n0_
 have BK280 := n1_
 have BK281 := n2_
 have BK282 := n3_
 have BK285 := n4_
 have BK288 := n5_
 have HB := n6_
 clear n0_ n1_ n2_ n3_ n4_ n5_ n6_
 refine start_ (n := 10) (S := fun w' => w'.cell? ⟨gb279, 0, none⟩ = some (.int .i64 a0_0) ∧ w'.cell? ⟨gb279, 1, none⟩ = some (.int .i64 a0_1) ∧ w'.cell? ⟨gb281, 0, none⟩ = some (.int .i64 a2_0) ∧ w'.cell? ⟨gb281, 1, none⟩ = some (.int .i64 a2_1) ∧ w'.cell? ⟨gb288, 0, none⟩ = some (.int .i64 t286) ∧ w'.cell? ⟨gb288, 1, none⟩ = some (.int .i64 t287) ∧ w'.cell? ⟨gb285, 0, none⟩ = some (.int .i64 t283) ∧ w'.cell? ⟨gb285, 1, none⟩ = some (.int .i64 t284)) (ds := []) #[false,false,false,false,false,false,false,false,false,false] (by kernel_rfl) rfl rfl ⟨(blk_cell BK279.out 0).trans rfl, (blk_cell BK279.out 1).trans rfl, (blk_cell BK281.out 0).trans rfl, (blk_cell BK281.out 1).trans rfl, (blk_cell BK288.out 0).trans rfl, (blk_cell BK288.out 1).trans rfl, (blk_cell BK285.out 0).trans rfl, (blk_cell BK285.out 1).trans rfl⟩ (fun hHeld => ?_); refine with_tabW spec_l34Parts.tab3 spec_l34Parts.bits3 (fun HT_ HW_ => ?_)
 generalize w39.drew = w40 at BK279 BK280 BK281 BK282 BK285 BK288 HB hHeld ⊢
 refine take_ (i := 0) (N := some 18) (v := ?_) (a' := ?_) #[true,false,false,false,false,false,false,false,false,false] rfl rfl (take_ofW HT_.out HW_.out (by kernel_rfl)) (fun _ _ _ h => h) (Or.inl ⟨by rfl, ?_⟩) hHeld ?_ ?_
 rotate_left
 ·rintro w' ⟨s0, s1, s2, s3, s4, s5, s6, s7⟩
  go_simp
  with_reducible rfl
 rotate_left
 ·simp only [Act.put, List.setIfInBounds_toArray, List.set_cons_zero, List.set_cons_succ, i64_w, i32_w]
  rfl
 refine take_ (i := 1) (N := some 19) (v := ?_) (a' := ?_) #[true,true,false,false,false,false,false,false,false,false] rfl rfl (take_ofW HT_.out HW_.out (by kernel_rfl)) (fun _ _ _ h => h) (Or.inl ⟨by rfl, ?_⟩) hHeld ?_ ?_
 rotate_left
 ·rintro w' ⟨s0, s1, s2, s3, s4, s5, s6, s7⟩
  go_simp
  with_reducible rfl
 rotate_left
 ·simp only [Act.put, List.setIfInBounds_toArray, List.set_cons_zero, List.set_cons_succ, i64_w, i32_w]
  rfl
 refine take_ (i := 3) (N := some 21) (v := ?_) (a' := ?_) #[true,true,false,true,false,false,false,false,false,false] rfl rfl (take_ofW HT_.out HW_.out (by kernel_rfl)) (fun _ _ _ h => h) (Or.inl ⟨by rfl, ?_⟩) hHeld ?_ ?_
 rotate_left
 ·rintro w' ⟨s0, s1, s2, s3, s4, s5, s6, s7⟩
  go_simp
  with_reducible rfl
 rotate_left
 ·simp only [Act.put, List.setIfInBounds_toArray, List.set_cons_zero, List.set_cons_succ, i64_w, i32_w]
  rfl
 refine take_ (i := 5) (N := some 23) (v := ?_) (a' := ?_) #[true,true,false,true,false,true,false,false,false,false] rfl rfl (take_ofW HT_.out HW_.out (by kernel_rfl)) (fun _ _ _ h => h) (Or.inl ⟨by rfl, ?_⟩) hHeld ?_ ?_
 rotate_left
 ·rintro w' ⟨s0, s1, s2, s3, s4, s5, s6, s7⟩
  go_simp
  with_reducible rfl
 rotate_left
 ·simp only [Act.put, List.setIfInBounds_toArray, List.set_cons_zero, List.set_cons_succ, i64_w, i32_w]
  rfl
 refine take_ (i := 6) (N := some 24) (v := ?_) (a' := ?_) #[true,true,false,true,false,true,true,false,false,false] rfl rfl (take_ofW HT_.out HW_.out (by kernel_rfl)) (fun _ _ _ h => h) (Or.inl ⟨by rfl, ?_⟩) hHeld ?_ ?_
 rotate_left
 ·rintro w' ⟨s0, s1, s2, s3, s4, s5, s6, s7⟩
  go_simp
  with_reducible rfl
 rotate_left
 ·simp only [Act.put, List.setIfInBounds_toArray, List.set_cons_zero, List.set_cons_succ, i64_w, i32_w]
  rfl
 refine one_ (i := 2) (N := some 20) #[true,true,true,true,false,true,true,false,false,false] rfl rfl (one_of HT_.out (by kernel_rfl)) (by decide) (fun K hK => ?_)
 refine goes_ Try.func84 (by kernel_rfl) rfl #[.agg #[.int .i64 a0_0, .int .i64 a0_1], .agg #[.int .i64 a2_0, .int .i64 a2_1]] (by rfl) rfl rfl al ?_
 with_reducible refine (spec_l2Step.calls a0_0 a0_1 a2_0 a2_1 t289 t290 _ A7.out).mono ?_
 rintro e w41 ⟨rfl, hb⟩
 refine ⟨_, rfl, ?_⟩
 have n0_ := Aside0.mk (blk_below (bf BK279.out) hb)
 have n1_ := Aside0.mk (blk_below (bf BK280.out) hb)
 have n2_ := Aside0.mk (blk_below (bf BK281.out) hb)
 have n3_ := Aside0.mk (blk_below (bf BK282.out) hb)
 have n4_ := Aside0.mk (blk_below (bf BK285.out) hb)
 have n5_ := Aside0.mk (blk_below (bf BK288.out) hb)
 have n6_ := Aside0.mk (below_step (lb HB.out) hb)
 clear BK279 BK280 BK281 BK282 BK285 BK288 HB
 have BK279 := n0_
 have BK280 := n1_
 have BK281 := n2_
 have BK282 := n3_
 have BK285 := n4_
 have BK288 := n5_
 have HB := n6_
 clear n0_ n1_ n2_ n3_ n4_ n5_ n6_
 (try clear hb);(try clear hb2);(try clear hk);(try clear hi)
 refine hK.out _ _ ⟨(blk_cell BK279.out 0).trans rfl, (blk_cell BK279.out 1).trans rfl, (blk_cell BK281.out 0).trans rfl, (blk_cell BK281.out 1).trans rfl, (blk_cell BK288.out 0).trans rfl, (blk_cell BK288.out 1).trans rfl, (blk_cell BK285.out 0).trans rfl, (blk_cell BK285.out 1).trans rfl⟩ (fun hHeld => ?_)
 clear hK K
 refine norm_ (a' := ?_) ?_ ?_
 rotate_left
 ·show Act.put _ (some 20) _ = _
  simp only [Act.put, List.setIfInBounds_toArray, List.set_cons_zero, List.set_cons_succ, i64_w, i32_w]
  rfl
 refine one_ (i := 4) (N := some 22) #[true,true,true,true,true,true,true,false,false,false] rfl rfl (one_of HT_.out (by kernel_rfl)) (by decide) (fun K hK => ?_)
 refine goes_ Try.func78 (by kernel_rfl) rfl #[.agg #[.int .i64 t289, .int .i64 t290], .agg #[.int .i64 t286, .int .i64 t287]] (by rfl) rfl rfl al ?_
 with_reducible refine (spec_l2Cross.calls t289 t290 t286 t287 t291 _ A8.out).mono ?_
 rintro e w42 ⟨rfl, hb⟩
 refine ⟨_, rfl, ?_⟩
 have n0_ := Aside0.mk (blk_below (bf BK279.out) hb)
 have n1_ := Aside0.mk (blk_below (bf BK280.out) hb)
 have n2_ := Aside0.mk (blk_below (bf BK281.out) hb)
 have n3_ := Aside0.mk (blk_below (bf BK282.out) hb)
 have n4_ := Aside0.mk (blk_below (bf BK285.out) hb)
 have n5_ := Aside0.mk (blk_below (bf BK288.out) hb)
 have n6_ := Aside0.mk (below_step (lb HB.out) hb)
 clear BK279 BK280 BK281 BK282 BK285 BK288 HB
 have BK279 := n0_
 have BK280 := n1_
 have BK281 := n2_
 have BK282 := n3_
 have BK285 := n4_
 have BK288 := n5_
 have HB := n6_
 clear n0_ n1_ n2_ n3_ n4_ n5_ n6_
 (try clear hb);(try clear hb2);(try clear hk);(try clear hi)
 refine hK.out _ _ ⟨(blk_cell BK279.out 0).trans rfl, (blk_cell BK279.out 1).trans rfl, (blk_cell BK281.out 0).trans rfl, (blk_cell BK281.out 1).trans rfl, (blk_cell BK288.out 0).trans rfl, (blk_cell BK288.out 1).trans rfl, (blk_cell BK285.out 0).trans rfl, (blk_cell BK285.out 1).trans rfl⟩ (fun hHeld => ?_)
 clear hK K
 refine norm_ (a' := ?_) ?_ ?_
 rotate_left
 ·show Act.put _ (some 22) _ = _
  simp only [Act.put, List.setIfInBounds_toArray, List.set_cons_zero, List.set_cons_succ, i64_w, i32_w]
  rfl
 refine one_ (i := 7) (N := some 25) #[true,true,true,true,true,true,true,true,false,false] rfl rfl (one_of HT_.out (by kernel_rfl)) (by decide) (fun K hK => ?_)
 refine goes_ Try.func78 (by kernel_rfl) rfl #[.agg #[.int .i64 t283, .int .i64 t284], .agg #[.int .i64 t286, .int .i64 t287]] (by rfl) rfl rfl al ?_
 with_reducible refine (spec_l2Cross.calls t283 t284 t286 t287 t292 _ A9.out).mono ?_
 rintro e w43 ⟨rfl, hb⟩
 refine ⟨_, rfl, ?_⟩
 have n0_ := Aside0.mk (blk_below (bf BK279.out) hb)
 have n1_ := Aside0.mk (blk_below (bf BK280.out) hb)
 have n2_ := Aside0.mk (blk_below (bf BK281.out) hb)
 have n3_ := Aside0.mk (blk_below (bf BK282.out) hb)
 have n4_ := Aside0.mk (blk_below (bf BK285.out) hb)
 have n5_ := Aside0.mk (blk_below (bf BK288.out) hb)
 have n6_ := Aside0.mk (below_step (lb HB.out) hb)
 clear BK279 BK280 BK281 BK282 BK285 BK288 HB
 have BK279 := n0_
 have BK280 := n1_
 have BK281 := n2_
 have BK282 := n3_
 have BK285 := n4_
 have BK288 := n5_
 have HB := n6_
 clear n0_ n1_ n2_ n3_ n4_ n5_ n6_
 (try clear hb);(try clear hb2);(try clear hk);(try clear hi)
 refine hK.out _ _ ⟨(blk_cell BK279.out 0).trans rfl, (blk_cell BK279.out 1).trans rfl, (blk_cell BK281.out 0).trans rfl, (blk_cell BK281.out 1).trans rfl, (blk_cell BK288.out 0).trans rfl, (blk_cell BK288.out 1).trans rfl, (blk_cell BK285.out 0).trans rfl, (blk_cell BK285.out 1).trans rfl⟩ (fun hHeld => ?_)
 clear hK K
 refine norm_ (a' := ?_) ?_ ?_
 rotate_left
 ·show Act.put _ (some 25) _ = _
  simp only [Act.put, List.setIfInBounds_toArray, List.set_cons_zero, List.set_cons_succ, i64_w, i32_w]
  rfl
 refine pure_ (i := 8) (N := some 8) (v := ?_) (a' := ?_) #[true,true,true,true,true,true,true,true,true,false] rfl rfl (any_of HT_.out (by kernel_rfl)) (fun _ _ _ h => h) (Or.inl ⟨by rfl, ?_⟩) ?_ ?_
 rotate_left
 ·intro w'
  go_simp
  with_reducible rfl
 rotate_left
 ·simp only [Act.put, List.setIfInBounds_toArray, List.set_cons_zero, List.set_cons_succ, i64_w, i32_w]
  rfl
 refine pure_ (i := 9) (N := some 9) (v := ?_) (a' := ?_) #[true,true,true,true,true,true,true,true,true,true] rfl rfl (any_of HT_.out (by kernel_rfl)) (fun _ _ _ h => h) (Or.inl ⟨by rfl, ?_⟩) ?_ ?_
 rotate_left
 ·intro w'
  go_simp
  with_reducible rfl
 rotate_left
 ·simp only [Act.put, List.setIfInBounds_toArray, List.set_cons_zero, List.set_cons_succ, i64_w, i32_w]
  rfl
 refine done_ (done_of HT_.out (by kernel_rfl)) ?_
 try go_wp2
 go_ret2
 exact ⟨er, lb HB.out⟩
def spec_l1Sign.f (a0 : Int) : Option (Int) := some (mx (-1) (mn 1 a0))
set_option maxHeartbeats 8000000 in
set_option maxRecDepth 100000 in
theorem spec_l1Sign.calls (a0 : Int) (r : Int) (w : World) (h : spec_l1Sign.f a0 = some r) :
  Calls Try.prog 83 #[.int .i64 a0] w fun e w' => e = .returned (.int .i64 r) ∧ Below w.heap.size w w' := by
 have HB := Aside0.mk (Below.refl w.heap.size w)
 have H : (some (mx (-1) (mn 1 a0))) = some r := h
 clear h
 obtain ⟨ji2, hji2⟩ : ∃ j_ : Int, (mn 1 a0) = j_ := ⟨_, rfl⟩
 replace H : (some (mx (-1) (ji2))) = some r := by first | (rw [hji2] at H; exact H) | (simp only [hji2] at H ⊢; exact H)
 (try (have hji2h : ji2 ≤ 1 := by (rw [← hji2]; unfold mn; (repeat' split) <;> omega)))
 (try (have hji2g : ji2 ≤ 64 := by omega))
 have hji2_ : (if a0 < 1 then a0 else 1) = ji2 := hji2
 obtain ⟨ji3, hji3⟩ : ∃ j_ : Int, (mx (-1) (ji2)) = j_ := ⟨_, rfl⟩
 replace H : (some ji3) = some r := by first | (rw [hji3] at H; exact H) | (simp only [hji3] at H ⊢; exact H)
 have hji3_ : (if (-1) < (ji2) then (ji2) else (-1)) = ji3 := hji3
 obtain rfl := Option.some.inj H
 go_enter Try.func83, Try.ntmps83
 go_wp2
 go_ret
 exact ⟨by first | rfl | (simp [errW_none, errW_some] <;> rfl) | (simp only [← hji2, ← hji3]; first | rfl | (simp [errW_none, errW_some] <;> rfl)) | (simp [*, errW_none, errW_some] <;> rfl), lb HB.out⟩
def spec_l31Side.f (a0_0 : Int) (a0_1 : Int) (a1_0 : Int) (a1_1 : Int) (a2_0 : Int) (a2_1 : Int) : Option (Int) := (spec_l2Step.f a0_0 a0_1 a1_0 a1_1).bind fun bt296 => ((spec_l2Step.f a0_0 a0_1 a2_0 a2_1).bind fun bt298 => ((spec_l2Cross.f bt296.1 bt296.2 bt298.1 bt298.2).bind fun t300 => ((spec_l1Sign.f t300).bind fun t301 => (some t301))))
def spec_l31Side.T1 : Bool × List (List Nat × List Nat) := (true,[([],[]),([],[]),([0,1],[0,1]),([],[]),([],[]),([3,4,2],[3,4]),([2,5,5],[2,5]),([6,6],[6]),([7,7,0,1,2,3,4,5,6,7],[7])])
def spec_l31Side.B1 : List Nat := [0,0,3,0,0,31,63,127,255]
theorem spec_l31Side.tab1 : rtab .any (opsOf Try.f55 1) = spec_l31Side.T1 := by kernel_rfl
theorem spec_l31Side.bits1 : waitsOk spec_l31Side.T1.2 spec_l31Side.B1 = true := by kernel_rfl
set_option maxHeartbeats 8000000 in
set_option maxRecDepth 100000 in
theorem spec_l31Side.calls (a0_0 : Int) (a0_1 : Int) (a1_0 : Int) (a1_1 : Int) (a2_0 : Int) (a2_1 : Int) (r : Int) (w : World) (h : spec_l31Side.f a0_0 a0_1 a1_0 a1_1 a2_0 a2_1 = some r) :
  Calls Try.prog 55 #[.agg #[.int .i64 a0_0, .int .i64 a0_1], .agg #[.int .i64 a1_0, .int .i64 a1_1], .agg #[.int .i64 a2_0, .int .i64 a2_1]] w fun e w' => e = .returned (.int .i64 r) ∧ Below w.heap.size w w' := by
 have hu33 := Try.underlying33
 have HB := Aside0.mk (Below.refl w.heap.size w)
 have H : ((spec_l2Step.f a0_0 a0_1 a1_0 a1_1).bind fun bt296 => ((spec_l2Step.f a0_0 a0_1 a2_0 a2_1).bind fun bt298 => ((spec_l2Cross.f bt296.1 bt296.2 bt298.1 bt298.2).bind fun t300 => ((spec_l1Sign.f t300).bind fun t301 => (some t301))))) = some r := h
 clear h
 replace H := Option.bind_eq_some_iff.mp H
 obtain ⟨⟨t296, t297⟩, A40, H⟩ := H
 replace H : ((spec_l2Step.f a0_0 a0_1 a2_0 a2_1).bind fun bt298 => ((spec_l2Cross.f t296 t297 bt298.1 bt298.2).bind fun t300 => ((spec_l1Sign.f t300).bind fun t301 => (some t301)))) = some r := H
 have A4 := Aside0.mk A40
 clear A40
 replace H := Option.bind_eq_some_iff.mp H
 obtain ⟨⟨t298, t299⟩, A50, H⟩ := H
 replace H : ((spec_l2Cross.f t296 t297 t298 t299).bind fun t300 => ((spec_l1Sign.f t300).bind fun t301 => (some t301))) = some r := H
 have A5 := Aside0.mk A50
 clear A50
 replace H := Option.bind_eq_some_iff.mp H
 obtain ⟨t300, A60, H⟩ := H
 replace H : ((spec_l1Sign.f t300).bind fun t301 => (some t301)) = some r := H
 have A6 := Aside0.mk A60
 clear A60
 replace H := Option.bind_eq_some_iff.mp H
 obtain ⟨t301, A70, H⟩ := H
 replace H : (some t301) = some r := H
 have A7 := Aside0.mk A70
 clear A70
 obtain rfl := Option.some.inj H
 go_enter Try.func55, Try.ntmps55
 try go_wp2_with (first | ((with_reducible refine gate_dst (N := 3) rfl ?_); refine box_event ?hg (N := 3) ?hd (cs := #[.int .i64 a0_0, .int .i64 a0_1]) (t := 33) ?hr ?_; (case hd => rfl); (case hg => rfl); (case hr => first | (go_simp; done) | (go_simp; rfl)); intro gb293 hg w8 hbox hb; have n0_ := Aside0.mk (below_step (lb HB.out) hb); have n1_ := Aside0.mk (hbox); have n2_ := Aside0.mk ((by rw [hg]; exact (below_size (lb HB.out)) : w.heap.size ≤ gb293)); have n3_ := Aside0.mk ((by rw [hg]; exact (below_size (lb HB.out)) : w.heap.size ≤ gb293)); clear HB; have HB := n0_; have BK293 := n1_; have GW293 := n2_; have GE293 := n3_; clear n0_ n1_ n2_ n3_; clear hb hbox hg) | ((with_reducible refine gate_dst (N := 4) rfl ?_); refine box_event ?hg (N := 4) ?hd (cs := #[.int .i64 a1_0, .int .i64 a1_1]) (t := 33) ?hr ?_; (case hd => rfl); (case hg => rfl); (case hr => first | (go_simp; done) | (go_simp; rfl)); intro gb294 hg w9 hbox hb; have n0_ := Aside0.mk (blk_below (bf BK293.out) hb); have n1_ := Aside0.mk (below_step (lb HB.out) hb); have n2_ := Aside0.mk (hbox); have n3_ := Aside0.mk ((by rw [hg]; exact (below_size (lb HB.out)) : w.heap.size ≤ gb294)); have n4_ := Aside0.mk ((by rw [hg]; exact (below_size (lb HB.out)) : w.heap.size ≤ gb294)); have n5_ := Aside0.mk ((by rw [hg]; exact Nat.ne_of_lt (blk_lt (bf BK293.out)) : gb293 ≠ gb294)); have n6_ := Aside0.mk ((by rw [hg]; exact Nat.ne_of_gt (blk_lt (bf BK293.out)) : gb294 ≠ gb293)); clear BK293; clear HB; have BK293 := n0_; have HB := n1_; have BK294 := n2_; have GW294 := n3_; have GE294 := n4_; have NB293_294 := n5_; have NB294_293 := n6_; clear n0_ n1_ n2_ n3_ n4_ n5_ n6_; clear hb hbox hg) | ((with_reducible refine gate_dst (N := 5) rfl ?_); refine box_event ?hg (N := 5) ?hd (cs := #[.int .i64 a2_0, .int .i64 a2_1]) (t := 33) ?hr ?_; (case hd => rfl); (case hg => rfl); (case hr => first | (go_simp; done) | (go_simp; rfl)); intro gb295 hg w10 hbox hb; have n0_ := Aside0.mk (blk_below (bf BK293.out) hb); have n1_ := Aside0.mk (blk_below (bf BK294.out) hb); have n2_ := Aside0.mk (below_step (lb HB.out) hb); have n3_ := Aside0.mk (hbox); have n4_ := Aside0.mk ((by rw [hg]; exact (below_size (lb HB.out)) : w.heap.size ≤ gb295)); have n5_ := Aside0.mk ((by rw [hg]; exact (below_size (lb HB.out)) : w.heap.size ≤ gb295)); have n6_ := Aside0.mk ((by rw [hg]; exact Nat.ne_of_lt (blk_lt (bf BK293.out)) : gb293 ≠ gb295)); have n7_ := Aside0.mk ((by rw [hg]; exact Nat.ne_of_gt (blk_lt (bf BK293.out)) : gb295 ≠ gb293)); have n8_ := Aside0.mk ((by rw [hg]; exact Nat.ne_of_lt (blk_lt (bf BK294.out)) : gb294 ≠ gb295)); have n9_ := Aside0.mk ((by rw [hg]; exact Nat.ne_of_gt (blk_lt (bf BK294.out)) : gb295 ≠ gb294)); clear BK293; clear BK294; clear HB; have BK293 := n0_; have BK294 := n1_; have HB := n2_; have BK295 := n3_; have GW295 := n4_; have GE295 := n5_; have NB293_295 := n6_; have NB295_293 := n7_; have NB294_295 := n8_; have NB295_294 := n9_; clear n0_ n1_ n2_ n3_ n4_ n5_ n6_ n7_ n8_ n9_; clear hb hbox hg))
 have n0_ := Aside0.mk (blk_drew BK293.out)
 have n1_ := Aside0.mk (blk_drew BK294.out)
 have n2_ := Aside0.mk (blk_drew BK295.out)
 have n3_ := Aside0.mk (below_drew1 HB.out)
 clear BK293 BK294 BK295 HB
 have BK293 := n0_
 have BK294 := n1_
 have BK295 := n2_
 have HB := n3_
 clear n0_ n1_ n2_ n3_
 refine start_ (n := 9) (S := fun w' => w'.cell? ⟨gb293, 0, none⟩ = some (.int .i64 a0_0) ∧ w'.cell? ⟨gb293, 1, none⟩ = some (.int .i64 a0_1) ∧ w'.cell? ⟨gb294, 0, none⟩ = some (.int .i64 a1_0) ∧ w'.cell? ⟨gb294, 1, none⟩ = some (.int .i64 a1_1) ∧ w'.cell? ⟨gb295, 0, none⟩ = some (.int .i64 a2_0) ∧ w'.cell? ⟨gb295, 1, none⟩ = some (.int .i64 a2_1)) (ds := []) #[false,false,false,false,false,false,false,false,false] (by kernel_rfl) rfl rfl ⟨(blk_cell BK293.out 0).trans rfl, (blk_cell BK293.out 1).trans rfl, (blk_cell BK294.out 0).trans rfl, (blk_cell BK294.out 1).trans rfl, (blk_cell BK295.out 0).trans rfl, (blk_cell BK295.out 1).trans rfl⟩ (fun hHeld => ?_); refine with_tabW spec_l31Side.tab1 spec_l31Side.bits1 (fun HT_ HW_ => ?_)
 generalize w10.drew = w11 at BK293 BK294 BK295 HB hHeld ⊢
 refine take_ (i := 0) (N := some 7) (v := ?_) (a' := ?_) #[true,false,false,false,false,false,false,false,false] rfl rfl (take_ofW HT_.out HW_.out (by kernel_rfl)) (fun _ _ _ h => h) (Or.inl ⟨by rfl, ?_⟩) hHeld ?_ ?_
 rotate_left
 ·rintro w' ⟨s0, s1, s2, s3, s4, s5⟩
  go_simp
  with_reducible rfl
 rotate_left
 ·simp only [Act.put, List.setIfInBounds_toArray, List.set_cons_zero, List.set_cons_succ, i64_w, i32_w]
  rfl
 refine take_ (i := 1) (N := some 8) (v := ?_) (a' := ?_) #[true,true,false,false,false,false,false,false,false] rfl rfl (take_ofW HT_.out HW_.out (by kernel_rfl)) (fun _ _ _ h => h) (Or.inl ⟨by rfl, ?_⟩) hHeld ?_ ?_
 rotate_left
 ·rintro w' ⟨s0, s1, s2, s3, s4, s5⟩
  go_simp
  with_reducible rfl
 rotate_left
 ·simp only [Act.put, List.setIfInBounds_toArray, List.set_cons_zero, List.set_cons_succ, i64_w, i32_w]
  rfl
 refine take_ (i := 3) (N := some 10) (v := ?_) (a' := ?_) #[true,true,false,true,false,false,false,false,false] rfl rfl (take_ofW HT_.out HW_.out (by kernel_rfl)) (fun _ _ _ h => h) (Or.inl ⟨by rfl, ?_⟩) hHeld ?_ ?_
 rotate_left
 ·rintro w' ⟨s0, s1, s2, s3, s4, s5⟩
  go_simp
  with_reducible rfl
 rotate_left
 ·simp only [Act.put, List.setIfInBounds_toArray, List.set_cons_zero, List.set_cons_succ, i64_w, i32_w]
  rfl
 refine take_ (i := 4) (N := some 11) (v := ?_) (a' := ?_) #[true,true,false,true,true,false,false,false,false] rfl rfl (take_ofW HT_.out HW_.out (by kernel_rfl)) (fun _ _ _ h => h) (Or.inl ⟨by rfl, ?_⟩) hHeld ?_ ?_
 rotate_left
 ·rintro w' ⟨s0, s1, s2, s3, s4, s5⟩
  go_simp
  with_reducible rfl
 rotate_left
 ·simp only [Act.put, List.setIfInBounds_toArray, List.set_cons_zero, List.set_cons_succ, i64_w, i32_w]
  rfl
 refine one_ (i := 2) (N := some 9) #[true,true,true,true,true,false,false,false,false] rfl rfl (one_of HT_.out (by kernel_rfl)) (by decide) (fun K hK => ?_)
 refine goes_ Try.func84 (by kernel_rfl) rfl #[.agg #[.int .i64 a0_0, .int .i64 a0_1], .agg #[.int .i64 a1_0, .int .i64 a1_1]] (by rfl) rfl rfl al ?_
 with_reducible refine (spec_l2Step.calls a0_0 a0_1 a1_0 a1_1 t296 t297 _ A4.out).mono ?_
 rintro e w12 ⟨rfl, hb⟩
 refine ⟨_, rfl, ?_⟩
 have n0_ := Aside0.mk (blk_below (bf BK293.out) hb)
 have n1_ := Aside0.mk (blk_below (bf BK294.out) hb)
 have n2_ := Aside0.mk (blk_below (bf BK295.out) hb)
 have n3_ := Aside0.mk (below_step (lb HB.out) hb)
 clear BK293 BK294 BK295 HB
 have BK293 := n0_
 have BK294 := n1_
 have BK295 := n2_
 have HB := n3_
 clear n0_ n1_ n2_ n3_
 (try clear hb);(try clear hb2);(try clear hk);(try clear hi)
 refine hK.out _ _ ⟨(blk_cell BK293.out 0).trans rfl, (blk_cell BK293.out 1).trans rfl, (blk_cell BK294.out 0).trans rfl, (blk_cell BK294.out 1).trans rfl, (blk_cell BK295.out 0).trans rfl, (blk_cell BK295.out 1).trans rfl⟩ (fun hHeld => ?_)
 clear hK K
 refine norm_ (a' := ?_) ?_ ?_
 rotate_left
 ·show Act.put _ (some 9) _ = _
  simp only [Act.put, List.setIfInBounds_toArray, List.set_cons_zero, List.set_cons_succ, i64_w, i32_w]
  rfl
 refine one_ (i := 5) (N := some 12) #[true,true,true,true,true,true,false,false,false] rfl rfl (one_of HT_.out (by kernel_rfl)) (by decide) (fun K hK => ?_)
 refine goes_ Try.func84 (by kernel_rfl) rfl #[.agg #[.int .i64 a0_0, .int .i64 a0_1], .agg #[.int .i64 a2_0, .int .i64 a2_1]] (by rfl) rfl rfl al ?_
 with_reducible refine (spec_l2Step.calls a0_0 a0_1 a2_0 a2_1 t298 t299 _ A5.out).mono ?_
 rintro e w13 ⟨rfl, hb⟩
 refine ⟨_, rfl, ?_⟩
 have n0_ := Aside0.mk (blk_below (bf BK293.out) hb)
 have n1_ := Aside0.mk (blk_below (bf BK294.out) hb)
 have n2_ := Aside0.mk (blk_below (bf BK295.out) hb)
 have n3_ := Aside0.mk (below_step (lb HB.out) hb)
 clear BK293 BK294 BK295 HB
 have BK293 := n0_
 have BK294 := n1_
 have BK295 := n2_
 have HB := n3_
 clear n0_ n1_ n2_ n3_
 (try clear hb);(try clear hb2);(try clear hk);(try clear hi)
 refine hK.out _ _ ⟨(blk_cell BK293.out 0).trans rfl, (blk_cell BK293.out 1).trans rfl, (blk_cell BK294.out 0).trans rfl, (blk_cell BK294.out 1).trans rfl, (blk_cell BK295.out 0).trans rfl, (blk_cell BK295.out 1).trans rfl⟩ (fun hHeld => ?_)
 clear hK K
 refine norm_ (a' := ?_) ?_ ?_
 rotate_left
 ·show Act.put _ (some 12) _ = _
  simp only [Act.put, List.setIfInBounds_toArray, List.set_cons_zero, List.set_cons_succ, i64_w, i32_w]
  rfl
 refine one_ (i := 6) (N := some 13) #[true,true,true,true,true,true,true,false,false] rfl rfl (one_of HT_.out (by kernel_rfl)) (by decide) (fun K hK => ?_)
 refine goes_ Try.func78 (by kernel_rfl) rfl #[.agg #[.int .i64 t296, .int .i64 t297], .agg #[.int .i64 t298, .int .i64 t299]] (by rfl) rfl rfl al ?_
 with_reducible refine (spec_l2Cross.calls t296 t297 t298 t299 t300 _ A6.out).mono ?_
 rintro e w14 ⟨rfl, hb⟩
 refine ⟨_, rfl, ?_⟩
 have n0_ := Aside0.mk (blk_below (bf BK293.out) hb)
 have n1_ := Aside0.mk (blk_below (bf BK294.out) hb)
 have n2_ := Aside0.mk (blk_below (bf BK295.out) hb)
 have n3_ := Aside0.mk (below_step (lb HB.out) hb)
 clear BK293 BK294 BK295 HB
 have BK293 := n0_
 have BK294 := n1_
 have BK295 := n2_
 have HB := n3_
 clear n0_ n1_ n2_ n3_
 (try clear hb);(try clear hb2);(try clear hk);(try clear hi)
 refine hK.out _ _ ⟨(blk_cell BK293.out 0).trans rfl, (blk_cell BK293.out 1).trans rfl, (blk_cell BK294.out 0).trans rfl, (blk_cell BK294.out 1).trans rfl, (blk_cell BK295.out 0).trans rfl, (blk_cell BK295.out 1).trans rfl⟩ (fun hHeld => ?_)
 clear hK K
 refine norm_ (a' := ?_) ?_ ?_
 rotate_left
 ·show Act.put _ (some 13) _ = _
  simp only [Act.put, List.setIfInBounds_toArray, List.set_cons_zero, List.set_cons_succ, i64_w, i32_w]
  rfl
 refine one_ (i := 7) (N := some 14) #[true,true,true,true,true,true,true,true,false] rfl rfl (one_of HT_.out (by kernel_rfl)) (by decide) (fun K hK => ?_)
 refine goes_ Try.func83 (by kernel_rfl) rfl #[.int .i64 t300] (by rfl) rfl rfl al ?_
 with_reducible refine (spec_l1Sign.calls t300 t301 _ A7.out).mono ?_
 rintro e w15 ⟨rfl, hb⟩
 refine ⟨_, rfl, ?_⟩
 have n0_ := Aside0.mk (blk_below (bf BK293.out) hb)
 have n1_ := Aside0.mk (blk_below (bf BK294.out) hb)
 have n2_ := Aside0.mk (blk_below (bf BK295.out) hb)
 have n3_ := Aside0.mk (below_step (lb HB.out) hb)
 clear BK293 BK294 BK295 HB
 have BK293 := n0_
 have BK294 := n1_
 have BK295 := n2_
 have HB := n3_
 clear n0_ n1_ n2_ n3_
 (try clear hb);(try clear hb2);(try clear hk);(try clear hi)
 refine hK.out _ _ ⟨(blk_cell BK293.out 0).trans rfl, (blk_cell BK293.out 1).trans rfl, (blk_cell BK294.out 0).trans rfl, (blk_cell BK294.out 1).trans rfl, (blk_cell BK295.out 0).trans rfl, (blk_cell BK295.out 1).trans rfl⟩ (fun hHeld => ?_)
 clear hK K
 refine norm_ (a' := ?_) ?_ ?_
 rotate_left
 ·show Act.put _ (some 14) _ = _
  simp only [Act.put, List.setIfInBounds_toArray, List.set_cons_zero, List.set_cons_succ, i64_w, i32_w]
  rfl
 refine pure_ (i := 8) (N := some 6) (v := ?_) (a' := ?_) #[true,true,true,true,true,true,true,true,true] rfl rfl (any_of HT_.out (by kernel_rfl)) (fun _ _ _ h => h) (Or.inl ⟨by rfl, ?_⟩) ?_ ?_
 rotate_left
 ·intro w'
  go_simp
  with_reducible rfl
 rotate_left
 ·simp only [Act.put, List.setIfInBounds_toArray, List.set_cons_zero, List.set_cons_succ, i64_w, i32_w]
  rfl
 refine done_ (done_of HT_.out (by kernel_rfl)) ?_
 try go_wp2
 go_ret
 exact ⟨er, lb HB.out⟩
end Go.Proofs.Ytfonigbkoligmaa.P
-- squeezed

-- Written by a program of this session (wip/xprint.py over the print's own program), not by print.sh. Lean checks it.
import Derived.Test.YtgoejfdciejikaaPx0
import Derived.Test.YtgoejfdciejikaaPx19
import Derived.Test.YtgoejfdciejikaaPx20
namespace Go.Proofs.Ytgoejfdciejikaa.P
open Go.RowKit Go.Proofs.YtgoejfdciejikaaW.PrintWords Go.Proofs.YtgoejfdciejikaaW.PrintLast Go.Proofs.YtgoejfdciejikaaW.PrintMore
attribute [local go_sem] max2_int min2_int max_two min_two max_three min_three max_four min_four   -- for this text's walks alone
set_option linter.unusedVariables false
set_option linter.unusedSimpArgs false

-- EXTERNAL impl_QuoAdd: function 29
theorem wholeParts (x : Int) (w : World) : Calls Try.prog 98 #[.int .i64 x] w fun e w' => e = .returned (.tuple #[.int .i64 x, .int .i64 1]) ∧ w' = w := by
  go_enter Try.func98, Try.ntmps98
  go_wp2
  exact bodyPost_ret (v := .tuple #[.int .i64 x, .int .i64 1]) (results_list (rs := [.tmp 2, .tmp 3]) (vs := [.int .i64 x, .int .i64 1]) rfl (by simp) (.tmp (.tmp .nil))) rfl ⟨rfl, rfl⟩
theorem brokenParts (x y : Int) (w : World) : Calls Try.prog 99 #[.agg #[.int .i64 x, .int .i64 y]] w fun e w' => e = .returned (.tuple #[.int .i64 x, .int .i64 y]) ∧ Below w.heap.size w w' := by
  have HM := Aside0.mk (Hd.nil w)
  go_enter Try.func99, Try.ntmps99
  go_upto_region 1 with ((with_reducible refine gate_dst (N := 1) rfl ?_); refine box_event ?hg (N := 1) ?hd (cs := #[.int .i64 x, .int .i64 y]) (t := 99) ?hr ?_; (case hd => rfl); (case hg => rfl); (case hr => first | (go_simp; done) | (go_simp; rfl)); intro g1 e_ w_ b_ hb; replace HM := Aside0.mk (HM.out.box hb b_ e_); clear e_ b_ hb)
  have ka0 := blk_cell HM.out.a0 0
  have ka1 := blk_cell HM.out.a0 1
  go_region
  all_goals
    go_wp2_with fail
    first | exact bodyPost_ret (v := .tuple #[.int .i64 x, .int .i64 y]) (results_list (rs := [.tmp 2, .tmp 3]) (vs := [.int .i64 x, .int .i64 y]) rfl (by simp) (.tmp (.tmp .nil))) rfl ⟨rfl, HM.out.1⟩ | exact bodyPost_ret (v := .tuple #[.int .i64 x, .int .i64 y]) (results_list (rs := [.tmp 2, .tmp 3]) (vs := [.int .i64 x, .int .i64 y]) rfl (by simp) (.tmp (.tmp .nil))) rfl ⟨rfl, HM.out.drew.1⟩
/-- The inner form of a valid quotient. -/
def qv (t l : Int) : Value := if l = 1 then .iface 97 (.int .i64 t) else .iface 99 (.agg #[.int .i64 t, .int .i64 l])
theorem qof_no (k : Nat) (t l : Int) (hv : impl_QuoValid.f k t l = some false) (w : World) : Calls Try.prog 54 #[.agg #[.int .i64 t, .int .i64 l]] w fun e w' => e = .returned (.tuple #[.nilIface, .bool false]) ∧ Below w.heap.size w w' := by
  have HV := Aside0.mk hv; clear hv
  have HM := Aside0.mk (Hd.nil w)
  go_enter Try.func54, Try.ntmps54
  go_upto_region 1 with ((with_reducible refine gate_dst (N := 1) rfl ?_); refine box_event ?hg (N := 1) ?hd (cs := #[.int .i64 t, .int .i64 l]) (t := 29) ?hr ?_; (case hd => rfl); (case hg => rfl); (case hr => first | (go_simp; done) | (go_simp; rfl)); intro g1 e_ w_ b_ hb; replace HM := Aside0.mk (HM.out.box hb b_ e_); clear e_ b_ hb)
  have ka0 := blk_cell HM.out.a0 0
  have ka1 := blk_cell HM.out.a0 1
  go_wp2_with (go_at_call 56; (with_reducible refine (impl_QuoValid.calls k t l _ _ HV.out).mono ?_); rintro e w_ ⟨rfl, hb⟩; replace HM := Aside0.mk (HM.out.keep hb); clear hb; (try clear ka0 ka1); have ka0 := blk_cell HM.out.a0 0; have ka1 := blk_cell HM.out.a0 1)
  exact bodyPost_ret (v := .tuple #[.nilIface, .bool false]) (results_list (rs := [.tmp 2, .tmp 3]) (vs := [.nilIface, .bool false]) rfl (by simp) (.tmp (.tmp .nil))) rfl ⟨rfl, HM.out.1⟩
theorem qof_w (k : Nat) (t : Int) (hv : impl_QuoValid.f k t 1 = some true) (w : World) : Calls Try.prog 54 #[.agg #[.int .i64 t, .int .i64 1]] w fun e w' => e = .returned (.tuple #[.iface 97 (.int .i64 t), .bool true]) ∧ Below w.heap.size w w' := by
  have HV := Aside0.mk hv; clear hv
  have HM := Aside0.mk (Hd.nil w)
  go_enter Try.func54, Try.ntmps54
  go_upto_region 1 with ((with_reducible refine gate_dst (N := 1) rfl ?_); refine box_event ?hg (N := 1) ?hd (cs := #[.int .i64 t, .int .i64 1]) (t := 29) ?hr ?_; (case hd => rfl); (case hg => rfl); (case hr => first | (go_simp; done) | (go_simp; rfl)); intro g1 e_ w_ b_ hb; replace HM := Aside0.mk (HM.out.box hb b_ e_); clear e_ b_ hb)
  have ka0 := blk_cell HM.out.a0 0
  have ka1 := blk_cell HM.out.a0 1
  go_wp2_with (go_at_call 56; (with_reducible refine (impl_QuoValid.calls k t 1 _ _ HV.out).mono ?_); rintro e w_ ⟨rfl, hb⟩; replace HM := Aside0.mk (HM.out.keep hb); clear hb; (try clear ka0 ka1); have ka0 := blk_cell HM.out.a0 0; have ka1 := blk_cell HM.out.a0 1)
  exact bodyPost_ret (v := .tuple #[.iface 97 (.int .i64 t), .bool true]) (results_list (rs := [.tmp 2, .tmp 3]) (vs := [.iface 97 (.int .i64 t), .bool true]) rfl (by simp) (.tmp (.tmp .nil))) rfl ⟨rfl, HM.out.1⟩
theorem qof_b (k : Nat) (t l : Int) (hv : impl_QuoValid.f k t l = some true) (hl : l ≠ 1) (w : World) : Calls Try.prog 54 #[.agg #[.int .i64 t, .int .i64 l]] w fun e w' => e = .returned (.tuple #[.iface 99 (.agg #[.int .i64 t, .int .i64 l]), .bool true]) ∧ Below w.heap.size w w' := by
  have HV := Aside0.mk hv; clear hv; have hlb : (l == 1) = false := by simpa using hl
  have HM := Aside0.mk (Hd.nil w)
  go_enter Try.func54, Try.ntmps54
  go_upto_region 1 with ((with_reducible refine gate_dst (N := 1) rfl ?_); refine box_event ?hg (N := 1) ?hd (cs := #[.int .i64 t, .int .i64 l]) (t := 29) ?hr ?_; (case hd => rfl); (case hg => rfl); (case hr => first | (go_simp; done) | (go_simp; rfl)); intro g1 e_ w_ b_ hb; replace HM := Aside0.mk (HM.out.box hb b_ e_); clear e_ b_ hb)
  have ka0 := blk_cell HM.out.a0 0
  have ka1 := blk_cell HM.out.a0 1
  go_wp2_with (go_at_call 56; (with_reducible refine (impl_QuoValid.calls k t l _ _ HV.out).mono ?_); rintro e w_ ⟨rfl, hb⟩; replace HM := Aside0.mk (HM.out.keep hb); clear hb; (try clear ka0 ka1); have ka0 := blk_cell HM.out.a0 0; have ka1 := blk_cell HM.out.a0 1)
  exact bodyPost_ret (v := .tuple #[.iface 99 (.agg #[.int .i64 t, .int .i64 l]), .bool true]) (results_list (rs := [.tmp 2, .tmp 3]) (vs := [.iface 99 (.agg #[.int .i64 t, .int .i64 l]), .bool true]) rfl (by simp) (.tmp (.tmp .nil))) rfl ⟨rfl, HM.out.1⟩
theorem qof_yes (k : Nat) (t l : Int) (hv : impl_QuoValid.f k t l = some true) (w : World) : Calls Try.prog 54 #[.agg #[.int .i64 t, .int .i64 l]] w fun e w' => e = .returned (.tuple #[qv t l, .bool true]) ∧ Below w.heap.size w w' := by
  unfold qv
  by_cases hl : l = 1
  · subst hl; rw [if_pos rfl]; exact qof_w k t hv w
  · rw [if_neg hl]; exact qof_b k t l hv hl w
theorem ta_ww (v : Value) (w : World) : (Instr.typeAssert (.iface 97 v) 73 97 true).run Try.prog w = .ok (.tuple #[v, .bool true]) w := by kernel_rfl
theorem ta_bw (v : Value) (w : World) : (Instr.typeAssert (.iface 99 v) 73 97 true).run Try.prog w = .ok (.tuple #[.int .i64 0, .bool false]) w := by kernel_rfl
theorem ta_bb (v : Value) (w : World) : (Instr.typeAssert (.iface 99 v) 73 99 true).run Try.prog w = .ok (.tuple #[v, .bool true]) w := by kernel_rfl
set_option maxHeartbeats 4000000 in
set_option maxRecDepth 100000 in
theorem sum_ww (k : Nat) (t1 t2 r1 r2 : Int) (r3 : Bool) (hq : impl_QuoOf.f k (wrap64 (wrap64 (t1) + t2)) (1) = some (r1, r2, r3)) (w : World) : Calls Try.prog 55 #[.iface 97 (.int .i64 t1), .iface 97 (.int .i64 t2)] w fun e w' => e = .returned (.tuple #[.agg #[.int .i64 r1, .int .i64 r2], .bool r3]) ∧ Below w.heap.size w w' := by
  have HQ := Aside0.mk hq
  clear hq
  have hm : ∀ w : World, (method 224 97 (.int .i64 t2) "loop.example/levellingnet/impl.parts").run Try.prog w = .ok (98, .int .i64 t2) w := fun _ => by kernel_rfl
  have q1 := ta_ww (.int .i64 t1)
  have HM := Aside0.mk (Hd.nil w)
  go_enter Try.func55, Try.ntmps55
  go_wp2_with (first
    | ((with_reducible refine gate_dst (N := 4) rfl ?_); refine box_event ?hg (N := 4) ?hd (cs := #[.int .i64 0, .int .i64 0]) (t := 29) ?hr ?_; (case hd => rfl); (case hg => rfl); (case hr => first | (go_simp; done) | (go_simp; rfl)); intro g4 e_ w_ b_ hb; replace HM := Aside0.mk (HM.out.box hb b_ e_); clear e_ b_ hb; have kr0 := blk_cell HM.out.a0 0; have kr1 := blk_cell HM.out.a0 1; have krf0 := blk_frozen HM.out.a0 0; have krf1 := blk_frozen HM.out.a0 1)
    | (go_at_call 98; (with_reducible refine (wholeParts t2 _).mono ?_); rintro e w_ ⟨rfl, rfl⟩)
    | (go_at_call 44; (with_reducible refine (impl_QuoOf.calls k (wrap64 (wrap64 (t1) + t2)) (1) r1 r2 r3 _ HQ.out).mono ?_); rintro e w_ ⟨rfl, hb⟩; replace HM := Aside0.mk (HM.out.keep hb); clear hb; (try clear kr0 krf0 kr1 krf1); have kr0 := blk_cell HM.out.a0 0; have kr1 := blk_cell HM.out.a0 1; have krf0 := blk_frozen HM.out.a0 0; have krf1 := blk_frozen HM.out.a0 1))
  have HZ := HM.out.put2 (.int .i64 r1) (.int .i64 r2)
  exact bodyPost_ret (results_ct rfl _ _ g4 29 #[.int .i64 r1, .int .i64 r2] (0, 0) _ rfl HZ.a0 Try.underlying29 rfl (by kernel_rfl)) rfl ⟨rfl, HZ.1⟩
set_option maxHeartbeats 4000000 in
set_option maxRecDepth 100000 in
theorem sum_wb (k : Nat) (t1 t2 l2 r1 r2 : Int) (r3 : Bool) (hq : impl_QuoOf.f k (wrap64 (wrap64 (t1 * l2) + t2)) (l2) = some (r1, r2, r3)) (w : World) : Calls Try.prog 55 #[.iface 97 (.int .i64 t1), .iface 99 (.agg #[.int .i64 t2, .int .i64 l2])] w fun e w' => e = .returned (.tuple #[.agg #[.int .i64 r1, .int .i64 r2], .bool r3]) ∧ Below w.heap.size w w' := by
  have HQ := Aside0.mk hq
  clear hq
  have hm : ∀ w : World, (method 224 99 (.agg #[.int .i64 t2, .int .i64 l2]) "loop.example/levellingnet/impl.parts").run Try.prog w = .ok (99, .agg #[.int .i64 t2, .int .i64 l2]) w := fun _ => by kernel_rfl
  have q1 := ta_ww (.int .i64 t1)
  have HM := Aside0.mk (Hd.nil w)
  go_enter Try.func55, Try.ntmps55
  go_wp2_with (first
    | ((with_reducible refine gate_dst (N := 4) rfl ?_); refine box_event ?hg (N := 4) ?hd (cs := #[.int .i64 0, .int .i64 0]) (t := 29) ?hr ?_; (case hd => rfl); (case hg => rfl); (case hr => first | (go_simp; done) | (go_simp; rfl)); intro g4 e_ w_ b_ hb; replace HM := Aside0.mk (HM.out.box hb b_ e_); clear e_ b_ hb; have kr0 := blk_cell HM.out.a0 0; have kr1 := blk_cell HM.out.a0 1; have krf0 := blk_frozen HM.out.a0 0; have krf1 := blk_frozen HM.out.a0 1)
    | (go_at_call 99; (with_reducible refine (brokenParts t2 l2 _).mono ?_); rintro e w_ ⟨rfl, hb⟩; replace HM := Aside0.mk (HM.out.keep hb); clear hb; (try clear kr0 krf0 kr1 krf1); have kr0 := blk_cell HM.out.a0 0; have kr1 := blk_cell HM.out.a0 1; have krf0 := blk_frozen HM.out.a0 0; have krf1 := blk_frozen HM.out.a0 1)
    | (go_at_call 44; (with_reducible refine (impl_QuoOf.calls k (wrap64 (wrap64 (t1 * l2) + t2)) (l2) r1 r2 r3 _ HQ.out).mono ?_); rintro e w_ ⟨rfl, hb⟩; replace HM := Aside0.mk (HM.out.keep hb); clear hb; (try clear kr0 krf0 kr1 krf1); have kr0 := blk_cell HM.out.a0 0; have kr1 := blk_cell HM.out.a0 1; have krf0 := blk_frozen HM.out.a0 0; have krf1 := blk_frozen HM.out.a0 1))
  have HZ := HM.out.put2 (.int .i64 r1) (.int .i64 r2)
  exact bodyPost_ret (results_ct rfl _ _ g4 29 #[.int .i64 r1, .int .i64 r2] (0, 0) _ rfl HZ.a0 Try.underlying29 rfl (by kernel_rfl)) rfl ⟨rfl, HZ.1⟩
set_option maxHeartbeats 4000000 in
set_option maxRecDepth 100000 in
theorem sum_bw (k : Nat) (t1 l1 t2 r1 r2 : Int) (r3 : Bool) (hq : impl_QuoOf.f k (wrap64 (wrap64 (t1) + wrap64 (t2 * l1))) (wrap64 l1) = some (r1, r2, r3)) (w : World) : Calls Try.prog 55 #[.iface 99 (.agg #[.int .i64 t1, .int .i64 l1]), .iface 97 (.int .i64 t2)] w fun e w' => e = .returned (.tuple #[.agg #[.int .i64 r1, .int .i64 r2], .bool r3]) ∧ Below w.heap.size w w' := by
  have HQ := Aside0.mk hq
  clear hq
  have hm : ∀ w : World, (method 224 97 (.int .i64 t2) "loop.example/levellingnet/impl.parts").run Try.prog w = .ok (98, .int .i64 t2) w := fun _ => by kernel_rfl
  have q1 := ta_bw (.agg #[.int .i64 t1, .int .i64 l1])
  have q2 := ta_bb (.agg #[.int .i64 t1, .int .i64 l1])
  have HM := Aside0.mk (Hd.nil w)
  go_enter Try.func55, Try.ntmps55
  go_wp2_with (first
    | ((with_reducible refine gate_dst (N := 4) rfl ?_); refine box_event ?hg (N := 4) ?hd (cs := #[.int .i64 0, .int .i64 0]) (t := 29) ?hr ?_; (case hd => rfl); (case hg => rfl); (case hr => first | (go_simp; done) | (go_simp; rfl)); intro g4 e_ w_ b_ hb; replace HM := Aside0.mk (HM.out.box hb b_ e_); clear e_ b_ hb; have kr0 := blk_cell HM.out.a0 0; have kr1 := blk_cell HM.out.a0 1; have krf0 := blk_frozen HM.out.a0 0; have krf1 := blk_frozen HM.out.a0 1)
    | ((with_reducible refine gate_dst (N := 9) rfl ?_); refine box_event ?hg (N := 9) ?hd (cs := #[.int .i64 0, .int .i64 0]) (t := 99) ?hr ?_; (case hd => rfl); (case hg => rfl); (case hr => first | (go_simp; done) | (go_simp; rfl)); intro g9 e_ w_ b_ hb; replace HM := Aside0.mk (HM.out.box hb b_ e_); clear e_ b_ hb; (try clear kr0 kr1 krf0 krf1); have kr0 := blk_cell HM.out.a1 0; have kr1 := blk_cell HM.out.a1 1; have krf0 := blk_frozen HM.out.a1 0; have krf1 := blk_frozen HM.out.a1 1; have kb0 := blk_cell HM.out.a0 0; have kb1 := blk_cell HM.out.a0 1; have kbf0 := blk_frozen HM.out.a0 0; have kbf1 := blk_frozen HM.out.a0 1; have n1 := HM.out.ne.1; have n2 := HM.out.ne.2; simp only [] at n1 n2)
    | (go_at_call 98; (with_reducible refine (wholeParts t2 _).mono ?_); rintro e w_ ⟨rfl, rfl⟩)
    | (go_at_call 44; (with_reducible refine (impl_QuoOf.calls k (wrap64 (wrap64 (t1) + wrap64 (t2 * l1))) (wrap64 l1) r1 r2 r3 _ HQ.out).mono ?_); rintro e w_ ⟨rfl, hb⟩; replace HM := Aside0.mk ((HM.out.put2 (.int .i64 t1) (.int .i64 l1)).keep hb); clear hb; (try clear kr0 krf0 kr1 krf1 kb0 kbf0 kb1 kbf1); have kr0 := blk_cell HM.out.a1 0; have kr1 := blk_cell HM.out.a1 1; have krf0 := blk_frozen HM.out.a1 0; have krf1 := blk_frozen HM.out.a1 1; have kb0 := blk_cell HM.out.a0 0; have kb1 := blk_cell HM.out.a0 1; have kbf0 := blk_frozen HM.out.a0 0; have kbf1 := blk_frozen HM.out.a0 1))
  have HZ := HM.out.put2_1 (.int .i64 r1) (.int .i64 r2)
  exact bodyPost_ret (results_ct rfl _ _ g4 29 #[.int .i64 r1, .int .i64 r2] (0, 0) _ rfl HZ.a1 Try.underlying29 rfl (by kernel_rfl)) rfl ⟨rfl, HZ.1⟩
set_option maxHeartbeats 4000000 in
set_option maxRecDepth 100000 in
theorem sum_bb (k : Nat) (t1 l1 t2 l2 r1 r2 : Int) (r3 : Bool) (hq : impl_QuoOf.f k (wrap64 (wrap64 (t1 * l2) + wrap64 (t2 * l1))) (wrap64 (l1 * l2)) = some (r1, r2, r3)) (w : World) : Calls Try.prog 55 #[.iface 99 (.agg #[.int .i64 t1, .int .i64 l1]), .iface 99 (.agg #[.int .i64 t2, .int .i64 l2])] w fun e w' => e = .returned (.tuple #[.agg #[.int .i64 r1, .int .i64 r2], .bool r3]) ∧ Below w.heap.size w w' := by
  have HQ := Aside0.mk hq
  clear hq
  have hm : ∀ w : World, (method 224 99 (.agg #[.int .i64 t2, .int .i64 l2]) "loop.example/levellingnet/impl.parts").run Try.prog w = .ok (99, .agg #[.int .i64 t2, .int .i64 l2]) w := fun _ => by kernel_rfl
  have q1 := ta_bw (.agg #[.int .i64 t1, .int .i64 l1])
  have q2 := ta_bb (.agg #[.int .i64 t1, .int .i64 l1])
  have HM := Aside0.mk (Hd.nil w)
  go_enter Try.func55, Try.ntmps55
  go_wp2_with (first
    | ((with_reducible refine gate_dst (N := 4) rfl ?_); refine box_event ?hg (N := 4) ?hd (cs := #[.int .i64 0, .int .i64 0]) (t := 29) ?hr ?_; (case hd => rfl); (case hg => rfl); (case hr => first | (go_simp; done) | (go_simp; rfl)); intro g4 e_ w_ b_ hb; replace HM := Aside0.mk (HM.out.box hb b_ e_); clear e_ b_ hb; have kr0 := blk_cell HM.out.a0 0; have kr1 := blk_cell HM.out.a0 1; have krf0 := blk_frozen HM.out.a0 0; have krf1 := blk_frozen HM.out.a0 1)
    | ((with_reducible refine gate_dst (N := 9) rfl ?_); refine box_event ?hg (N := 9) ?hd (cs := #[.int .i64 0, .int .i64 0]) (t := 99) ?hr ?_; (case hd => rfl); (case hg => rfl); (case hr => first | (go_simp; done) | (go_simp; rfl)); intro g9 e_ w_ b_ hb; replace HM := Aside0.mk (HM.out.box hb b_ e_); clear e_ b_ hb; (try clear kr0 kr1 krf0 krf1); have kr0 := blk_cell HM.out.a1 0; have kr1 := blk_cell HM.out.a1 1; have krf0 := blk_frozen HM.out.a1 0; have krf1 := blk_frozen HM.out.a1 1; have kb0 := blk_cell HM.out.a0 0; have kb1 := blk_cell HM.out.a0 1; have kbf0 := blk_frozen HM.out.a0 0; have kbf1 := blk_frozen HM.out.a0 1; have n1 := HM.out.ne.1; have n2 := HM.out.ne.2; simp only [] at n1 n2)
    | (go_at_call 99; (with_reducible refine (brokenParts t2 l2 _).mono ?_); rintro e w_ ⟨rfl, hb⟩; replace HM := Aside0.mk ((HM.out.put2 (.int .i64 t1) (.int .i64 l1)).keep hb); clear hb; (try clear kr0 krf0 kr1 krf1 kb0 kbf0 kb1 kbf1); have kr0 := blk_cell HM.out.a1 0; have kr1 := blk_cell HM.out.a1 1; have krf0 := blk_frozen HM.out.a1 0; have krf1 := blk_frozen HM.out.a1 1; have kb0 := blk_cell HM.out.a0 0; have kb1 := blk_cell HM.out.a0 1; have kbf0 := blk_frozen HM.out.a0 0; have kbf1 := blk_frozen HM.out.a0 1)
    | (go_at_call 44; (with_reducible refine (impl_QuoOf.calls k (wrap64 (wrap64 (t1 * l2) + wrap64 (t2 * l1))) (wrap64 (l1 * l2)) r1 r2 r3 _ HQ.out).mono ?_); rintro e w_ ⟨rfl, hb⟩; replace HM := Aside0.mk (HM.out.keep hb); clear hb; (try clear kr0 krf0 kr1 krf1 kb0 kbf0 kb1 kbf1); have kr0 := blk_cell HM.out.a1 0; have kr1 := blk_cell HM.out.a1 1; have krf0 := blk_frozen HM.out.a1 0; have krf1 := blk_frozen HM.out.a1 1; have kb0 := blk_cell HM.out.a0 0; have kb1 := blk_cell HM.out.a0 1; have kbf0 := blk_frozen HM.out.a0 0; have kbf1 := blk_frozen HM.out.a0 1))
  have HZ := HM.out.put2_1 (.int .i64 r1) (.int .i64 r2)
  exact bodyPost_ret (results_ct rfl _ _ g4 29 #[.int .i64 r1, .int .i64 r2] (0, 0) _ rfl HZ.a1 Try.underlying29 rfl (by kernel_rfl)) rfl ⟨rfl, HZ.1⟩
set_option maxHeartbeats 4000000 in
set_option maxRecDepth 100000 in
theorem qadd_nn (k : Nat) (a0_0 : Int) (a0_1 : Int) (a1_0 : Int) (a1_1 : Int) (h1 : impl_QuoValid.f k a0_0 a0_1 = some false) (h2 : impl_QuoValid.f k a1_0 a1_1 = some false) (w : World) : Calls Try.prog 29 #[.agg #[.int .i64 a0_0, .int .i64 a0_1], .agg #[.int .i64 a1_0, .int .i64 a1_1]] w fun e w' => e = .returned (.tuple #[.agg #[.int .i64 0, .int .i64 0], .bool false]) ∧ Below w.heap.size w w' := by
  have H1 := Aside0.mk h1
  have H2 := Aside0.mk h2
  clear h1 h2
  have HM := Aside0.mk (Hd.nil w)
  go_enter Try.func29, Try.ntmps29
  go_upto_region 1 with (first
    | ((with_reducible refine gate_dst (N := 2) rfl ?_); refine box_event ?hg (N := 2) ?hd (cs := #[.int .i64 a0_0, .int .i64 a0_1]) (t := 29) ?hr ?_; (case hd => rfl); (case hg => rfl); (case hr => first | (go_simp; done) | (go_simp; rfl)); intro g2 e_ w_ b_ hb; replace HM := Aside0.mk (HM.out.box hb b_ e_); clear e_ b_ hb)
    | ((with_reducible refine gate_dst (N := 3) rfl ?_); refine box_event ?hg (N := 3) ?hd (cs := #[.int .i64 a1_0, .int .i64 a1_1]) (t := 29) ?hr ?_; (case hd => rfl); (case hg => rfl); (case hr => first | (go_simp; done) | (go_simp; rfl)); intro g3 e_ w_ b_ hb; replace HM := Aside0.mk (HM.out.box hb b_ e_); clear e_ b_ hb))
  replace HM := Aside0.mk (HM.out.alloc #[.int .i64 0, .int .i64 0] 29)
  (try simp only [Act.put, List.setIfInBounds_toArray, List.set_cons_zero, List.set_cons_succ])
  generalize w_.alloc (.cells #[.int .i64 0, .int .i64 0] 29) = w4 at *
  generalize w_.heap.size = g4 at *
  have ka0 := blk_cell HM.out.a2 0
  have ka1 := blk_cell HM.out.a2 1
  have kb0 := blk_cell HM.out.a1 0
  have kb1 := blk_cell HM.out.a1 1
  have kr0 := blk_cell HM.out.a0 0
  have kr1 := blk_cell HM.out.a0 1
  have krf0 := blk_frozen HM.out.a0 0
  have krf1 := blk_frozen HM.out.a0 1
  go_wp2_with (first
    | (go_at_call 54; (with_reducible refine (qof_no k a0_0 a0_1 H1.out _).mono ?_); rintro e w_ ⟨rfl, hb⟩; replace HM := Aside0.mk (HM.out.keep hb); clear hb; (try clear ka0 ka1 kb0 kb1 kr0 krf0 kr1 krf1); have ka0 := blk_cell HM.out.a2 0; have ka1 := blk_cell HM.out.a2 1; have kb0 := blk_cell HM.out.a1 0; have kb1 := blk_cell HM.out.a1 1; have kr0 := blk_cell HM.out.a0 0; have kr1 := blk_cell HM.out.a0 1; have krf0 := blk_frozen HM.out.a0 0; have krf1 := blk_frozen HM.out.a0 1)
    | (go_at_call 54; (with_reducible refine (qof_no k a1_0 a1_1 H2.out _).mono ?_); rintro e w_ ⟨rfl, hb⟩; replace HM := Aside0.mk (HM.out.keep hb); clear hb; (try clear ka0 ka1 kb0 kb1 kr0 krf0 kr1 krf1); have ka0 := blk_cell HM.out.a2 0; have ka1 := blk_cell HM.out.a2 1; have kb0 := blk_cell HM.out.a1 0; have kb1 := blk_cell HM.out.a1 1; have kr0 := blk_cell HM.out.a0 0; have kr1 := blk_cell HM.out.a0 1; have krf0 := blk_frozen HM.out.a0 0; have krf1 := blk_frozen HM.out.a0 1))
  have HZ := HM.out.put2 (.int .i64 0) (.int .i64 0)
  exact bodyPost_ret (results_ct rfl _ _ g4 29 #[.int .i64 0, .int .i64 0] (0, 0) _ rfl HZ.a0 Try.underlying29 rfl (by kernel_rfl)) rfl ⟨rfl, HZ.1⟩
set_option maxHeartbeats 4000000 in
set_option maxRecDepth 100000 in
theorem qadd_ny (k : Nat) (a0_0 : Int) (a0_1 : Int) (a1_0 : Int) (a1_1 : Int) (h1 : impl_QuoValid.f k a0_0 a0_1 = some false) (h2 : impl_QuoValid.f k a1_0 a1_1 = some true) (w : World) : Calls Try.prog 29 #[.agg #[.int .i64 a0_0, .int .i64 a0_1], .agg #[.int .i64 a1_0, .int .i64 a1_1]] w fun e w' => e = .returned (.tuple #[.agg #[.int .i64 0, .int .i64 0], .bool false]) ∧ Below w.heap.size w w' := by
  have H1 := Aside0.mk h1
  have H2 := Aside0.mk h2
  clear h1 h2
  have HM := Aside0.mk (Hd.nil w)
  go_enter Try.func29, Try.ntmps29
  go_upto_region 1 with (first
    | ((with_reducible refine gate_dst (N := 2) rfl ?_); refine box_event ?hg (N := 2) ?hd (cs := #[.int .i64 a0_0, .int .i64 a0_1]) (t := 29) ?hr ?_; (case hd => rfl); (case hg => rfl); (case hr => first | (go_simp; done) | (go_simp; rfl)); intro g2 e_ w_ b_ hb; replace HM := Aside0.mk (HM.out.box hb b_ e_); clear e_ b_ hb)
    | ((with_reducible refine gate_dst (N := 3) rfl ?_); refine box_event ?hg (N := 3) ?hd (cs := #[.int .i64 a1_0, .int .i64 a1_1]) (t := 29) ?hr ?_; (case hd => rfl); (case hg => rfl); (case hr => first | (go_simp; done) | (go_simp; rfl)); intro g3 e_ w_ b_ hb; replace HM := Aside0.mk (HM.out.box hb b_ e_); clear e_ b_ hb))
  replace HM := Aside0.mk (HM.out.alloc #[.int .i64 0, .int .i64 0] 29)
  (try simp only [Act.put, List.setIfInBounds_toArray, List.set_cons_zero, List.set_cons_succ])
  generalize w_.alloc (.cells #[.int .i64 0, .int .i64 0] 29) = w4 at *
  generalize w_.heap.size = g4 at *
  have ka0 := blk_cell HM.out.a2 0
  have ka1 := blk_cell HM.out.a2 1
  have kb0 := blk_cell HM.out.a1 0
  have kb1 := blk_cell HM.out.a1 1
  have kr0 := blk_cell HM.out.a0 0
  have kr1 := blk_cell HM.out.a0 1
  have krf0 := blk_frozen HM.out.a0 0
  have krf1 := blk_frozen HM.out.a0 1
  go_wp2_with (first
    | (go_at_call 54; (with_reducible refine (qof_no k a0_0 a0_1 H1.out _).mono ?_); rintro e w_ ⟨rfl, hb⟩; replace HM := Aside0.mk (HM.out.keep hb); clear hb; (try clear ka0 ka1 kb0 kb1 kr0 krf0 kr1 krf1); have ka0 := blk_cell HM.out.a2 0; have ka1 := blk_cell HM.out.a2 1; have kb0 := blk_cell HM.out.a1 0; have kb1 := blk_cell HM.out.a1 1; have kr0 := blk_cell HM.out.a0 0; have kr1 := blk_cell HM.out.a0 1; have krf0 := blk_frozen HM.out.a0 0; have krf1 := blk_frozen HM.out.a0 1)
    | (go_at_call 54; (with_reducible refine (qof_yes k a1_0 a1_1 H2.out _).mono ?_); rintro e w_ ⟨rfl, hb⟩; replace HM := Aside0.mk (HM.out.keep hb); clear hb; (try clear ka0 ka1 kb0 kb1 kr0 krf0 kr1 krf1); have ka0 := blk_cell HM.out.a2 0; have ka1 := blk_cell HM.out.a2 1; have kb0 := blk_cell HM.out.a1 0; have kb1 := blk_cell HM.out.a1 1; have kr0 := blk_cell HM.out.a0 0; have kr1 := blk_cell HM.out.a0 1; have krf0 := blk_frozen HM.out.a0 0; have krf1 := blk_frozen HM.out.a0 1))
  have HZ := HM.out.put2 (.int .i64 0) (.int .i64 0)
  exact bodyPost_ret (results_ct rfl _ _ g4 29 #[.int .i64 0, .int .i64 0] (0, 0) _ rfl HZ.a0 Try.underlying29 rfl (by kernel_rfl)) rfl ⟨rfl, HZ.1⟩
set_option maxHeartbeats 4000000 in
set_option maxRecDepth 100000 in
theorem qadd_yn (k : Nat) (a0_0 : Int) (a0_1 : Int) (a1_0 : Int) (a1_1 : Int) (h1 : impl_QuoValid.f k a0_0 a0_1 = some true) (h2 : impl_QuoValid.f k a1_0 a1_1 = some false) (w : World) : Calls Try.prog 29 #[.agg #[.int .i64 a0_0, .int .i64 a0_1], .agg #[.int .i64 a1_0, .int .i64 a1_1]] w fun e w' => e = .returned (.tuple #[.agg #[.int .i64 0, .int .i64 0], .bool false]) ∧ Below w.heap.size w w' := by
  have H1 := Aside0.mk h1
  have H2 := Aside0.mk h2
  clear h1 h2
  have HM := Aside0.mk (Hd.nil w)
  go_enter Try.func29, Try.ntmps29
  go_upto_region 1 with (first
    | ((with_reducible refine gate_dst (N := 2) rfl ?_); refine box_event ?hg (N := 2) ?hd (cs := #[.int .i64 a0_0, .int .i64 a0_1]) (t := 29) ?hr ?_; (case hd => rfl); (case hg => rfl); (case hr => first | (go_simp; done) | (go_simp; rfl)); intro g2 e_ w_ b_ hb; replace HM := Aside0.mk (HM.out.box hb b_ e_); clear e_ b_ hb)
    | ((with_reducible refine gate_dst (N := 3) rfl ?_); refine box_event ?hg (N := 3) ?hd (cs := #[.int .i64 a1_0, .int .i64 a1_1]) (t := 29) ?hr ?_; (case hd => rfl); (case hg => rfl); (case hr => first | (go_simp; done) | (go_simp; rfl)); intro g3 e_ w_ b_ hb; replace HM := Aside0.mk (HM.out.box hb b_ e_); clear e_ b_ hb))
  replace HM := Aside0.mk (HM.out.alloc #[.int .i64 0, .int .i64 0] 29)
  (try simp only [Act.put, List.setIfInBounds_toArray, List.set_cons_zero, List.set_cons_succ])
  generalize w_.alloc (.cells #[.int .i64 0, .int .i64 0] 29) = w4 at *
  generalize w_.heap.size = g4 at *
  have ka0 := blk_cell HM.out.a2 0
  have ka1 := blk_cell HM.out.a2 1
  have kb0 := blk_cell HM.out.a1 0
  have kb1 := blk_cell HM.out.a1 1
  have kr0 := blk_cell HM.out.a0 0
  have kr1 := blk_cell HM.out.a0 1
  have krf0 := blk_frozen HM.out.a0 0
  have krf1 := blk_frozen HM.out.a0 1
  go_wp2_with (first
    | (go_at_call 54; (with_reducible refine (qof_yes k a0_0 a0_1 H1.out _).mono ?_); rintro e w_ ⟨rfl, hb⟩; replace HM := Aside0.mk (HM.out.keep hb); clear hb; (try clear ka0 ka1 kb0 kb1 kr0 krf0 kr1 krf1); have ka0 := blk_cell HM.out.a2 0; have ka1 := blk_cell HM.out.a2 1; have kb0 := blk_cell HM.out.a1 0; have kb1 := blk_cell HM.out.a1 1; have kr0 := blk_cell HM.out.a0 0; have kr1 := blk_cell HM.out.a0 1; have krf0 := blk_frozen HM.out.a0 0; have krf1 := blk_frozen HM.out.a0 1)
    | (go_at_call 54; (with_reducible refine (qof_no k a1_0 a1_1 H2.out _).mono ?_); rintro e w_ ⟨rfl, hb⟩; replace HM := Aside0.mk (HM.out.keep hb); clear hb; (try clear ka0 ka1 kb0 kb1 kr0 krf0 kr1 krf1); have ka0 := blk_cell HM.out.a2 0; have ka1 := blk_cell HM.out.a2 1; have kb0 := blk_cell HM.out.a1 0; have kb1 := blk_cell HM.out.a1 1; have kr0 := blk_cell HM.out.a0 0; have kr1 := blk_cell HM.out.a0 1; have krf0 := blk_frozen HM.out.a0 0; have krf1 := blk_frozen HM.out.a0 1))
  have HZ := HM.out.put2 (.int .i64 0) (.int .i64 0)
  exact bodyPost_ret (results_ct rfl _ _ g4 29 #[.int .i64 0, .int .i64 0] (0, 0) _ rfl HZ.a0 Try.underlying29 rfl (by kernel_rfl)) rfl ⟨rfl, HZ.1⟩
set_option maxHeartbeats 4000000 in
set_option maxRecDepth 100000 in
theorem qadd_yy (k : Nat) (a0_0 : Int) (a0_1 : Int) (a1_0 : Int) (a1_1 : Int) (h1 : impl_QuoValid.f k a0_0 a0_1 = some true) (h2 : impl_QuoValid.f k a1_0 a1_1 = some true) (r1 r2 : Int) (r3 : Bool) (hs : ∀ w, Calls Try.prog 55 #[qv a0_0 a0_1, qv a1_0 a1_1] w fun e w' => e = .returned (.tuple #[.agg #[.int .i64 r1, .int .i64 r2], .bool r3]) ∧ Below w.heap.size w w') (w : World) : Calls Try.prog 29 #[.agg #[.int .i64 a0_0, .int .i64 a0_1], .agg #[.int .i64 a1_0, .int .i64 a1_1]] w fun e w' => e = .returned (.tuple #[.agg #[.int .i64 r1, .int .i64 r2], .bool r3]) ∧ Below w.heap.size w w' := by
  have H1 := Aside0.mk h1
  have H2 := Aside0.mk h2
  have HS := Aside0.mk hs
  clear h1 h2 hs
  have HM := Aside0.mk (Hd.nil w)
  go_enter Try.func29, Try.ntmps29
  go_upto_region 1 with (first
    | ((with_reducible refine gate_dst (N := 2) rfl ?_); refine box_event ?hg (N := 2) ?hd (cs := #[.int .i64 a0_0, .int .i64 a0_1]) (t := 29) ?hr ?_; (case hd => rfl); (case hg => rfl); (case hr => first | (go_simp; done) | (go_simp; rfl)); intro g2 e_ w_ b_ hb; replace HM := Aside0.mk (HM.out.box hb b_ e_); clear e_ b_ hb)
    | ((with_reducible refine gate_dst (N := 3) rfl ?_); refine box_event ?hg (N := 3) ?hd (cs := #[.int .i64 a1_0, .int .i64 a1_1]) (t := 29) ?hr ?_; (case hd => rfl); (case hg => rfl); (case hr => first | (go_simp; done) | (go_simp; rfl)); intro g3 e_ w_ b_ hb; replace HM := Aside0.mk (HM.out.box hb b_ e_); clear e_ b_ hb))
  replace HM := Aside0.mk (HM.out.alloc #[.int .i64 0, .int .i64 0] 29)
  (try simp only [Act.put, List.setIfInBounds_toArray, List.set_cons_zero, List.set_cons_succ])
  generalize w_.alloc (.cells #[.int .i64 0, .int .i64 0] 29) = w4 at *
  generalize w_.heap.size = g4 at *
  have ka0 := blk_cell HM.out.a2 0
  have ka1 := blk_cell HM.out.a2 1
  have kb0 := blk_cell HM.out.a1 0
  have kb1 := blk_cell HM.out.a1 1
  have kr0 := blk_cell HM.out.a0 0
  have kr1 := blk_cell HM.out.a0 1
  have krf0 := blk_frozen HM.out.a0 0
  have krf1 := blk_frozen HM.out.a0 1
  go_wp2_with (first
    | (go_at_call 54; (with_reducible refine (qof_yes k a0_0 a0_1 H1.out _).mono ?_); rintro e w_ ⟨rfl, hb⟩; replace HM := Aside0.mk (HM.out.keep hb); clear hb; (try clear ka0 ka1 kb0 kb1 kr0 krf0 kr1 krf1); have ka0 := blk_cell HM.out.a2 0; have ka1 := blk_cell HM.out.a2 1; have kb0 := blk_cell HM.out.a1 0; have kb1 := blk_cell HM.out.a1 1; have kr0 := blk_cell HM.out.a0 0; have kr1 := blk_cell HM.out.a0 1; have krf0 := blk_frozen HM.out.a0 0; have krf1 := blk_frozen HM.out.a0 1)
    | (go_at_call 54; (with_reducible refine (qof_yes k a1_0 a1_1 H2.out _).mono ?_); rintro e w_ ⟨rfl, hb⟩; replace HM := Aside0.mk (HM.out.keep hb); clear hb; (try clear ka0 ka1 kb0 kb1 kr0 krf0 kr1 krf1); have ka0 := blk_cell HM.out.a2 0; have ka1 := blk_cell HM.out.a2 1; have kb0 := blk_cell HM.out.a1 0; have kb1 := blk_cell HM.out.a1 1; have kr0 := blk_cell HM.out.a0 0; have kr1 := blk_cell HM.out.a0 1; have krf0 := blk_frozen HM.out.a0 0; have krf1 := blk_frozen HM.out.a0 1)
    | (go_at_call 55; (with_reducible refine (HS.out _).mono ?_); rintro e w_ ⟨rfl, hb⟩; replace HM := Aside0.mk (HM.out.keep hb); clear hb; (try clear ka0 ka1 kb0 kb1 kr0 krf0 kr1 krf1); have ka0 := blk_cell HM.out.a2 0; have ka1 := blk_cell HM.out.a2 1; have kb0 := blk_cell HM.out.a1 0; have kb1 := blk_cell HM.out.a1 1; have kr0 := blk_cell HM.out.a0 0; have kr1 := blk_cell HM.out.a0 1; have krf0 := blk_frozen HM.out.a0 0; have krf1 := blk_frozen HM.out.a0 1))
  have HZ := HM.out.put2 (.int .i64 r1) (.int .i64 r2)
  exact bodyPost_ret (results_ct rfl _ _ g4 29 #[.int .i64 r1, .int .i64 r2] (0, 0) _ rfl HZ.a0 Try.underlying29 rfl (by kernel_rfl)) rfl ⟨rfl, HZ.1⟩
def qsF (k : Nat) (t1 l1 t2 l2 : Int) : Option (Int × Int × Bool) := if l1 = 1 then impl_QuoOf.f k (wrap64 (wrap64 (t1 * l2) + t2)) l2 else impl_QuoOf.f k (wrap64 (wrap64 (t1 * l2) + wrap64 (t2 * l1))) (wrap64 (l1 * l2))
theorem qs_calls (k : Nat) (t1 l1 t2 l2 r1 r2 : Int) (r3 : Bool) (h : qsF k t1 l1 t2 l2 = some (r1, r2, r3)) (w : World) : Calls Try.prog 55 #[qv t1 l1, qv t2 l2] w fun e w' => e = .returned (.tuple #[.agg #[.int .i64 r1, .int .i64 r2], .bool r3]) ∧ Below w.heap.size w w' := by
  unfold qsF at h
  unfold qv
  by_cases h1 : l1 = 1
  · rw [if_pos h1] at h ⊢
    by_cases h2 : l2 = 1
    · rw [if_pos h2]
      rw [h2, Int.mul_one] at h
      exact sum_ww k t1 t2 r1 r2 r3 h w
    · rw [if_neg h2]
      exact sum_wb k t1 t2 l2 r1 r2 r3 h w
  · rw [if_neg h1] at h ⊢
    by_cases h2 : l2 = 1
    · rw [if_pos h2]
      rw [h2, Int.mul_one, Int.mul_one] at h
      exact sum_bw k t1 l1 t2 r1 r2 r3 h w
    · rw [if_neg h2]
      exact sum_bb k t1 l1 t2 l2 r1 r2 r3 h w
def impl_QuoAdd.f (k : Nat) (a0_0 : Int) (a0_1 : Int) (a1_0 : Int) (a1_1 : Int) : Option (Int × Int × Bool) := (impl_QuoValid.f k a0_0 a0_1).bind fun p => ((impl_QuoValid.f k a1_0 a1_1).bind fun q => (if p = true then (if q = true then qsF k a0_0 a0_1 a1_0 a1_1 else some (0, 0, false)) else some (0, 0, false)))
theorem impl_QuoAdd.mono : ∀ a0_0 a0_1 a1_0 a1_1 k, LeO (impl_QuoAdd.f k a0_0 a0_1 a1_0 a1_1) (impl_QuoAdd.f (k + 1) a0_0 a0_1 a1_0 a1_1) := by
  intro a0_0 a0_1 a1_0 a1_1 k
  unfold impl_QuoAdd.f qsF
  exact LeO.bind (impl_QuoValid.mono _ _ _) (fun _ => LeO.bind (impl_QuoValid.mono _ _ _) (fun _ => LeO.ite (LeO.ite (LeO.ite (impl_QuoOf.mono _ _ _) (impl_QuoOf.mono _ _ _)) (LeO.refl _)) (LeO.refl _)))
theorem impl_QuoAdd.calls (k : Nat) (a0_0 : Int) (a0_1 : Int) (a1_0 : Int) (a1_1 : Int) (r1 : Int) (r2 : Int) (r3 : Bool) (w : World) (h : impl_QuoAdd.f k a0_0 a0_1 a1_0 a1_1 = some (r1, r2, r3)) :
    Calls Try.prog 29 #[.agg #[.int .i64 a0_0, .int .i64 a0_1], .agg #[.int .i64 a1_0, .int .i64 a1_1]] w fun e w' => e = .returned (.tuple #[.agg #[.int .i64 r1, .int .i64 r2], .bool r3]) ∧ Below w.heap.size w w' := by
  unfold impl_QuoAdd.f at h
  obtain ⟨p, hp, h⟩ := Option.bind_eq_some_iff.1 h
  obtain ⟨q, hq, h⟩ := Option.bind_eq_some_iff.1 h
  cases p with
  | false =>
    rw [if_neg (by simp)] at h
    simp only [Option.some.injEq, Prod.mk.injEq] at h
    obtain ⟨rfl, rfl, rfl⟩ := h
    cases q with
    | false => exact qadd_nn k _ _ _ _ hp hq w
    | true => exact qadd_ny k _ _ _ _ hp hq w
  | true =>
    rw [if_pos rfl] at h
    cases q with
    | false =>
      rw [if_neg (by simp)] at h
      simp only [Option.some.injEq, Prod.mk.injEq] at h
      obtain ⟨rfl, rfl, rfl⟩ := h
      exact qadd_yn k _ _ _ _ hp hq w
    | true =>
      rw [if_pos rfl] at h
      exact qadd_yy k _ _ _ _ hp hq _ _ _ (fun w => qs_calls k _ _ _ _ _ _ _ h w) w

end Go.Proofs.Ytgoejfdciejikaa.P

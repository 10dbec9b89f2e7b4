-- Written by a program of this session (wip/xprint.py over the print's own program), not by print.sh. Lean checks it.
import Derived.Test.YtgoejfdciejikaaPx0
import Derived.Test.YtgoejfdciejikaaPx8
import Derived.Test.YtgoejfdciejikaaPx20
namespace Go.Proofs.Ytgoejfdciejikaa.P
open Go.RowKit Go.Proofs.YtgoejfdciejikaaW.PrintWords Go.Proofs.YtgoejfdciejikaaW.PrintLast Go.Proofs.YtgoejfdciejikaaW.PrintMore
attribute [local go_sem] max2_int min2_int max_two min_two max_three min_three max_four min_four   -- for this text's walks alone
set_option linter.unusedVariables false
set_option linter.unusedSimpArgs false

-- EXTERNAL impl_CrossAt: function 21
set_option maxHeartbeats 4000000 in
theorem crossAt_no (ax ay bx by_ cx cy dx dy : Int) (hl : lnOk ax ay bx by_ cx cy dx dy = false) (w : World) : Calls Try.prog 21 #[.agg #[.int .i64 ax, .int .i64 ay], .agg #[.int .i64 bx, .int .i64 by_], .agg #[.int .i64 cx, .int .i64 cy], .agg #[.int .i64 dx, .int .i64 dy]] w fun e w' => e = .returned (.tuple #[.agg #[.int .i64 0, .int .i64 0], .agg #[.int .i64 0, .int .i64 0], .bool false]) ∧ Below w.heap.size w w' := by
  have HL := Aside0.mk hl
  have HM := Aside0.mk (Hd.nil w)
  clear hl
  go_enter Try.func21, Try.ntmps21
  go_upto_region 1 with (first
    | ((with_reducible refine gate_dst (N := 4) rfl ?_); refine box_event ?hg (N := 4) ?hd (cs := #[.int .i64 ax, .int .i64 ay]) (t := 25) ?hr ?_; (case hd => rfl); (case hg => rfl); (case hr => first | (go_simp; done) | (go_simp; rfl)); intro g4 e_ w_ b_ hb; replace HM := Aside0.mk (HM.out.box hb b_ e_); clear e_ b_ hb)
    | ((with_reducible refine gate_dst (N := 5) rfl ?_); refine box_event ?hg (N := 5) ?hd (cs := #[.int .i64 bx, .int .i64 by_]) (t := 25) ?hr ?_; (case hd => rfl); (case hg => rfl); (case hr => first | (go_simp; done) | (go_simp; rfl)); intro g5 e_ w_ b_ hb; replace HM := Aside0.mk (HM.out.box hb b_ e_); clear e_ b_ hb)
    | ((with_reducible refine gate_dst (N := 6) rfl ?_); refine box_event ?hg (N := 6) ?hd (cs := #[.int .i64 cx, .int .i64 cy]) (t := 25) ?hr ?_; (case hd => rfl); (case hg => rfl); (case hr => first | (go_simp; done) | (go_simp; rfl)); intro g6 e_ w_ b_ hb; replace HM := Aside0.mk (HM.out.box hb b_ e_); clear e_ b_ hb)
    | ((with_reducible refine gate_dst (N := 7) rfl ?_); refine box_event ?hg (N := 7) ?hd (cs := #[.int .i64 dx, .int .i64 dy]) (t := 25) ?hr ?_; (case hd => rfl); (case hg => rfl); (case hr => first | (go_simp; done) | (go_simp; rfl)); intro g7 e_ w_ b_ hb; replace HM := Aside0.mk (HM.out.box hb b_ e_); clear e_ b_ hb))
  replace HM := Aside0.mk ((HM.out.alloc #[.int .i64 0, .int .i64 0] 29).alloc #[.int .i64 0, .int .i64 0] 29)
  (try simp only [Act.put, List.setIfInBounds_toArray, List.set_cons_zero, List.set_cons_succ])
  have hsz : (w_.alloc (.cells #[.int .i64 0, .int .i64 0] 29)).heap.size = w_.heap.size + 1 := by simp
  rw [hsz] at HM
  clear hsz
  generalize (w_.alloc (.cells #[.int .i64 0, .int .i64 0] 29)).alloc (.cells #[.int .i64 0, .int .i64 0] 29) = w9 at *
  generalize w_.heap.size + 1 = g9 at *
  generalize w_.heap.size = g8 at *
  have ka0 := blk_cell HM.out.a5 0
  have ka1 := blk_cell HM.out.a5 1
  have kb0 := blk_cell HM.out.a4 0
  have kb1 := blk_cell HM.out.a4 1
  have kc0 := blk_cell HM.out.a3 0
  have kc1 := blk_cell HM.out.a3 1
  have kd0 := blk_cell HM.out.a2 0
  have kd1 := blk_cell HM.out.a2 1
  have kr0 := blk_cell HM.out.a1 0
  have kr1 := blk_cell HM.out.a1 1
  have krf0 := blk_frozen HM.out.a1 0
  have krf1 := blk_frozen HM.out.a1 1
  have kt0 := blk_cell HM.out.a0 0
  have kt1 := blk_cell HM.out.a0 1
  have ktf0 := blk_frozen HM.out.a0 0
  have ktf1 := blk_frozen HM.out.a0 1
  have n98 : g9 ≠ g8 := HM.out.ne.1
  have n89 : g8 ≠ g9 := HM.out.ne.2
  go_wp2_with (go_at_call 39; (with_reducible refine (lines_f ax ay bx by_ cx cy dx dy HL.out _).mono ?_); rintro e w_ ⟨rfl, hb⟩; replace HM := Aside0.mk (HM.out.keep hb); clear hb; (try clear ka0 ka1 kb0 kb1 kc0 kc1 kd0 kd1 kr0 krf0 kr1 krf1 kt0 ktf0 kt1 ktf1); have ka0 := blk_cell HM.out.a5 0; have ka1 := blk_cell HM.out.a5 1; have kb0 := blk_cell HM.out.a4 0; have kb1 := blk_cell HM.out.a4 1; have kc0 := blk_cell HM.out.a3 0; have kc1 := blk_cell HM.out.a3 1; have kd0 := blk_cell HM.out.a2 0; have kd1 := blk_cell HM.out.a2 1; have kr0 := blk_cell HM.out.a1 0; have kr1 := blk_cell HM.out.a1 1; have krf0 := blk_frozen HM.out.a1 0; have krf1 := blk_frozen HM.out.a1 1; have kt0 := blk_cell HM.out.a0 0; have kt1 := blk_cell HM.out.a0 1; have ktf0 := blk_frozen HM.out.a0 0; have ktf1 := blk_frozen HM.out.a0 1)
  have HZ := (HM.out.put2_1 (.int .i64 0) (.int .i64 0)).put2 (.int .i64 0) (.int .i64 0)
  exact bodyPost_ret (v := .tuple #[.agg #[.int .i64 0, .int .i64 0], .agg #[.int .i64 0, .int .i64 0], .bool false]) (results_list (rs := [.cell 8 29, .cell 9 29, .tmp 10]) (vs := [.agg #[.int .i64 0, .int .i64 0], .agg #[.int .i64 0, .int .i64 0], .bool false]) rfl (by simp) (.cell g8 29 #[.int .i64 0, .int .i64 0] (0, 0) _ rfl HZ.a1 Try.underlying29 rfl (by kernel_rfl) (.cell g9 29 #[.int .i64 0, .int .i64 0] (0, 0) _ rfl HZ.a0 Try.underlying29 rfl (by kernel_rfl) (.tmp .nil)))) rfl ⟨rfl, HZ.1⟩
set_option maxHeartbeats 8000000 in
theorem crossAt_yes (k : Nat) (ax ay bx by_ cx cy dx dy : Int) (u v u2 v2 tp lo x1 x2 y1 y2 : Int) (hl : lnOk ax ay bx by_ cx cy dx dy = true) (hu : wrap64 (bx - ax) = u) (hv : wrap64 (by_ - ay) = v) (hu2 : wrap64 (dx - cx) = u2) (hv2 : wrap64 (dy - cy) = v2)
    (hal : alI ax ay u v cx cy u2 v2 = (tp, lo)) (hx : impl_QuoOf.f k (wrap64 (wrap64 (ax * lo) + wrap64 (tp * u))) lo = some (x1, x2, true)) (hy : impl_QuoOf.f k (wrap64 (wrap64 (ay * lo) + wrap64 (tp * v))) lo = some (y1, y2, true)) (w : World) : Calls Try.prog 21 #[.agg #[.int .i64 ax, .int .i64 ay], .agg #[.int .i64 bx, .int .i64 by_], .agg #[.int .i64 cx, .int .i64 cy], .agg #[.int .i64 dx, .int .i64 dy]] w fun e w' => e = .returned (.tuple #[.agg #[.int .i64 x1, .int .i64 x2], .agg #[.int .i64 y1, .int .i64 y2], .bool true]) ∧ Below w.heap.size w w' := by
  have HU := Aside0.mk hu
  have HV := Aside0.mk hv
  have HU2 := Aside0.mk hu2
  have HV2 := Aside0.mk hv2
  have HAL := Aside0.mk hal
  have HX : Aside0 (impl_QuoOf.f k (IntKind.i64.wrap (IntKind.i64.wrap (ax * lo) + IntKind.i64.wrap (tp * u))) lo = some (x1, x2, true)) := ⟨by rw [i64_w, i64_w, i64_w]; exact hx⟩
  have HY : Aside0 (impl_QuoOf.f k (IntKind.i64.wrap (IntKind.i64.wrap (ay * lo) + IntKind.i64.wrap (tp * v))) lo = some (y1, y2, true)) := ⟨by rw [i64_w, i64_w, i64_w]; exact hy⟩
  clear hu hv hu2 hv2 hal hx hy
  have HL := Aside0.mk hl
  have HM := Aside0.mk (Hd.nil w)
  clear hl
  go_enter Try.func21, Try.ntmps21
  go_upto_region 1 with (first
    | ((with_reducible refine gate_dst (N := 4) rfl ?_); refine box_event ?hg (N := 4) ?hd (cs := #[.int .i64 ax, .int .i64 ay]) (t := 25) ?hr ?_; (case hd => rfl); (case hg => rfl); (case hr => first | (go_simp; done) | (go_simp; rfl)); intro g4 e_ w_ b_ hb; replace HM := Aside0.mk (HM.out.box hb b_ e_); clear e_ b_ hb)
    | ((with_reducible refine gate_dst (N := 5) rfl ?_); refine box_event ?hg (N := 5) ?hd (cs := #[.int .i64 bx, .int .i64 by_]) (t := 25) ?hr ?_; (case hd => rfl); (case hg => rfl); (case hr => first | (go_simp; done) | (go_simp; rfl)); intro g5 e_ w_ b_ hb; replace HM := Aside0.mk (HM.out.box hb b_ e_); clear e_ b_ hb)
    | ((with_reducible refine gate_dst (N := 6) rfl ?_); refine box_event ?hg (N := 6) ?hd (cs := #[.int .i64 cx, .int .i64 cy]) (t := 25) ?hr ?_; (case hd => rfl); (case hg => rfl); (case hr => first | (go_simp; done) | (go_simp; rfl)); intro g6 e_ w_ b_ hb; replace HM := Aside0.mk (HM.out.box hb b_ e_); clear e_ b_ hb)
    | ((with_reducible refine gate_dst (N := 7) rfl ?_); refine box_event ?hg (N := 7) ?hd (cs := #[.int .i64 dx, .int .i64 dy]) (t := 25) ?hr ?_; (case hd => rfl); (case hg => rfl); (case hr => first | (go_simp; done) | (go_simp; rfl)); intro g7 e_ w_ b_ hb; replace HM := Aside0.mk (HM.out.box hb b_ e_); clear e_ b_ hb))
  replace HM := Aside0.mk ((HM.out.alloc #[.int .i64 0, .int .i64 0] 29).alloc #[.int .i64 0, .int .i64 0] 29)
  (try simp only [Act.put, List.setIfInBounds_toArray, List.set_cons_zero, List.set_cons_succ])
  have hsz : (w_.alloc (.cells #[.int .i64 0, .int .i64 0] 29)).heap.size = w_.heap.size + 1 := by simp
  rw [hsz] at HM
  clear hsz
  generalize (w_.alloc (.cells #[.int .i64 0, .int .i64 0] 29)).alloc (.cells #[.int .i64 0, .int .i64 0] 29) = w9 at *
  generalize w_.heap.size + 1 = g9 at *
  generalize w_.heap.size = g8 at *
  have ka0 := blk_cell HM.out.a5 0
  have ka1 := blk_cell HM.out.a5 1
  have kb0 := blk_cell HM.out.a4 0
  have kb1 := blk_cell HM.out.a4 1
  have kc0 := blk_cell HM.out.a3 0
  have kc1 := blk_cell HM.out.a3 1
  have kd0 := blk_cell HM.out.a2 0
  have kd1 := blk_cell HM.out.a2 1
  have kr0 := blk_cell HM.out.a1 0
  have kr1 := blk_cell HM.out.a1 1
  have krf0 := blk_frozen HM.out.a1 0
  have krf1 := blk_frozen HM.out.a1 1
  have kt0 := blk_cell HM.out.a0 0
  have kt1 := blk_cell HM.out.a0 1
  have ktf0 := blk_frozen HM.out.a0 0
  have ktf1 := blk_frozen HM.out.a0 1
  go_upto_region 5 with (first
    | (go_at_call 39; (with_reducible refine (lines_t ax ay bx by_ cx cy dx dy HL.out _).mono ?_); rintro e w_ ⟨g1, g2, rfl, hb⟩; rw [HU.out, HV.out, HU2.out, HV2.out] at hb; replace HM := Aside0.mk (HM.out.lines hb); clear hb; (try clear ka0 ka1 kb0 kb1 kc0 kc1 kd0 kd1 kr0 krf0 kr1 krf1 kt0 ktf0 kt1 ktf1); have ka0 := blk_cell HM.out.a7 0; have ka1 := blk_cell HM.out.a7 1; have kb0 := blk_cell HM.out.a6 0; have kb1 := blk_cell HM.out.a6 1; have kc0 := blk_cell HM.out.a5 0; have kc1 := blk_cell HM.out.a5 1; have kd0 := blk_cell HM.out.a4 0; have kd1 := blk_cell HM.out.a4 1; have kr0 := blk_cell HM.out.a3 0; have kr1 := blk_cell HM.out.a3 1; have krf0 := blk_frozen HM.out.a3 0; have krf1 := blk_frozen HM.out.a3 1; have kt0 := blk_cell HM.out.a2 0; have kt1 := blk_cell HM.out.a2 1; have ktf0 := blk_frozen HM.out.a2 0; have ktf1 := blk_frozen HM.out.a2 1; have kl0 := blk_cell HM.out.a1 0; have kl1 := blk_cell HM.out.a1 1; have kl2 := blk_cell HM.out.a1 2; have kl3 := blk_cell HM.out.a1 3; have km0 := blk_cell HM.out.a0 0; have km1 := blk_cell HM.out.a0 1; have km2 := blk_cell HM.out.a0 2; have km3 := blk_cell HM.out.a0 3)
    | (go_at_call 45; (with_reducible refine (along_calls g1 g2 _ _ _ _ _ _ _ _ _ HM.out.a1 HM.out.a0).mono ?_); rintro e w_ ⟨rfl, hb⟩; rw [HAL.out]; replace HM := Aside0.mk (HM.out.keep hb); clear hb; (try clear ka0 ka1 kb0 kb1 kc0 kc1 kd0 kd1 kr0 krf0 kr1 krf1 kt0 ktf0 kt1 ktf1 kl0 kl1 kl2 kl3 km0 km1 km2 km3); have kr0 := blk_cell HM.out.a3 0; have kr1 := blk_cell HM.out.a3 1; have krf0 := blk_frozen HM.out.a3 0; have krf1 := blk_frozen HM.out.a3 1; have kt0 := blk_cell HM.out.a2 0; have kt1 := blk_cell HM.out.a2 1; have ktf0 := blk_frozen HM.out.a2 0; have ktf1 := blk_frozen HM.out.a2 1; have kl0 := blk_cell HM.out.a1 0; have kl1 := blk_cell HM.out.a1 1; have kl2 := blk_cell HM.out.a1 2; have kl3 := blk_cell HM.out.a1 3; have km0 := blk_cell HM.out.a0 0; have km1 := blk_cell HM.out.a0 1; have km2 := blk_cell HM.out.a0 2; have km3 := blk_cell HM.out.a0 3))
  go_cut [16, 17] (fun v16 v17 wc => ∃ B : Nat, v16 = .pointer (some ⟨B, 0, none⟩) ∧ v17 = .bool true ∧ Aside0 (Hd w wc [(B, #[.int .i64 x1, .int .i64 x2], 29), (g2, #[.int .i64 cx, .int .i64 cy, .int .i64 u2, .int .i64 v2], 63), (g1, #[.int .i64 ax, .int .i64 ay, .int .i64 u, .int .i64 v], 63), (g9, #[.int .i64 0, .int .i64 0], 29), (g8, #[.int .i64 0, .int .i64 0], 29), (g7, #[.int .i64 dx, .int .i64 dy], 25), (g6, #[.int .i64 cx, .int .i64 cy], 25), (g5, #[.int .i64 bx, .int .i64 by_], 25), (g4, #[.int .i64 ax, .int .i64 ay], 25)]))
  case first =>
    go_region_held3 (fun w' => w'.cell? ⟨g1, 0, none⟩ = some (.int .i64 ax) ∧ w'.cell? ⟨g1, 2, none⟩ = some (.int .i64 u))
      (first
        | exact ⟨blk_cell HM.out.a1 0, blk_cell HM.out.a1 2⟩
        | exact ⟨blk_cell HM.out.a2 0, blk_cell HM.out.a2 2⟩
        | exact ⟨blk_cell HM.out.drew.a1 0, blk_cell HM.out.drew.a1 2⟩
        | exact ⟨blk_cell (HM.out.alloc _ _).a2 0, blk_cell (HM.out.alloc _ _).a2 2⟩
        | exact ⟨blk_cell (HM.out.drew.alloc _ _).a2 0, blk_cell (HM.out.drew.alloc _ _).a2 2⟩
        | exact ⟨blk_cell (HM.out.put2 _ _).a2 0, blk_cell (HM.out.put2 _ _).a2 2⟩
        | exact ⟨blk_cell ((HM.out.alloc _ _).put2 _ _).a2 0, blk_cell ((HM.out.alloc _ _).put2 _ _).a2 2⟩
        | go_keep)
      ((go_at_call 44; (with_reducible refine (impl_QuoOf.calls k (IntKind.i64.wrap (IntKind.i64.wrap (ax * lo) + IntKind.i64.wrap (tp * u))) lo x1 x2 true _ HX.out).mono ?_); rintro e w_ ⟨rfl, hb⟩; (first | replace HM := Aside0.mk (HM.out.keep hb) | replace HM := Aside0.mk (HM.out.drew.keep hb) | replace HM := Aside0.mk ((HM.out.allocDrew #[.int .i64 0, .int .i64 0] 29).keep hb) | replace HM := Aside0.mk ((HM.out.alloc #[.int .i64 0, .int .i64 0] 29).keep hb)); clear hb; (try clear kn0); (try clear kn1); (try clear knf0); (try clear knf1); have kn0 := blk_cell HM.out.a0 0; have kn1 := blk_cell HM.out.a0 1; have knf0 := blk_frozen HM.out.a0 0; have knf1 := blk_frozen HM.out.a0 1))
    all_goals
      go_wp2_with fail
      go_meet
      case rel => first | exact ⟨_, rfl, rfl, ⟨HM.out.put2 _ _⟩⟩ | exact ⟨_, rfl, rfl, ⟨HM.out.alloc _ _⟩⟩ | exact ⟨_, rfl, rfl, ⟨(HM.out.alloc _ _).put2 _ _⟩⟩
  case rest =>
    obtain ⟨B, rfl, rfl, HMc⟩ := hcut
    (try clear HM)
    have HM := HMc
    clear HMc
    (try clear kr0)
    (try clear krf0)
    (try clear kr1)
    (try clear krf1)
    (try clear kt0)
    (try clear ktf0)
    (try clear kt1)
    (try clear ktf1)
    (try clear kl0)
    (try clear kl1)
    (try clear kl2)
    (try clear kl3)
    (try clear km0)
    (try clear km1)
    (try clear km2)
    (try clear km3)
    have kl0 := blk_cell HM.out.a2 0
    have kl1 := blk_cell HM.out.a2 1
    have kl2 := blk_cell HM.out.a2 2
    have kl3 := blk_cell HM.out.a2 3
    go_upto_region 6 with fail
    go_cut [18, 19] (fun v18 v19 wc => ∃ C : Nat, v18 = .pointer (some ⟨C, 0, none⟩) ∧ v19 = .bool true ∧ Aside0 (Hd w wc [(C, #[.int .i64 y1, .int .i64 y2], 29), (B, #[.int .i64 x1, .int .i64 x2], 29), (g2, #[.int .i64 cx, .int .i64 cy, .int .i64 u2, .int .i64 v2], 63), (g1, #[.int .i64 ax, .int .i64 ay, .int .i64 u, .int .i64 v], 63), (g9, #[.int .i64 0, .int .i64 0], 29), (g8, #[.int .i64 0, .int .i64 0], 29), (g7, #[.int .i64 dx, .int .i64 dy], 25), (g6, #[.int .i64 cx, .int .i64 cy], 25), (g5, #[.int .i64 bx, .int .i64 by_], 25), (g4, #[.int .i64 ax, .int .i64 ay], 25)]))
    case first =>
      go_region_held3 (fun w' => w'.cell? ⟨g1, 1, none⟩ = some (.int .i64 ay) ∧ w'.cell? ⟨g1, 3, none⟩ = some (.int .i64 v))
        (first
          | exact ⟨blk_cell HM.out.a2 1, blk_cell HM.out.a2 3⟩
          | exact ⟨blk_cell HM.out.a3 1, blk_cell HM.out.a3 3⟩
          | exact ⟨blk_cell HM.out.drew.a2 1, blk_cell HM.out.drew.a2 3⟩
          | exact ⟨blk_cell (HM.out.alloc _ _).a3 1, blk_cell (HM.out.alloc _ _).a3 3⟩
          | exact ⟨blk_cell (HM.out.drew.alloc _ _).a3 1, blk_cell (HM.out.drew.alloc _ _).a3 3⟩
          | exact ⟨blk_cell (HM.out.put2 _ _).a3 1, blk_cell (HM.out.put2 _ _).a3 3⟩
          | exact ⟨blk_cell ((HM.out.alloc _ _).put2 _ _).a3 1, blk_cell ((HM.out.alloc _ _).put2 _ _).a3 3⟩
          | go_keep)
        ((go_at_call 44; (with_reducible refine (impl_QuoOf.calls k (IntKind.i64.wrap (IntKind.i64.wrap (ay * lo) + IntKind.i64.wrap (tp * v))) lo y1 y2 true _ HY.out).mono ?_); rintro e w_ ⟨rfl, hb⟩; (first | replace HM := Aside0.mk (HM.out.keep hb) | replace HM := Aside0.mk (HM.out.drew.keep hb) | replace HM := Aside0.mk ((HM.out.allocDrew #[.int .i64 0, .int .i64 0] 29).keep hb) | replace HM := Aside0.mk ((HM.out.alloc #[.int .i64 0, .int .i64 0] 29).keep hb)); clear hb; (try clear kn0); (try clear kn1); (try clear knf0); (try clear knf1); have kn0 := blk_cell HM.out.a0 0; have kn1 := blk_cell HM.out.a0 1; have knf0 := blk_frozen HM.out.a0 0; have knf1 := blk_frozen HM.out.a0 1))
      all_goals
        go_wp2_with fail
        go_meet
        case rel => first | exact ⟨_, rfl, rfl, ⟨HM.out.put2 _ _⟩⟩ | exact ⟨_, rfl, rfl, ⟨HM.out.alloc _ _⟩⟩ | exact ⟨_, rfl, rfl, ⟨(HM.out.alloc _ _).put2 _ _⟩⟩
    case rest =>
      obtain ⟨C, rfl, rfl, HMd⟩ := hcut
      clear HM
      have HM := HMd
      clear HMd
      (try clear kl0)
      (try clear kl1)
      (try clear kl2)
      (try clear kl3)
      have n98 : g9 ≠ g8 := HM.out.tl.tl.tl.tl.ne.1
      have n89 : g8 ≠ g9 := HM.out.tl.tl.tl.tl.ne.2
      have ky0 := blk_cell HM.out.a0 0
      have ky1 := blk_cell HM.out.a0 1
      have kx0 := blk_cell HM.out.a1 0
      have kx1 := blk_cell HM.out.a1 1
      have kr0 := blk_cell HM.out.a5 0
      have kr1 := blk_cell HM.out.a5 1
      have krf0 := blk_frozen HM.out.a5 0
      have krf1 := blk_frozen HM.out.a5 1
      have kt0 := blk_cell HM.out.a4 0
      have kt1 := blk_cell HM.out.a4 1
      have ktf0 := blk_frozen HM.out.a4 0
      have ktf1 := blk_frozen HM.out.a4 1
      have m1 : g9 < C := HM.out.lt4
      have m2 : g8 < C := HM.out.lt5
      have m3 : g9 < B := HM.out.tl.lt3
      have m4 : g8 < B := HM.out.tl.lt4
      have q1 : C ≠ g9 := by omega
      have q2 : C ≠ g8 := by omega
      have q3 : B ≠ g9 := by omega
      have q4 : B ≠ g8 := by omega
      have q5 : g9 ≠ C := by omega
      have q6 : g8 ≠ C := by omega
      have q7 : g9 ≠ B := by omega
      have q8 : g8 ≠ B := by omega
      clear m1 m2 m3 m4
      go_wp2_with fail
      go_region
      all_goals
        go_wp2_with fail
        first
          | (have HZ := ((HM.out.put2_5 (.int .i64 x1) (.int .i64 x2)).put2_4 (.int .i64 y1) (.int .i64 y2)).drew; exact bodyPost_ret (v := .tuple #[.agg #[.int .i64 x1, .int .i64 x2], .agg #[.int .i64 y1, .int .i64 y2], .bool true]) (results_list (rs := [.cell 8 29, .cell 9 29, .tmp 10]) (vs := [.agg #[.int .i64 x1, .int .i64 x2], .agg #[.int .i64 y1, .int .i64 y2], .bool true]) rfl (by simp) (.cell g8 29 #[.int .i64 x1, .int .i64 x2] (0, 0) _ rfl HZ.a5 Try.underlying29 rfl (by kernel_rfl) (.cell g9 29 #[.int .i64 y1, .int .i64 y2] (0, 0) _ rfl HZ.a4 Try.underlying29 rfl (by kernel_rfl) (.tmp .nil)))) rfl ⟨rfl, HZ.1⟩)
          | (have HZ := ((HM.out.put2_4 (.int .i64 y1) (.int .i64 y2)).put2_5 (.int .i64 x1) (.int .i64 x2)).drew; exact bodyPost_ret (v := .tuple #[.agg #[.int .i64 x1, .int .i64 x2], .agg #[.int .i64 y1, .int .i64 y2], .bool true]) (results_list (rs := [.cell 8 29, .cell 9 29, .tmp 10]) (vs := [.agg #[.int .i64 x1, .int .i64 x2], .agg #[.int .i64 y1, .int .i64 y2], .bool true]) rfl (by simp) (.cell g8 29 #[.int .i64 x1, .int .i64 x2] (0, 0) _ rfl HZ.a5 Try.underlying29 rfl (by kernel_rfl) (.cell g9 29 #[.int .i64 y1, .int .i64 y2] (0, 0) _ rfl HZ.a4 Try.underlying29 rfl (by kernel_rfl) (.tmp .nil)))) rfl ⟨rfl, HZ.1⟩)
          | (have HZ := (HM.out.drew.put2_5 (.int .i64 x1) (.int .i64 x2)).put2_4 (.int .i64 y1) (.int .i64 y2); exact bodyPost_ret (v := .tuple #[.agg #[.int .i64 x1, .int .i64 x2], .agg #[.int .i64 y1, .int .i64 y2], .bool true]) (results_list (rs := [.cell 8 29, .cell 9 29, .tmp 10]) (vs := [.agg #[.int .i64 x1, .int .i64 x2], .agg #[.int .i64 y1, .int .i64 y2], .bool true]) rfl (by simp) (.cell g8 29 #[.int .i64 x1, .int .i64 x2] (0, 0) _ rfl HZ.a5 Try.underlying29 rfl (by kernel_rfl) (.cell g9 29 #[.int .i64 y1, .int .i64 y2] (0, 0) _ rfl HZ.a4 Try.underlying29 rfl (by kernel_rfl) (.tmp .nil)))) rfl ⟨rfl, HZ.1⟩)
          | (have HZ := (HM.out.drew.put2_4 (.int .i64 y1) (.int .i64 y2)).put2_5 (.int .i64 x1) (.int .i64 x2); exact bodyPost_ret (v := .tuple #[.agg #[.int .i64 x1, .int .i64 x2], .agg #[.int .i64 y1, .int .i64 y2], .bool true]) (results_list (rs := [.cell 8 29, .cell 9 29, .tmp 10]) (vs := [.agg #[.int .i64 x1, .int .i64 x2], .agg #[.int .i64 y1, .int .i64 y2], .bool true]) rfl (by simp) (.cell g8 29 #[.int .i64 x1, .int .i64 x2] (0, 0) _ rfl HZ.a5 Try.underlying29 rfl (by kernel_rfl) (.cell g9 29 #[.int .i64 y1, .int .i64 y2] (0, 0) _ rfl HZ.a4 Try.underlying29 rfl (by kernel_rfl) (.tmp .nil)))) rfl ⟨rfl, HZ.1⟩)
set_option maxHeartbeats 8000000 in
theorem crossAt_noY (k : Nat) (ax ay bx by_ cx cy dx dy : Int) (u v u2 v2 tp lo x1 x2 y1 y2 : Int) (hl : lnOk ax ay bx by_ cx cy dx dy = true) (hu : wrap64 (bx - ax) = u) (hv : wrap64 (by_ - ay) = v) (hu2 : wrap64 (dx - cx) = u2) (hv2 : wrap64 (dy - cy) = v2)
    (hal : alI ax ay u v cx cy u2 v2 = (tp, lo)) (hx : impl_QuoOf.f k (wrap64 (wrap64 (ax * lo) + wrap64 (tp * u))) lo = some (x1, x2, true)) (hy : impl_QuoOf.f k (wrap64 (wrap64 (ay * lo) + wrap64 (tp * v))) lo = some (y1, y2, false)) (w : World) : Calls Try.prog 21 #[.agg #[.int .i64 ax, .int .i64 ay], .agg #[.int .i64 bx, .int .i64 by_], .agg #[.int .i64 cx, .int .i64 cy], .agg #[.int .i64 dx, .int .i64 dy]] w fun e w' => e = .returned (.tuple #[.agg #[.int .i64 0, .int .i64 0], .agg #[.int .i64 0, .int .i64 0], .bool false]) ∧ Below w.heap.size w w' := by
  have HU := Aside0.mk hu
  have HV := Aside0.mk hv
  have HU2 := Aside0.mk hu2
  have HV2 := Aside0.mk hv2
  have HAL := Aside0.mk hal
  have HX : Aside0 (impl_QuoOf.f k (IntKind.i64.wrap (IntKind.i64.wrap (ax * lo) + IntKind.i64.wrap (tp * u))) lo = some (x1, x2, true)) := ⟨by rw [i64_w, i64_w, i64_w]; exact hx⟩
  have HY : Aside0 (impl_QuoOf.f k (IntKind.i64.wrap (IntKind.i64.wrap (ay * lo) + IntKind.i64.wrap (tp * v))) lo = some (y1, y2, false)) := ⟨by rw [i64_w, i64_w, i64_w]; exact hy⟩
  clear hu hv hu2 hv2 hal hx hy
  have HL := Aside0.mk hl
  have HM := Aside0.mk (Hd.nil w)
  clear hl
  go_enter Try.func21, Try.ntmps21
  go_upto_region 1 with (first
    | ((with_reducible refine gate_dst (N := 4) rfl ?_); refine box_event ?hg (N := 4) ?hd (cs := #[.int .i64 ax, .int .i64 ay]) (t := 25) ?hr ?_; (case hd => rfl); (case hg => rfl); (case hr => first | (go_simp; done) | (go_simp; rfl)); intro g4 e_ w_ b_ hb; replace HM := Aside0.mk (HM.out.box hb b_ e_); clear e_ b_ hb)
    | ((with_reducible refine gate_dst (N := 5) rfl ?_); refine box_event ?hg (N := 5) ?hd (cs := #[.int .i64 bx, .int .i64 by_]) (t := 25) ?hr ?_; (case hd => rfl); (case hg => rfl); (case hr => first | (go_simp; done) | (go_simp; rfl)); intro g5 e_ w_ b_ hb; replace HM := Aside0.mk (HM.out.box hb b_ e_); clear e_ b_ hb)
    | ((with_reducible refine gate_dst (N := 6) rfl ?_); refine box_event ?hg (N := 6) ?hd (cs := #[.int .i64 cx, .int .i64 cy]) (t := 25) ?hr ?_; (case hd => rfl); (case hg => rfl); (case hr => first | (go_simp; done) | (go_simp; rfl)); intro g6 e_ w_ b_ hb; replace HM := Aside0.mk (HM.out.box hb b_ e_); clear e_ b_ hb)
    | ((with_reducible refine gate_dst (N := 7) rfl ?_); refine box_event ?hg (N := 7) ?hd (cs := #[.int .i64 dx, .int .i64 dy]) (t := 25) ?hr ?_; (case hd => rfl); (case hg => rfl); (case hr => first | (go_simp; done) | (go_simp; rfl)); intro g7 e_ w_ b_ hb; replace HM := Aside0.mk (HM.out.box hb b_ e_); clear e_ b_ hb))
  replace HM := Aside0.mk ((HM.out.alloc #[.int .i64 0, .int .i64 0] 29).alloc #[.int .i64 0, .int .i64 0] 29)
  (try simp only [Act.put, List.setIfInBounds_toArray, List.set_cons_zero, List.set_cons_succ])
  have hsz : (w_.alloc (.cells #[.int .i64 0, .int .i64 0] 29)).heap.size = w_.heap.size + 1 := by simp
  rw [hsz] at HM
  clear hsz
  generalize (w_.alloc (.cells #[.int .i64 0, .int .i64 0] 29)).alloc (.cells #[.int .i64 0, .int .i64 0] 29) = w9 at *
  generalize w_.heap.size + 1 = g9 at *
  generalize w_.heap.size = g8 at *
  have ka0 := blk_cell HM.out.a5 0
  have ka1 := blk_cell HM.out.a5 1
  have kb0 := blk_cell HM.out.a4 0
  have kb1 := blk_cell HM.out.a4 1
  have kc0 := blk_cell HM.out.a3 0
  have kc1 := blk_cell HM.out.a3 1
  have kd0 := blk_cell HM.out.a2 0
  have kd1 := blk_cell HM.out.a2 1
  have kr0 := blk_cell HM.out.a1 0
  have kr1 := blk_cell HM.out.a1 1
  have krf0 := blk_frozen HM.out.a1 0
  have krf1 := blk_frozen HM.out.a1 1
  have kt0 := blk_cell HM.out.a0 0
  have kt1 := blk_cell HM.out.a0 1
  have ktf0 := blk_frozen HM.out.a0 0
  have ktf1 := blk_frozen HM.out.a0 1
  go_upto_region 5 with (first
    | (go_at_call 39; (with_reducible refine (lines_t ax ay bx by_ cx cy dx dy HL.out _).mono ?_); rintro e w_ ⟨g1, g2, rfl, hb⟩; rw [HU.out, HV.out, HU2.out, HV2.out] at hb; replace HM := Aside0.mk (HM.out.lines hb); clear hb; (try clear ka0 ka1 kb0 kb1 kc0 kc1 kd0 kd1 kr0 krf0 kr1 krf1 kt0 ktf0 kt1 ktf1); have ka0 := blk_cell HM.out.a7 0; have ka1 := blk_cell HM.out.a7 1; have kb0 := blk_cell HM.out.a6 0; have kb1 := blk_cell HM.out.a6 1; have kc0 := blk_cell HM.out.a5 0; have kc1 := blk_cell HM.out.a5 1; have kd0 := blk_cell HM.out.a4 0; have kd1 := blk_cell HM.out.a4 1; have kr0 := blk_cell HM.out.a3 0; have kr1 := blk_cell HM.out.a3 1; have krf0 := blk_frozen HM.out.a3 0; have krf1 := blk_frozen HM.out.a3 1; have kt0 := blk_cell HM.out.a2 0; have kt1 := blk_cell HM.out.a2 1; have ktf0 := blk_frozen HM.out.a2 0; have ktf1 := blk_frozen HM.out.a2 1; have kl0 := blk_cell HM.out.a1 0; have kl1 := blk_cell HM.out.a1 1; have kl2 := blk_cell HM.out.a1 2; have kl3 := blk_cell HM.out.a1 3; have km0 := blk_cell HM.out.a0 0; have km1 := blk_cell HM.out.a0 1; have km2 := blk_cell HM.out.a0 2; have km3 := blk_cell HM.out.a0 3)
    | (go_at_call 45; (with_reducible refine (along_calls g1 g2 _ _ _ _ _ _ _ _ _ HM.out.a1 HM.out.a0).mono ?_); rintro e w_ ⟨rfl, hb⟩; rw [HAL.out]; replace HM := Aside0.mk (HM.out.keep hb); clear hb; (try clear ka0 ka1 kb0 kb1 kc0 kc1 kd0 kd1 kr0 krf0 kr1 krf1 kt0 ktf0 kt1 ktf1 kl0 kl1 kl2 kl3 km0 km1 km2 km3); have kr0 := blk_cell HM.out.a3 0; have kr1 := blk_cell HM.out.a3 1; have krf0 := blk_frozen HM.out.a3 0; have krf1 := blk_frozen HM.out.a3 1; have kt0 := blk_cell HM.out.a2 0; have kt1 := blk_cell HM.out.a2 1; have ktf0 := blk_frozen HM.out.a2 0; have ktf1 := blk_frozen HM.out.a2 1; have kl0 := blk_cell HM.out.a1 0; have kl1 := blk_cell HM.out.a1 1; have kl2 := blk_cell HM.out.a1 2; have kl3 := blk_cell HM.out.a1 3; have km0 := blk_cell HM.out.a0 0; have km1 := blk_cell HM.out.a0 1; have km2 := blk_cell HM.out.a0 2; have km3 := blk_cell HM.out.a0 3))
  go_cut [16, 17] (fun v16 v17 wc => ∃ B : Nat, v16 = .pointer (some ⟨B, 0, none⟩) ∧ v17 = .bool true ∧ Aside0 (Hd w wc [(B, #[.int .i64 x1, .int .i64 x2], 29), (g2, #[.int .i64 cx, .int .i64 cy, .int .i64 u2, .int .i64 v2], 63), (g1, #[.int .i64 ax, .int .i64 ay, .int .i64 u, .int .i64 v], 63), (g9, #[.int .i64 0, .int .i64 0], 29), (g8, #[.int .i64 0, .int .i64 0], 29), (g7, #[.int .i64 dx, .int .i64 dy], 25), (g6, #[.int .i64 cx, .int .i64 cy], 25), (g5, #[.int .i64 bx, .int .i64 by_], 25), (g4, #[.int .i64 ax, .int .i64 ay], 25)]))
  case first =>
    go_region_held3 (fun w' => w'.cell? ⟨g1, 0, none⟩ = some (.int .i64 ax) ∧ w'.cell? ⟨g1, 2, none⟩ = some (.int .i64 u))
      (first
        | exact ⟨blk_cell HM.out.a1 0, blk_cell HM.out.a1 2⟩
        | exact ⟨blk_cell HM.out.a2 0, blk_cell HM.out.a2 2⟩
        | exact ⟨blk_cell HM.out.drew.a1 0, blk_cell HM.out.drew.a1 2⟩
        | exact ⟨blk_cell (HM.out.alloc _ _).a2 0, blk_cell (HM.out.alloc _ _).a2 2⟩
        | exact ⟨blk_cell (HM.out.drew.alloc _ _).a2 0, blk_cell (HM.out.drew.alloc _ _).a2 2⟩
        | exact ⟨blk_cell (HM.out.put2 _ _).a2 0, blk_cell (HM.out.put2 _ _).a2 2⟩
        | exact ⟨blk_cell ((HM.out.alloc _ _).put2 _ _).a2 0, blk_cell ((HM.out.alloc _ _).put2 _ _).a2 2⟩
        | go_keep)
      ((go_at_call 44; (with_reducible refine (impl_QuoOf.calls k (IntKind.i64.wrap (IntKind.i64.wrap (ax * lo) + IntKind.i64.wrap (tp * u))) lo x1 x2 true _ HX.out).mono ?_); rintro e w_ ⟨rfl, hb⟩; (first | replace HM := Aside0.mk (HM.out.keep hb) | replace HM := Aside0.mk (HM.out.drew.keep hb) | replace HM := Aside0.mk ((HM.out.allocDrew #[.int .i64 0, .int .i64 0] 29).keep hb) | replace HM := Aside0.mk ((HM.out.alloc #[.int .i64 0, .int .i64 0] 29).keep hb)); clear hb; (try clear kn0); (try clear kn1); (try clear knf0); (try clear knf1); have kn0 := blk_cell HM.out.a0 0; have kn1 := blk_cell HM.out.a0 1; have knf0 := blk_frozen HM.out.a0 0; have knf1 := blk_frozen HM.out.a0 1))
    all_goals
      go_wp2_with fail
      go_meet
      case rel => first | exact ⟨_, rfl, rfl, ⟨HM.out.put2 _ _⟩⟩ | exact ⟨_, rfl, rfl, ⟨HM.out.alloc _ _⟩⟩ | exact ⟨_, rfl, rfl, ⟨(HM.out.alloc _ _).put2 _ _⟩⟩
  case rest =>
    obtain ⟨B, rfl, rfl, HMc⟩ := hcut
    (try clear HM)
    have HM := HMc
    clear HMc
    (try clear kr0)
    (try clear krf0)
    (try clear kr1)
    (try clear krf1)
    (try clear kt0)
    (try clear ktf0)
    (try clear kt1)
    (try clear ktf1)
    (try clear kl0)
    (try clear kl1)
    (try clear kl2)
    (try clear kl3)
    (try clear km0)
    (try clear km1)
    (try clear km2)
    (try clear km3)
    have kl0 := blk_cell HM.out.a2 0
    have kl1 := blk_cell HM.out.a2 1
    have kl2 := blk_cell HM.out.a2 2
    have kl3 := blk_cell HM.out.a2 3
    go_upto_region 6 with fail
    go_cut [18, 19] (fun v18 v19 wc => ∃ C : Nat, v18 = .pointer (some ⟨C, 0, none⟩) ∧ v19 = .bool false ∧ Aside0 (Hd w wc [(C, #[.int .i64 y1, .int .i64 y2], 29), (B, #[.int .i64 x1, .int .i64 x2], 29), (g2, #[.int .i64 cx, .int .i64 cy, .int .i64 u2, .int .i64 v2], 63), (g1, #[.int .i64 ax, .int .i64 ay, .int .i64 u, .int .i64 v], 63), (g9, #[.int .i64 0, .int .i64 0], 29), (g8, #[.int .i64 0, .int .i64 0], 29), (g7, #[.int .i64 dx, .int .i64 dy], 25), (g6, #[.int .i64 cx, .int .i64 cy], 25), (g5, #[.int .i64 bx, .int .i64 by_], 25), (g4, #[.int .i64 ax, .int .i64 ay], 25)]))
    case first =>
      go_region_held3 (fun w' => w'.cell? ⟨g1, 1, none⟩ = some (.int .i64 ay) ∧ w'.cell? ⟨g1, 3, none⟩ = some (.int .i64 v))
        (first
          | exact ⟨blk_cell HM.out.a2 1, blk_cell HM.out.a2 3⟩
          | exact ⟨blk_cell HM.out.a3 1, blk_cell HM.out.a3 3⟩
          | exact ⟨blk_cell HM.out.drew.a2 1, blk_cell HM.out.drew.a2 3⟩
          | exact ⟨blk_cell (HM.out.alloc _ _).a3 1, blk_cell (HM.out.alloc _ _).a3 3⟩
          | exact ⟨blk_cell (HM.out.drew.alloc _ _).a3 1, blk_cell (HM.out.drew.alloc _ _).a3 3⟩
          | exact ⟨blk_cell (HM.out.put2 _ _).a3 1, blk_cell (HM.out.put2 _ _).a3 3⟩
          | exact ⟨blk_cell ((HM.out.alloc _ _).put2 _ _).a3 1, blk_cell ((HM.out.alloc _ _).put2 _ _).a3 3⟩
          | go_keep)
        ((go_at_call 44; (with_reducible refine (impl_QuoOf.calls k (IntKind.i64.wrap (IntKind.i64.wrap (ay * lo) + IntKind.i64.wrap (tp * v))) lo y1 y2 false _ HY.out).mono ?_); rintro e w_ ⟨rfl, hb⟩; (first | replace HM := Aside0.mk (HM.out.keep hb) | replace HM := Aside0.mk (HM.out.drew.keep hb) | replace HM := Aside0.mk ((HM.out.allocDrew #[.int .i64 0, .int .i64 0] 29).keep hb) | replace HM := Aside0.mk ((HM.out.alloc #[.int .i64 0, .int .i64 0] 29).keep hb)); clear hb; (try clear kn0); (try clear kn1); (try clear knf0); (try clear knf1); have kn0 := blk_cell HM.out.a0 0; have kn1 := blk_cell HM.out.a0 1; have knf0 := blk_frozen HM.out.a0 0; have knf1 := blk_frozen HM.out.a0 1))
      all_goals
        go_wp2_with fail
        go_meet
        case rel => first | exact ⟨_, rfl, rfl, ⟨HM.out.put2 _ _⟩⟩ | exact ⟨_, rfl, rfl, ⟨HM.out.alloc _ _⟩⟩ | exact ⟨_, rfl, rfl, ⟨(HM.out.alloc _ _).put2 _ _⟩⟩
    case rest =>
      obtain ⟨C, rfl, rfl, HMd⟩ := hcut
      clear HM
      have HM := HMd
      clear HMd
      (try clear kl0)
      (try clear kl1)
      (try clear kl2)
      (try clear kl3)
      have n98 : g9 ≠ g8 := HM.out.tl.tl.tl.tl.ne.1
      have n89 : g8 ≠ g9 := HM.out.tl.tl.tl.tl.ne.2
      have ky0 := blk_cell HM.out.a0 0
      have ky1 := blk_cell HM.out.a0 1
      have kx0 := blk_cell HM.out.a1 0
      have kx1 := blk_cell HM.out.a1 1
      have kr0 := blk_cell HM.out.a5 0
      have kr1 := blk_cell HM.out.a5 1
      have krf0 := blk_frozen HM.out.a5 0
      have krf1 := blk_frozen HM.out.a5 1
      have kt0 := blk_cell HM.out.a4 0
      have kt1 := blk_cell HM.out.a4 1
      have ktf0 := blk_frozen HM.out.a4 0
      have ktf1 := blk_frozen HM.out.a4 1
      go_wp2_with fail
      have HZ := (HM.out.put2_5 (.int .i64 0) (.int .i64 0)).put2_4 (.int .i64 0) (.int .i64 0)
      exact bodyPost_ret (v := .tuple #[.agg #[.int .i64 0, .int .i64 0], .agg #[.int .i64 0, .int .i64 0], .bool false]) (results_list (rs := [.cell 8 29, .cell 9 29, .tmp 10]) (vs := [.agg #[.int .i64 0, .int .i64 0], .agg #[.int .i64 0, .int .i64 0], .bool false]) rfl (by simp) (.cell g8 29 #[.int .i64 0, .int .i64 0] (0, 0) _ rfl HZ.a5 Try.underlying29 rfl (by kernel_rfl) (.cell g9 29 #[.int .i64 0, .int .i64 0] (0, 0) _ rfl HZ.a4 Try.underlying29 rfl (by kernel_rfl) (.tmp .nil)))) rfl ⟨rfl, HZ.1⟩
set_option maxHeartbeats 8000000 in
theorem crossAt_noX (k : Nat) (ax ay bx by_ cx cy dx dy : Int) (u v u2 v2 tp lo x1 x2 y1 y2 : Int) (y3 : Bool) (hl : lnOk ax ay bx by_ cx cy dx dy = true) (hu : wrap64 (bx - ax) = u) (hv : wrap64 (by_ - ay) = v) (hu2 : wrap64 (dx - cx) = u2) (hv2 : wrap64 (dy - cy) = v2)
    (hal : alI ax ay u v cx cy u2 v2 = (tp, lo)) (hx : impl_QuoOf.f k (wrap64 (wrap64 (ax * lo) + wrap64 (tp * u))) lo = some (x1, x2, false)) (hy : impl_QuoOf.f k (wrap64 (wrap64 (ay * lo) + wrap64 (tp * v))) lo = some (y1, y2, y3)) (w : World) : Calls Try.prog 21 #[.agg #[.int .i64 ax, .int .i64 ay], .agg #[.int .i64 bx, .int .i64 by_], .agg #[.int .i64 cx, .int .i64 cy], .agg #[.int .i64 dx, .int .i64 dy]] w fun e w' => e = .returned (.tuple #[.agg #[.int .i64 0, .int .i64 0], .agg #[.int .i64 0, .int .i64 0], .bool false]) ∧ Below w.heap.size w w' := by
  have HU := Aside0.mk hu
  have HV := Aside0.mk hv
  have HU2 := Aside0.mk hu2
  have HV2 := Aside0.mk hv2
  have HAL := Aside0.mk hal
  have HX : Aside0 (impl_QuoOf.f k (IntKind.i64.wrap (IntKind.i64.wrap (ax * lo) + IntKind.i64.wrap (tp * u))) lo = some (x1, x2, false)) := ⟨by rw [i64_w, i64_w, i64_w]; exact hx⟩
  have HY : Aside0 (impl_QuoOf.f k (IntKind.i64.wrap (IntKind.i64.wrap (ay * lo) + IntKind.i64.wrap (tp * v))) lo = some (y1, y2, y3)) := ⟨by rw [i64_w, i64_w, i64_w]; exact hy⟩
  clear hu hv hu2 hv2 hal hx hy
  have HL := Aside0.mk hl
  have HM := Aside0.mk (Hd.nil w)
  clear hl
  go_enter Try.func21, Try.ntmps21
  go_upto_region 1 with (first
    | ((with_reducible refine gate_dst (N := 4) rfl ?_); refine box_event ?hg (N := 4) ?hd (cs := #[.int .i64 ax, .int .i64 ay]) (t := 25) ?hr ?_; (case hd => rfl); (case hg => rfl); (case hr => first | (go_simp; done) | (go_simp; rfl)); intro g4 e_ w_ b_ hb; replace HM := Aside0.mk (HM.out.box hb b_ e_); clear e_ b_ hb)
    | ((with_reducible refine gate_dst (N := 5) rfl ?_); refine box_event ?hg (N := 5) ?hd (cs := #[.int .i64 bx, .int .i64 by_]) (t := 25) ?hr ?_; (case hd => rfl); (case hg => rfl); (case hr => first | (go_simp; done) | (go_simp; rfl)); intro g5 e_ w_ b_ hb; replace HM := Aside0.mk (HM.out.box hb b_ e_); clear e_ b_ hb)
    | ((with_reducible refine gate_dst (N := 6) rfl ?_); refine box_event ?hg (N := 6) ?hd (cs := #[.int .i64 cx, .int .i64 cy]) (t := 25) ?hr ?_; (case hd => rfl); (case hg => rfl); (case hr => first | (go_simp; done) | (go_simp; rfl)); intro g6 e_ w_ b_ hb; replace HM := Aside0.mk (HM.out.box hb b_ e_); clear e_ b_ hb)
    | ((with_reducible refine gate_dst (N := 7) rfl ?_); refine box_event ?hg (N := 7) ?hd (cs := #[.int .i64 dx, .int .i64 dy]) (t := 25) ?hr ?_; (case hd => rfl); (case hg => rfl); (case hr => first | (go_simp; done) | (go_simp; rfl)); intro g7 e_ w_ b_ hb; replace HM := Aside0.mk (HM.out.box hb b_ e_); clear e_ b_ hb))
  replace HM := Aside0.mk ((HM.out.alloc #[.int .i64 0, .int .i64 0] 29).alloc #[.int .i64 0, .int .i64 0] 29)
  (try simp only [Act.put, List.setIfInBounds_toArray, List.set_cons_zero, List.set_cons_succ])
  have hsz : (w_.alloc (.cells #[.int .i64 0, .int .i64 0] 29)).heap.size = w_.heap.size + 1 := by simp
  rw [hsz] at HM
  clear hsz
  generalize (w_.alloc (.cells #[.int .i64 0, .int .i64 0] 29)).alloc (.cells #[.int .i64 0, .int .i64 0] 29) = w9 at *
  generalize w_.heap.size + 1 = g9 at *
  generalize w_.heap.size = g8 at *
  have ka0 := blk_cell HM.out.a5 0
  have ka1 := blk_cell HM.out.a5 1
  have kb0 := blk_cell HM.out.a4 0
  have kb1 := blk_cell HM.out.a4 1
  have kc0 := blk_cell HM.out.a3 0
  have kc1 := blk_cell HM.out.a3 1
  have kd0 := blk_cell HM.out.a2 0
  have kd1 := blk_cell HM.out.a2 1
  have kr0 := blk_cell HM.out.a1 0
  have kr1 := blk_cell HM.out.a1 1
  have krf0 := blk_frozen HM.out.a1 0
  have krf1 := blk_frozen HM.out.a1 1
  have kt0 := blk_cell HM.out.a0 0
  have kt1 := blk_cell HM.out.a0 1
  have ktf0 := blk_frozen HM.out.a0 0
  have ktf1 := blk_frozen HM.out.a0 1
  go_upto_region 5 with (first
    | (go_at_call 39; (with_reducible refine (lines_t ax ay bx by_ cx cy dx dy HL.out _).mono ?_); rintro e w_ ⟨g1, g2, rfl, hb⟩; rw [HU.out, HV.out, HU2.out, HV2.out] at hb; replace HM := Aside0.mk (HM.out.lines hb); clear hb; (try clear ka0 ka1 kb0 kb1 kc0 kc1 kd0 kd1 kr0 krf0 kr1 krf1 kt0 ktf0 kt1 ktf1); have ka0 := blk_cell HM.out.a7 0; have ka1 := blk_cell HM.out.a7 1; have kb0 := blk_cell HM.out.a6 0; have kb1 := blk_cell HM.out.a6 1; have kc0 := blk_cell HM.out.a5 0; have kc1 := blk_cell HM.out.a5 1; have kd0 := blk_cell HM.out.a4 0; have kd1 := blk_cell HM.out.a4 1; have kr0 := blk_cell HM.out.a3 0; have kr1 := blk_cell HM.out.a3 1; have krf0 := blk_frozen HM.out.a3 0; have krf1 := blk_frozen HM.out.a3 1; have kt0 := blk_cell HM.out.a2 0; have kt1 := blk_cell HM.out.a2 1; have ktf0 := blk_frozen HM.out.a2 0; have ktf1 := blk_frozen HM.out.a2 1; have kl0 := blk_cell HM.out.a1 0; have kl1 := blk_cell HM.out.a1 1; have kl2 := blk_cell HM.out.a1 2; have kl3 := blk_cell HM.out.a1 3; have km0 := blk_cell HM.out.a0 0; have km1 := blk_cell HM.out.a0 1; have km2 := blk_cell HM.out.a0 2; have km3 := blk_cell HM.out.a0 3)
    | (go_at_call 45; (with_reducible refine (along_calls g1 g2 _ _ _ _ _ _ _ _ _ HM.out.a1 HM.out.a0).mono ?_); rintro e w_ ⟨rfl, hb⟩; rw [HAL.out]; replace HM := Aside0.mk (HM.out.keep hb); clear hb; (try clear ka0 ka1 kb0 kb1 kc0 kc1 kd0 kd1 kr0 krf0 kr1 krf1 kt0 ktf0 kt1 ktf1 kl0 kl1 kl2 kl3 km0 km1 km2 km3); have kr0 := blk_cell HM.out.a3 0; have kr1 := blk_cell HM.out.a3 1; have krf0 := blk_frozen HM.out.a3 0; have krf1 := blk_frozen HM.out.a3 1; have kt0 := blk_cell HM.out.a2 0; have kt1 := blk_cell HM.out.a2 1; have ktf0 := blk_frozen HM.out.a2 0; have ktf1 := blk_frozen HM.out.a2 1; have kl0 := blk_cell HM.out.a1 0; have kl1 := blk_cell HM.out.a1 1; have kl2 := blk_cell HM.out.a1 2; have kl3 := blk_cell HM.out.a1 3; have km0 := blk_cell HM.out.a0 0; have km1 := blk_cell HM.out.a0 1; have km2 := blk_cell HM.out.a0 2; have km3 := blk_cell HM.out.a0 3))
  go_cut [16, 17] (fun v16 v17 wc => ∃ B : Nat, v16 = .pointer (some ⟨B, 0, none⟩) ∧ v17 = .bool false ∧ Aside0 (Hd w wc [(B, #[.int .i64 x1, .int .i64 x2], 29), (g2, #[.int .i64 cx, .int .i64 cy, .int .i64 u2, .int .i64 v2], 63), (g1, #[.int .i64 ax, .int .i64 ay, .int .i64 u, .int .i64 v], 63), (g9, #[.int .i64 0, .int .i64 0], 29), (g8, #[.int .i64 0, .int .i64 0], 29), (g7, #[.int .i64 dx, .int .i64 dy], 25), (g6, #[.int .i64 cx, .int .i64 cy], 25), (g5, #[.int .i64 bx, .int .i64 by_], 25), (g4, #[.int .i64 ax, .int .i64 ay], 25)]))
  case first =>
    go_region_held3 (fun w' => w'.cell? ⟨g1, 0, none⟩ = some (.int .i64 ax) ∧ w'.cell? ⟨g1, 2, none⟩ = some (.int .i64 u))
      (first
        | exact ⟨blk_cell HM.out.a1 0, blk_cell HM.out.a1 2⟩
        | exact ⟨blk_cell HM.out.a2 0, blk_cell HM.out.a2 2⟩
        | exact ⟨blk_cell HM.out.drew.a1 0, blk_cell HM.out.drew.a1 2⟩
        | exact ⟨blk_cell (HM.out.alloc _ _).a2 0, blk_cell (HM.out.alloc _ _).a2 2⟩
        | exact ⟨blk_cell (HM.out.drew.alloc _ _).a2 0, blk_cell (HM.out.drew.alloc _ _).a2 2⟩
        | exact ⟨blk_cell (HM.out.put2 _ _).a2 0, blk_cell (HM.out.put2 _ _).a2 2⟩
        | exact ⟨blk_cell ((HM.out.alloc _ _).put2 _ _).a2 0, blk_cell ((HM.out.alloc _ _).put2 _ _).a2 2⟩
        | go_keep)
      ((go_at_call 44; (with_reducible refine (impl_QuoOf.calls k (IntKind.i64.wrap (IntKind.i64.wrap (ax * lo) + IntKind.i64.wrap (tp * u))) lo x1 x2 false _ HX.out).mono ?_); rintro e w_ ⟨rfl, hb⟩; (first | replace HM := Aside0.mk (HM.out.keep hb) | replace HM := Aside0.mk (HM.out.drew.keep hb) | replace HM := Aside0.mk ((HM.out.allocDrew #[.int .i64 0, .int .i64 0] 29).keep hb) | replace HM := Aside0.mk ((HM.out.alloc #[.int .i64 0, .int .i64 0] 29).keep hb)); clear hb; (try clear kn0); (try clear kn1); (try clear knf0); (try clear knf1); have kn0 := blk_cell HM.out.a0 0; have kn1 := blk_cell HM.out.a0 1; have knf0 := blk_frozen HM.out.a0 0; have knf1 := blk_frozen HM.out.a0 1))
    all_goals
      go_wp2_with fail
      go_meet
      case rel => first | exact ⟨_, rfl, rfl, ⟨HM.out.put2 _ _⟩⟩ | exact ⟨_, rfl, rfl, ⟨HM.out.alloc _ _⟩⟩ | exact ⟨_, rfl, rfl, ⟨(HM.out.alloc _ _).put2 _ _⟩⟩
  case rest =>
    obtain ⟨B, rfl, rfl, HMc⟩ := hcut
    (try clear HM)
    have HM := HMc
    clear HMc
    (try clear kr0)
    (try clear krf0)
    (try clear kr1)
    (try clear krf1)
    (try clear kt0)
    (try clear ktf0)
    (try clear kt1)
    (try clear ktf1)
    (try clear kl0)
    (try clear kl1)
    (try clear kl2)
    (try clear kl3)
    (try clear km0)
    (try clear km1)
    (try clear km2)
    (try clear km3)
    have kl0 := blk_cell HM.out.a2 0
    have kl1 := blk_cell HM.out.a2 1
    have kl2 := blk_cell HM.out.a2 2
    have kl3 := blk_cell HM.out.a2 3
    go_upto_region 6 with fail
    go_cut [18, 19] (fun v18 v19 wc => ∃ C : Nat, v18 = .pointer (some ⟨C, 0, none⟩) ∧ v19 = .bool y3 ∧ Aside0 (Hd w wc [(C, #[.int .i64 y1, .int .i64 y2], 29), (B, #[.int .i64 x1, .int .i64 x2], 29), (g2, #[.int .i64 cx, .int .i64 cy, .int .i64 u2, .int .i64 v2], 63), (g1, #[.int .i64 ax, .int .i64 ay, .int .i64 u, .int .i64 v], 63), (g9, #[.int .i64 0, .int .i64 0], 29), (g8, #[.int .i64 0, .int .i64 0], 29), (g7, #[.int .i64 dx, .int .i64 dy], 25), (g6, #[.int .i64 cx, .int .i64 cy], 25), (g5, #[.int .i64 bx, .int .i64 by_], 25), (g4, #[.int .i64 ax, .int .i64 ay], 25)]))
    case first =>
      go_region_held3 (fun w' => w'.cell? ⟨g1, 1, none⟩ = some (.int .i64 ay) ∧ w'.cell? ⟨g1, 3, none⟩ = some (.int .i64 v))
        (first
          | exact ⟨blk_cell HM.out.a2 1, blk_cell HM.out.a2 3⟩
          | exact ⟨blk_cell HM.out.a3 1, blk_cell HM.out.a3 3⟩
          | exact ⟨blk_cell HM.out.drew.a2 1, blk_cell HM.out.drew.a2 3⟩
          | exact ⟨blk_cell (HM.out.alloc _ _).a3 1, blk_cell (HM.out.alloc _ _).a3 3⟩
          | exact ⟨blk_cell (HM.out.drew.alloc _ _).a3 1, blk_cell (HM.out.drew.alloc _ _).a3 3⟩
          | exact ⟨blk_cell (HM.out.put2 _ _).a3 1, blk_cell (HM.out.put2 _ _).a3 3⟩
          | exact ⟨blk_cell ((HM.out.alloc _ _).put2 _ _).a3 1, blk_cell ((HM.out.alloc _ _).put2 _ _).a3 3⟩
          | go_keep)
        ((go_at_call 44; (with_reducible refine (impl_QuoOf.calls k (IntKind.i64.wrap (IntKind.i64.wrap (ay * lo) + IntKind.i64.wrap (tp * v))) lo y1 y2 y3 _ HY.out).mono ?_); rintro e w_ ⟨rfl, hb⟩; (first | replace HM := Aside0.mk (HM.out.keep hb) | replace HM := Aside0.mk (HM.out.drew.keep hb) | replace HM := Aside0.mk ((HM.out.allocDrew #[.int .i64 0, .int .i64 0] 29).keep hb) | replace HM := Aside0.mk ((HM.out.alloc #[.int .i64 0, .int .i64 0] 29).keep hb)); clear hb; (try clear kn0); (try clear kn1); (try clear knf0); (try clear knf1); have kn0 := blk_cell HM.out.a0 0; have kn1 := blk_cell HM.out.a0 1; have knf0 := blk_frozen HM.out.a0 0; have knf1 := blk_frozen HM.out.a0 1))
      all_goals
        go_wp2_with fail
        go_meet
        case rel => first | exact ⟨_, rfl, rfl, ⟨HM.out.put2 _ _⟩⟩ | exact ⟨_, rfl, rfl, ⟨HM.out.alloc _ _⟩⟩ | exact ⟨_, rfl, rfl, ⟨(HM.out.alloc _ _).put2 _ _⟩⟩
    case rest =>
      obtain ⟨C, rfl, rfl, HMd⟩ := hcut
      clear HM
      have HM := HMd
      clear HMd
      (try clear kl0)
      (try clear kl1)
      (try clear kl2)
      (try clear kl3)
      have n98 : g9 ≠ g8 := HM.out.tl.tl.tl.tl.ne.1
      have n89 : g8 ≠ g9 := HM.out.tl.tl.tl.tl.ne.2
      have ky0 := blk_cell HM.out.a0 0
      have ky1 := blk_cell HM.out.a0 1
      have kx0 := blk_cell HM.out.a1 0
      have kx1 := blk_cell HM.out.a1 1
      have kr0 := blk_cell HM.out.a5 0
      have kr1 := blk_cell HM.out.a5 1
      have krf0 := blk_frozen HM.out.a5 0
      have krf1 := blk_frozen HM.out.a5 1
      have kt0 := blk_cell HM.out.a4 0
      have kt1 := blk_cell HM.out.a4 1
      have ktf0 := blk_frozen HM.out.a4 0
      have ktf1 := blk_frozen HM.out.a4 1
      go_wp2_with fail
      have HZ := (HM.out.put2_5 (.int .i64 0) (.int .i64 0)).put2_4 (.int .i64 0) (.int .i64 0)
      exact bodyPost_ret (v := .tuple #[.agg #[.int .i64 0, .int .i64 0], .agg #[.int .i64 0, .int .i64 0], .bool false]) (results_list (rs := [.cell 8 29, .cell 9 29, .tmp 10]) (vs := [.agg #[.int .i64 0, .int .i64 0], .agg #[.int .i64 0, .int .i64 0], .bool false]) rfl (by simp) (.cell g8 29 #[.int .i64 0, .int .i64 0] (0, 0) _ rfl HZ.a5 Try.underlying29 rfl (by kernel_rfl) (.cell g9 29 #[.int .i64 0, .int .i64 0] (0, 0) _ rfl HZ.a4 Try.underlying29 rfl (by kernel_rfl) (.tmp .nil)))) rfl ⟨rfl, HZ.1⟩
def impl_CrossAt.f (k : Nat) (a0_0 : Int) (a0_1 : Int) (a1_0 : Int) (a1_1 : Int) (a2_0 : Int) (a2_1 : Int) (a3_0 : Int) (a3_1 : Int) : Option (Int × Int × Int × Int × Bool) := if lnOk a0_0 a0_1 a1_0 a1_1 a2_0 a2_1 a3_0 a3_1 = true then
  ((impl_QuoOf.f k (wrap64 (wrap64 (a0_0 * (alI a0_0 a0_1 (wrap64 (a1_0 - a0_0)) (wrap64 (a1_1 - a0_1)) a2_0 a2_1 (wrap64 (a3_0 - a2_0)) (wrap64 (a3_1 - a2_1))).2) + wrap64 ((alI a0_0 a0_1 (wrap64 (a1_0 - a0_0)) (wrap64 (a1_1 - a0_1)) a2_0 a2_1 (wrap64 (a3_0 - a2_0)) (wrap64 (a3_1 - a2_1))).1 * (wrap64 (a1_0 - a0_0))))) (alI a0_0 a0_1 (wrap64 (a1_0 - a0_0)) (wrap64 (a1_1 - a0_1)) a2_0 a2_1 (wrap64 (a3_0 - a2_0)) (wrap64 (a3_1 - a2_1))).2).bind fun x => ((impl_QuoOf.f k (wrap64 (wrap64 (a0_1 * (alI a0_0 a0_1 (wrap64 (a1_0 - a0_0)) (wrap64 (a1_1 - a0_1)) a2_0 a2_1 (wrap64 (a3_0 - a2_0)) (wrap64 (a3_1 - a2_1))).2) + wrap64 ((alI a0_0 a0_1 (wrap64 (a1_0 - a0_0)) (wrap64 (a1_1 - a0_1)) a2_0 a2_1 (wrap64 (a3_0 - a2_0)) (wrap64 (a3_1 - a2_1))).1 * (wrap64 (a1_1 - a0_1))))) (alI a0_0 a0_1 (wrap64 (a1_0 - a0_0)) (wrap64 (a1_1 - a0_1)) a2_0 a2_1 (wrap64 (a3_0 - a2_0)) (wrap64 (a3_1 - a2_1))).2).bind fun y => (if x.2.2 = true then (if y.2.2 = true then some (x.1, x.2.1, y.1, y.2.1, true) else some (0, 0, 0, 0, false)) else some (0, 0, 0, 0, false))))
  else some (0, 0, 0, 0, false)
theorem impl_CrossAt.mono : ∀ a0_0 a0_1 a1_0 a1_1 a2_0 a2_1 a3_0 a3_1 k, LeO (impl_CrossAt.f k a0_0 a0_1 a1_0 a1_1 a2_0 a2_1 a3_0 a3_1) (impl_CrossAt.f (k + 1) a0_0 a0_1 a1_0 a1_1 a2_0 a2_1 a3_0 a3_1) := by
  intro a0_0 a0_1 a1_0 a1_1 a2_0 a2_1 a3_0 a3_1 k
  unfold impl_CrossAt.f
  exact LeO.ite (LeO.bind (impl_QuoOf.mono _ _ _) (fun _ => LeO.bind (impl_QuoOf.mono _ _ _) (fun _ => LeO.refl _))) (LeO.refl _)
theorem impl_CrossAt.calls (k : Nat) (a0_0 : Int) (a0_1 : Int) (a1_0 : Int) (a1_1 : Int) (a2_0 : Int) (a2_1 : Int) (a3_0 : Int) (a3_1 : Int) (r1 : Int) (r2 : Int) (r3 : Int) (r4 : Int) (r5 : Bool) (w : World) (h : impl_CrossAt.f k a0_0 a0_1 a1_0 a1_1 a2_0 a2_1 a3_0 a3_1 = some (r1, r2, r3, r4, r5)) :
    Calls Try.prog 21 #[.agg #[.int .i64 a0_0, .int .i64 a0_1], .agg #[.int .i64 a1_0, .int .i64 a1_1], .agg #[.int .i64 a2_0, .int .i64 a2_1], .agg #[.int .i64 a3_0, .int .i64 a3_1]] w fun e w' => e = .returned (.tuple #[.agg #[.int .i64 r1, .int .i64 r2], .agg #[.int .i64 r3, .int .i64 r4], .bool r5]) ∧ Below w.heap.size w w' := by
  unfold impl_CrossAt.f at h
  cases hl : lnOk a0_0 a0_1 a1_0 a1_1 a2_0 a2_1 a3_0 a3_1 with
  | false =>
    rw [hl, if_neg (by simp)] at h
    simp only [Option.some.injEq, Prod.mk.injEq] at h
    obtain ⟨rfl, rfl, rfl, rfl, rfl⟩ := h
    exact crossAt_no _ _ _ _ _ _ _ _ hl w
  | true =>
    rw [hl, if_pos rfl] at h
    obtain ⟨⟨x1, x2, x3⟩, hx, h⟩ := Option.bind_eq_some_iff.1 h
    obtain ⟨⟨y1, y2, y3⟩, hy, h⟩ := Option.bind_eq_some_iff.1 h
    cases x3 with
    | false =>
      simp only [Bool.false_eq_true, if_false, Option.some.injEq, Prod.mk.injEq] at h
      obtain ⟨rfl, rfl, rfl, rfl, rfl⟩ := h
      exact crossAt_noX k _ _ _ _ _ _ _ _ _ _ _ _ _ _ _ _ _ _ _ hl rfl rfl rfl rfl rfl hx hy w
    | true =>
      cases y3 with
      | false =>
        simp only [Bool.false_eq_true, if_false, if_true, Option.some.injEq, Prod.mk.injEq] at h
        obtain ⟨rfl, rfl, rfl, rfl, rfl⟩ := h
        exact crossAt_noY k _ _ _ _ _ _ _ _ _ _ _ _ _ _ _ _ _ _ hl rfl rfl rfl rfl rfl hx hy w
      | true =>
        simp only [if_true, Option.some.injEq, Prod.mk.injEq] at h
        obtain ⟨rfl, rfl, rfl, rfl, rfl⟩ := h
        exact crossAt_yes k _ _ _ _ _ _ _ _ _ _ _ _ _ _ _ _ _ _ hl rfl rfl rfl rfl rfl hx hy w

end Go.Proofs.Ytgoejfdciejikaa.P

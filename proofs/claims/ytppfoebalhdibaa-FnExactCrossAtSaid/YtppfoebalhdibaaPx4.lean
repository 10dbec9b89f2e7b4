import Derived.Test.YtppfoebalhdibaaPx0
import Derived.Test.YtppfoebalhdibaaPx3
namespace Go.Proofs.Ytppfoebalhdibaa.P
open Go.RowKit Go.Proofs.YtppfoebalhdibaaW.PrintWords Go.Proofs.YtppfoebalhdibaaW.PrintLast Go.Proofs.YtppfoebalhdibaaW.PrintMore
attribute [local go_sem] max2_int min2_int max_two min_two max_three min_three max_four min_four
set_option linter.unusedVariables false
set_option linter.unusedSimpArgs false
set_option maxHeartbeats 4000000 in
theorem crossAt_no (ax ay bx by_ cx cy dx dy : Int) (hl : lnOk ax ay bx by_ cx cy dx dy = false) (w : World) : Calls Try.prog 6 #[.agg #[.int .i64 ax, .int .i64 ay], .agg #[.int .i64 bx, .int .i64 by_], .agg #[.int .i64 cx, .int .i64 cy], .agg #[.int .i64 dx, .int .i64 dy]] w fun e w' => e = .returned (.tuple #[.agg #[.int .i64 0, .int .i64 0], .agg #[.int .i64 0, .int .i64 0], .bool false]) ∧ Below w.heap.size w w' := by
 have HL := Aside0.mk hl
 have HM := Aside0.mk (Hd.nil w)
 clear hl
 go_enter Try.func6, Try.ntmps6
 go_upto_region 1 with (first
  | ((with_reducible refine gate_dst (N := 4) rfl ?_); refine bx_ 4 (cs := #[.int .i64 ax, .int .i64 ay]) (t := 28) ?_; intro g4 e_ w_ b_ hb; replace HM := Aside0.mk (HM.out.box hb b_ e_); clear e_ b_ hb)
  | ((with_reducible refine gate_dst (N := 5) rfl ?_); refine bx_ 5 (cs := #[.int .i64 bx, .int .i64 by_]) (t := 28) ?_; intro g5 e_ w_ b_ hb; replace HM := Aside0.mk (HM.out.box hb b_ e_); clear e_ b_ hb)
  | ((with_reducible refine gate_dst (N := 6) rfl ?_); refine bx_ 6 (cs := #[.int .i64 cx, .int .i64 cy]) (t := 28) ?_; intro g6 e_ w_ b_ hb; replace HM := Aside0.mk (HM.out.box hb b_ e_); clear e_ b_ hb)
  | ((with_reducible refine gate_dst (N := 7) rfl ?_); refine bx_ 7 (cs := #[.int .i64 dx, .int .i64 dy]) (t := 28) ?_; intro g7 e_ w_ b_ hb; replace HM := Aside0.mk (HM.out.box hb b_ e_); clear e_ b_ hb))
 replace HM := Aside0.mk ((HM.out.alloc #[.int .i64 0, .int .i64 0] 25).alloc #[.int .i64 0, .int .i64 0] 25)
 (try simp only [Act.put, List.setIfInBounds_toArray, List.set_cons_zero, List.set_cons_succ])
 have hsz : (w_.alloc (.cells #[.int .i64 0, .int .i64 0] 25)).heap.size = w_.heap.size + 1 := by simp
 rw [hsz] at HM
 clear hsz
 generalize (w_.alloc (.cells #[.int .i64 0, .int .i64 0] 25)).alloc (.cells #[.int .i64 0, .int .i64 0] 25) = w9 at *
 generalize w_.heap.size + 1 = g9 at *
 generalize w_.heap.size = g8 at *
 have ka0 := blk_cell HM.out.a5 0
 have ka1 := blk_cell HM.out.a5 1
 have kb0 := blk_cell HM.out.a4 0
 have kb1 := blk_cell HM.out.a4 1
 have kc0 := blk_cell HM.out.a3 0
 have kc1 := blk_cell HM.out.a3 1
 have kd0 := blk_cell HM.out.a2 0
 have kd1 := blk_cell HM.out.a2 1
 have kr0 := blk_cell HM.out.a1 0
 have kr1 := blk_cell HM.out.a1 1
 have krf0 := blk_frozen HM.out.a1 0
 have krf1 := blk_frozen HM.out.a1 1
 have kt0 := blk_cell HM.out.a0 0
 have kt1 := blk_cell HM.out.a0 1
 have ktf0 := blk_frozen HM.out.a0 0
 have ktf1 := blk_frozen HM.out.a0 1
 have n98 : g9 ≠ g8 := HM.out.ne.1
 have n89 : g8 ≠ g9 := HM.out.ne.2
 go_wp2_with (go_at_call 11; (with_reducible refine (lines_f ax ay bx by_ cx cy dx dy HL.out _).mono ?_); rintro e w_ ⟨rfl, hb⟩; replace HM := Aside0.mk (HM.out.keep hb); clear hb; (try clear ka0 ka1 kb0 kb1 kc0 kc1 kd0 kd1 kr0 krf0 kr1 krf1 kt0 ktf0 kt1 ktf1); have ka0 := blk_cell HM.out.a5 0; have ka1 := blk_cell HM.out.a5 1; have kb0 := blk_cell HM.out.a4 0; have kb1 := blk_cell HM.out.a4 1; have kc0 := blk_cell HM.out.a3 0; have kc1 := blk_cell HM.out.a3 1; have kd0 := blk_cell HM.out.a2 0; have kd1 := blk_cell HM.out.a2 1; have kr0 := blk_cell HM.out.a1 0; have kr1 := blk_cell HM.out.a1 1; have krf0 := blk_frozen HM.out.a1 0; have krf1 := blk_frozen HM.out.a1 1; have kt0 := blk_cell HM.out.a0 0; have kt1 := blk_cell HM.out.a0 1; have ktf0 := blk_frozen HM.out.a0 0; have ktf1 := blk_frozen HM.out.a0 1)
 have HZ := (HM.out.put2_1 (.int .i64 0) (.int .i64 0)).put2 (.int .i64 0) (.int .i64 0)
 exact bodyPost_ret (v := .tuple #[.agg #[.int .i64 0, .int .i64 0], .agg #[.int .i64 0, .int .i64 0], .bool false]) (results_list (rs := [.cell 8 25, .cell 9 25, .tmp 10]) (vs := [.agg #[.int .i64 0, .int .i64 0], .agg #[.int .i64 0, .int .i64 0], .bool false]) rfl (by simp) (.cell g8 25 #[.int .i64 0, .int .i64 0] (0, 0) _ rfl HZ.a1 Try.underlying25 rfl (by kernel_rfl) (.cell g9 25 #[.int .i64 0, .int .i64 0] (0, 0) _ rfl HZ.a0 Try.underlying25 rfl (by kernel_rfl) (.tmp .nil)))) rfl ⟨rfl, HZ.1⟩
set_option maxHeartbeats 8000000 in
theorem crossAt_yes (k : Nat) (ax ay bx by_ cx cy dx dy : Int) (u v u2 v2 tp lo x1 x2 y1 y2 : Int) (hl : lnOk ax ay bx by_ cx cy dx dy = true) (hu : wrap64 (bx - ax) = u) (hv : wrap64 (by_ - ay) = v) (hu2 : wrap64 (dx - cx) = u2) (hv2 : wrap64 (dy - cy) = v2)
  (hal : alI ax ay u v cx cy u2 v2 = (tp, lo)) (hx : impl_QuoOf.f k (wrap64 (wrap64 (ax * lo) + wrap64 (tp * u))) lo = some (x1, x2, true)) (hy : impl_QuoOf.f k (wrap64 (wrap64 (ay * lo) + wrap64 (tp * v))) lo = some (y1, y2, true)) (w : World) : Calls Try.prog 6 #[.agg #[.int .i64 ax, .int .i64 ay], .agg #[.int .i64 bx, .int .i64 by_], .agg #[.int .i64 cx, .int .i64 cy], .agg #[.int .i64 dx, .int .i64 dy]] w fun e w' => e = .returned (.tuple #[.agg #[.int .i64 x1, .int .i64 x2], .agg #[.int .i64 y1, .int .i64 y2], .bool true]) ∧ Below w.heap.size w w' := by
 have HU := Aside0.mk hu
 have HV := Aside0.mk hv
 have HU2 := Aside0.mk hu2
 have HV2 := Aside0.mk hv2
 have HAL := Aside0.mk hal
 have HX : Aside0 (impl_QuoOf.f k (IntKind.i64.wrap (IntKind.i64.wrap (ax * lo) + IntKind.i64.wrap (tp * u))) lo = some (x1, x2, true)) := ⟨by rw [i64_w, i64_w, i64_w]; exact hx⟩
 have HY : Aside0 (impl_QuoOf.f k (IntKind.i64.wrap (IntKind.i64.wrap (ay * lo) + IntKind.i64.wrap (tp * v))) lo = some (y1, y2, true)) := ⟨by rw [i64_w, i64_w, i64_w]; exact hy⟩
 clear hu hv hu2 hv2 hal hx hy
 have HL := Aside0.mk hl
 have HM := Aside0.mk (Hd.nil w)
 clear hl
 go_enter Try.func6, Try.ntmps6
 go_upto_region 1 with (first
  | ((with_reducible refine gate_dst (N := 4) rfl ?_); refine bx_ 4 (cs := #[.int .i64 ax, .int .i64 ay]) (t := 28) ?_; intro g4 e_ w_ b_ hb; replace HM := Aside0.mk (HM.out.box hb b_ e_); clear e_ b_ hb)
  | ((with_reducible refine gate_dst (N := 5) rfl ?_); refine bx_ 5 (cs := #[.int .i64 bx, .int .i64 by_]) (t := 28) ?_; intro g5 e_ w_ b_ hb; replace HM := Aside0.mk (HM.out.box hb b_ e_); clear e_ b_ hb)
  | ((with_reducible refine gate_dst (N := 6) rfl ?_); refine bx_ 6 (cs := #[.int .i64 cx, .int .i64 cy]) (t := 28) ?_; intro g6 e_ w_ b_ hb; replace HM := Aside0.mk (HM.out.box hb b_ e_); clear e_ b_ hb)
  | ((with_reducible refine gate_dst (N := 7) rfl ?_); refine bx_ 7 (cs := #[.int .i64 dx, .int .i64 dy]) (t := 28) ?_; intro g7 e_ w_ b_ hb; replace HM := Aside0.mk (HM.out.box hb b_ e_); clear e_ b_ hb))
 replace HM := Aside0.mk ((HM.out.alloc #[.int .i64 0, .int .i64 0] 25).alloc #[.int .i64 0, .int .i64 0] 25)
 (try simp only [Act.put, List.setIfInBounds_toArray, List.set_cons_zero, List.set_cons_succ])
 have hsz : (w_.alloc (.cells #[.int .i64 0, .int .i64 0] 25)).heap.size = w_.heap.size + 1 := by simp
 rw [hsz] at HM
 clear hsz
 generalize (w_.alloc (.cells #[.int .i64 0, .int .i64 0] 25)).alloc (.cells #[.int .i64 0, .int .i64 0] 25) = w9 at *
 generalize w_.heap.size + 1 = g9 at *
 generalize w_.heap.size = g8 at *
 have ka0 := blk_cell HM.out.a5 0
 have ka1 := blk_cell HM.out.a5 1
 have kb0 := blk_cell HM.out.a4 0
 have kb1 := blk_cell HM.out.a4 1
 have kc0 := blk_cell HM.out.a3 0
 have kc1 := blk_cell HM.out.a3 1
 have kd0 := blk_cell HM.out.a2 0
 have kd1 := blk_cell HM.out.a2 1
 have kr0 := blk_cell HM.out.a1 0
 have kr1 := blk_cell HM.out.a1 1
 have krf0 := blk_frozen HM.out.a1 0
 have krf1 := blk_frozen HM.out.a1 1
 have kt0 := blk_cell HM.out.a0 0
 have kt1 := blk_cell HM.out.a0 1
 have ktf0 := blk_frozen HM.out.a0 0
 have ktf1 := blk_frozen HM.out.a0 1
 go_upto_region 5 with (first
  | (go_at_call 11; (with_reducible refine (lines_t ax ay bx by_ cx cy dx dy HL.out _).mono ?_); rintro e w_ ⟨g1, g2, rfl, hb⟩; rw [HU.out, HV.out, HU2.out, HV2.out] at hb; replace HM := Aside0.mk (HM.out.lines hb); clear hb; (try clear ka0 ka1 kb0 kb1 kc0 kc1 kd0 kd1 kr0 krf0 kr1 krf1 kt0 ktf0 kt1 ktf1); have ka0 := blk_cell HM.out.a7 0; have ka1 := blk_cell HM.out.a7 1; have kb0 := blk_cell HM.out.a6 0; have kb1 := blk_cell HM.out.a6 1; have kc0 := blk_cell HM.out.a5 0; have kc1 := blk_cell HM.out.a5 1; have kd0 := blk_cell HM.out.a4 0; have kd1 := blk_cell HM.out.a4 1; have kr0 := blk_cell HM.out.a3 0; have kr1 := blk_cell HM.out.a3 1; have krf0 := blk_frozen HM.out.a3 0; have krf1 := blk_frozen HM.out.a3 1; have kt0 := blk_cell HM.out.a2 0; have kt1 := blk_cell HM.out.a2 1; have ktf0 := blk_frozen HM.out.a2 0; have ktf1 := blk_frozen HM.out.a2 1; have kl0 := blk_cell HM.out.a1 0; have kl1 := blk_cell HM.out.a1 1; have kl2 := blk_cell HM.out.a1 2; have kl3 := blk_cell HM.out.a1 3; have km0 := blk_cell HM.out.a0 0; have km1 := blk_cell HM.out.a0 1; have km2 := blk_cell HM.out.a0 2; have km3 := blk_cell HM.out.a0 3)
  | (go_at_call 12; (with_reducible refine (along_calls g1 g2 _ _ _ _ _ _ _ _ _ HM.out.a1 HM.out.a0).mono ?_); rintro e w_ ⟨rfl, hb⟩; rw [HAL.out]; replace HM := Aside0.mk (HM.out.keep hb); clear hb; (try clear ka0 ka1 kb0 kb1 kc0 kc1 kd0 kd1 kr0 krf0 kr1 krf1 kt0 ktf0 kt1 ktf1 kl0 kl1 kl2 kl3 km0 km1 km2 km3); have kr0 := blk_cell HM.out.a3 0; have kr1 := blk_cell HM.out.a3 1; have krf0 := blk_frozen HM.out.a3 0; have krf1 := blk_frozen HM.out.a3 1; have kt0 := blk_cell HM.out.a2 0; have kt1 := blk_cell HM.out.a2 1; have ktf0 := blk_frozen HM.out.a2 0; have ktf1 := blk_frozen HM.out.a2 1; have kl0 := blk_cell HM.out.a1 0; have kl1 := blk_cell HM.out.a1 1; have kl2 := blk_cell HM.out.a1 2; have kl3 := blk_cell HM.out.a1 3; have km0 := blk_cell HM.out.a0 0; have km1 := blk_cell HM.out.a0 1; have km2 := blk_cell HM.out.a0 2; have km3 := blk_cell HM.out.a0 3))
 go_cut [16, 17] (fun v16 v17 wc => ∃ B : Nat, v16 = .pointer (some ⟨B, 0, none⟩) ∧ v17 = .bool true ∧ Aside0 (Hd w wc [(B, #[.int .i64 x1, .int .i64 x2], 25), (g2, #[.int .i64 cx, .int .i64 cy, .int .i64 u2, .int .i64 v2], 44), (g1, #[.int .i64 ax, .int .i64 ay, .int .i64 u, .int .i64 v], 44), (g9, #[.int .i64 0, .int .i64 0], 25), (g8, #[.int .i64 0, .int .i64 0], 25), (g7, #[.int .i64 dx, .int .i64 dy], 28), (g6, #[.int .i64 cx, .int .i64 cy], 28), (g5, #[.int .i64 bx, .int .i64 by_], 28), (g4, #[.int .i64 ax, .int .i64 ay], 28)]))
 case first =>
  go_region_held3 (fun w' => w'.cell? ⟨g1, 0, none⟩ = some (.int .i64 ax) ∧ w'.cell? ⟨g1, 2, none⟩ = some (.int .i64 u))
   (first
    | exact ⟨blk_cell HM.out.a1 0, blk_cell HM.out.a1 2⟩
    | exact ⟨blk_cell HM.out.a2 0, blk_cell HM.out.a2 2⟩
    | exact ⟨blk_cell HM.out.drew.a1 0, blk_cell HM.out.drew.a1 2⟩
    | exact ⟨blk_cell (HM.out.alloc _ _).a2 0, blk_cell (HM.out.alloc _ _).a2 2⟩
    | exact ⟨blk_cell (HM.out.drew.alloc _ _).a2 0, blk_cell (HM.out.drew.alloc _ _).a2 2⟩
    | exact ⟨blk_cell (HM.out.put2 _ _).a2 0, blk_cell (HM.out.put2 _ _).a2 2⟩
    | exact ⟨blk_cell ((HM.out.alloc _ _).put2 _ _).a2 0, blk_cell ((HM.out.alloc _ _).put2 _ _).a2 2⟩
    | go_keep)
   ((go_at_call 13; (with_reducible refine (impl_QuoOf.calls k (IntKind.i64.wrap (IntKind.i64.wrap (ax * lo) + IntKind.i64.wrap (tp * u))) lo x1 x2 true _ HX.out).mono ?_); rintro e w_ ⟨rfl, hb⟩; (first | replace HM := Aside0.mk (HM.out.keep hb) | replace HM := Aside0.mk (HM.out.drew.keep hb) | replace HM := Aside0.mk ((HM.out.allocDrew #[.int .i64 0, .int .i64 0] 25).keep hb) | replace HM := Aside0.mk ((HM.out.alloc #[.int .i64 0, .int .i64 0] 25).keep hb)); clear hb; (try clear kn0); (try clear kn1); (try clear knf0); (try clear knf1); have kn0 := blk_cell HM.out.a0 0; have kn1 := blk_cell HM.out.a0 1; have knf0 := blk_frozen HM.out.a0 0; have knf1 := blk_frozen HM.out.a0 1))
  all_goals
   go_wp2_with fail
   go_meet
   case rel => first | exact ⟨_, rfl, rfl, ⟨HM.out.put2 _ _⟩⟩ | exact ⟨_, rfl, rfl, ⟨HM.out.alloc _ _⟩⟩ | exact ⟨_, rfl, rfl, ⟨(HM.out.alloc _ _).put2 _ _⟩⟩
 case rest =>
  obtain ⟨B, rfl, rfl, HMc⟩ := hcut
  (try clear HM)
  have HM := HMc
  clear HMc
  (try clear kr0);(try clear krf0);(try clear kr1);(try clear krf1)
  (try clear kt0);(try clear ktf0);(try clear kt1);(try clear ktf1)
  (try clear kl0);(try clear kl1);(try clear kl2);(try clear kl3)
  (try clear km0);(try clear km1);(try clear km2);(try clear km3)
  have kl0 := blk_cell HM.out.a2 0
  have kl1 := blk_cell HM.out.a2 1
  have kl2 := blk_cell HM.out.a2 2
  have kl3 := blk_cell HM.out.a2 3
  go_upto_region 6 with fail
  go_cut [18, 19] (fun v18 v19 wc => ∃ C : Nat, v18 = .pointer (some ⟨C, 0, none⟩) ∧ v19 = .bool true ∧ Aside0 (Hd w wc [(C, #[.int .i64 y1, .int .i64 y2], 25), (B, #[.int .i64 x1, .int .i64 x2], 25), (g2, #[.int .i64 cx, .int .i64 cy, .int .i64 u2, .int .i64 v2], 44), (g1, #[.int .i64 ax, .int .i64 ay, .int .i64 u, .int .i64 v], 44), (g9, #[.int .i64 0, .int .i64 0], 25), (g8, #[.int .i64 0, .int .i64 0], 25), (g7, #[.int .i64 dx, .int .i64 dy], 28), (g6, #[.int .i64 cx, .int .i64 cy], 28), (g5, #[.int .i64 bx, .int .i64 by_], 28), (g4, #[.int .i64 ax, .int .i64 ay], 28)]))
  case first =>
   go_region_held3 (fun w' => w'.cell? ⟨g1, 1, none⟩ = some (.int .i64 ay) ∧ w'.cell? ⟨g1, 3, none⟩ = some (.int .i64 v))
    (first
     | exact ⟨blk_cell HM.out.a2 1, blk_cell HM.out.a2 3⟩
     | exact ⟨blk_cell HM.out.a3 1, blk_cell HM.out.a3 3⟩
     | exact ⟨blk_cell HM.out.drew.a2 1, blk_cell HM.out.drew.a2 3⟩
     | exact ⟨blk_cell (HM.out.alloc _ _).a3 1, blk_cell (HM.out.alloc _ _).a3 3⟩
     | exact ⟨blk_cell (HM.out.drew.alloc _ _).a3 1, blk_cell (HM.out.drew.alloc _ _).a3 3⟩
     | exact ⟨blk_cell (HM.out.put2 _ _).a3 1, blk_cell (HM.out.put2 _ _).a3 3⟩
     | exact ⟨blk_cell ((HM.out.alloc _ _).put2 _ _).a3 1, blk_cell ((HM.out.alloc _ _).put2 _ _).a3 3⟩
     | go_keep)
    ((go_at_call 13; (with_reducible refine (impl_QuoOf.calls k (IntKind.i64.wrap (IntKind.i64.wrap (ay * lo) + IntKind.i64.wrap (tp * v))) lo y1 y2 true _ HY.out).mono ?_); rintro e w_ ⟨rfl, hb⟩; (first | replace HM := Aside0.mk (HM.out.keep hb) | replace HM := Aside0.mk (HM.out.drew.keep hb) | replace HM := Aside0.mk ((HM.out.allocDrew #[.int .i64 0, .int .i64 0] 25).keep hb) | replace HM := Aside0.mk ((HM.out.alloc #[.int .i64 0, .int .i64 0] 25).keep hb)); clear hb; (try clear kn0); (try clear kn1); (try clear knf0); (try clear knf1); have kn0 := blk_cell HM.out.a0 0; have kn1 := blk_cell HM.out.a0 1; have knf0 := blk_frozen HM.out.a0 0; have knf1 := blk_frozen HM.out.a0 1))
   all_goals
    go_wp2_with fail
    go_meet
    case rel => first | exact ⟨_, rfl, rfl, ⟨HM.out.put2 _ _⟩⟩ | exact ⟨_, rfl, rfl, ⟨HM.out.alloc _ _⟩⟩ | exact ⟨_, rfl, rfl, ⟨(HM.out.alloc _ _).put2 _ _⟩⟩
  case rest =>
   obtain ⟨C, rfl, rfl, HMd⟩ := hcut
   clear HM
   have HM := HMd
   clear HMd
   (try clear kl0);(try clear kl1);(try clear kl2);(try clear kl3)
   have n98 : g9 ≠ g8 := HM.out.tl.tl.tl.tl.ne.1
   have n89 : g8 ≠ g9 := HM.out.tl.tl.tl.tl.ne.2
   have ky0 := blk_cell HM.out.a0 0
   have ky1 := blk_cell HM.out.a0 1
   have kx0 := blk_cell HM.out.a1 0
   have kx1 := blk_cell HM.out.a1 1
   have kr0 := blk_cell HM.out.a5 0
   have kr1 := blk_cell HM.out.a5 1
   have krf0 := blk_frozen HM.out.a5 0
   have krf1 := blk_frozen HM.out.a5 1
   have kt0 := blk_cell HM.out.a4 0
   have kt1 := blk_cell HM.out.a4 1
   have ktf0 := blk_frozen HM.out.a4 0
   have ktf1 := blk_frozen HM.out.a4 1
   have m1 : g9 < C := HM.out.lt4
   have m2 : g8 < C := HM.out.lt5
   have m3 : g9 < B := HM.out.tl.lt3
   have m4 : g8 < B := HM.out.tl.lt4
   have q1 : C ≠ g9 := by omega
   have q2 : C ≠ g8 := by omega
   have q3 : B ≠ g9 := by omega
   have q4 : B ≠ g8 := by omega
   have q5 : g9 ≠ C := by omega
   have q6 : g8 ≠ C := by omega
   have q7 : g9 ≠ B := by omega
   have q8 : g8 ≠ B := by omega
   clear m1 m2 m3 m4
   go_wp2_with fail
   go_region
   all_goals
    go_wp2_with fail
    first
     | (have HZ := ((HM.out.put2_5 (.int .i64 x1) (.int .i64 x2)).put2_4 (.int .i64 y1) (.int .i64 y2)).drew; exact bodyPost_ret (v := .tuple #[.agg #[.int .i64 x1, .int .i64 x2], .agg #[.int .i64 y1, .int .i64 y2], .bool true]) (results_list (rs := [.cell 8 25, .cell 9 25, .tmp 10]) (vs := [.agg #[.int .i64 x1, .int .i64 x2], .agg #[.int .i64 y1, .int .i64 y2], .bool true]) rfl (by simp) (.cell g8 25 #[.int .i64 x1, .int .i64 x2] (0, 0) _ rfl HZ.a5 Try.underlying25 rfl (by kernel_rfl) (.cell g9 25 #[.int .i64 y1, .int .i64 y2] (0, 0) _ rfl HZ.a4 Try.underlying25 rfl (by kernel_rfl) (.tmp .nil)))) rfl ⟨rfl, HZ.1⟩)
     | (have HZ := ((HM.out.put2_4 (.int .i64 y1) (.int .i64 y2)).put2_5 (.int .i64 x1) (.int .i64 x2)).drew; exact bodyPost_ret (v := .tuple #[.agg #[.int .i64 x1, .int .i64 x2], .agg #[.int .i64 y1, .int .i64 y2], .bool true]) (results_list (rs := [.cell 8 25, .cell 9 25, .tmp 10]) (vs := [.agg #[.int .i64 x1, .int .i64 x2], .agg #[.int .i64 y1, .int .i64 y2], .bool true]) rfl (by simp) (.cell g8 25 #[.int .i64 x1, .int .i64 x2] (0, 0) _ rfl HZ.a5 Try.underlying25 rfl (by kernel_rfl) (.cell g9 25 #[.int .i64 y1, .int .i64 y2] (0, 0) _ rfl HZ.a4 Try.underlying25 rfl (by kernel_rfl) (.tmp .nil)))) rfl ⟨rfl, HZ.1⟩)
     | (have HZ := (HM.out.drew.put2_5 (.int .i64 x1) (.int .i64 x2)).put2_4 (.int .i64 y1) (.int .i64 y2); exact bodyPost_ret (v := .tuple #[.agg #[.int .i64 x1, .int .i64 x2], .agg #[.int .i64 y1, .int .i64 y2], .bool true]) (results_list (rs := [.cell 8 25, .cell 9 25, .tmp 10]) (vs := [.agg #[.int .i64 x1, .int .i64 x2], .agg #[.int .i64 y1, .int .i64 y2], .bool true]) rfl (by simp) (.cell g8 25 #[.int .i64 x1, .int .i64 x2] (0, 0) _ rfl HZ.a5 Try.underlying25 rfl (by kernel_rfl) (.cell g9 25 #[.int .i64 y1, .int .i64 y2] (0, 0) _ rfl HZ.a4 Try.underlying25 rfl (by kernel_rfl) (.tmp .nil)))) rfl ⟨rfl, HZ.1⟩)
     | (have HZ := (HM.out.drew.put2_4 (.int .i64 y1) (.int .i64 y2)).put2_5 (.int .i64 x1) (.int .i64 x2); exact bodyPost_ret (v := .tuple #[.agg #[.int .i64 x1, .int .i64 x2], .agg #[.int .i64 y1, .int .i64 y2], .bool true]) (results_list (rs := [.cell 8 25, .cell 9 25, .tmp 10]) (vs := [.agg #[.int .i64 x1, .int .i64 x2], .agg #[.int .i64 y1, .int .i64 y2], .bool true]) rfl (by simp) (.cell g8 25 #[.int .i64 x1, .int .i64 x2] (0, 0) _ rfl HZ.a5 Try.underlying25 rfl (by kernel_rfl) (.cell g9 25 #[.int .i64 y1, .int .i64 y2] (0, 0) _ rfl HZ.a4 Try.underlying25 rfl (by kernel_rfl) (.tmp .nil)))) rfl ⟨rfl, HZ.1⟩)
set_option maxHeartbeats 8000000 in
theorem crossAt_noY (k : Nat) (ax ay bx by_ cx cy dx dy : Int) (u v u2 v2 tp lo x1 x2 y1 y2 : Int) (hl : lnOk ax ay bx by_ cx cy dx dy = true) (hu : wrap64 (bx - ax) = u) (hv : wrap64 (by_ - ay) = v) (hu2 : wrap64 (dx - cx) = u2) (hv2 : wrap64 (dy - cy) = v2)
  (hal : alI ax ay u v cx cy u2 v2 = (tp, lo)) (hx : impl_QuoOf.f k (wrap64 (wrap64 (ax * lo) + wrap64 (tp * u))) lo = some (x1, x2, true)) (hy : impl_QuoOf.f k (wrap64 (wrap64 (ay * lo) + wrap64 (tp * v))) lo = some (y1, y2, false)) (w : World) : Calls Try.prog 6 #[.agg #[.int .i64 ax, .int .i64 ay], .agg #[.int .i64 bx, .int .i64 by_], .agg #[.int .i64 cx, .int .i64 cy], .agg #[.int .i64 dx, .int .i64 dy]] w fun e w' => e = .returned (.tuple #[.agg #[.int .i64 0, .int .i64 0], .agg #[.int .i64 0, .int .i64 0], .bool false]) ∧ Below w.heap.size w w' := by
 have HU := Aside0.mk hu
 have HV := Aside0.mk hv
 have HU2 := Aside0.mk hu2
 have HV2 := Aside0.mk hv2
 have HAL := Aside0.mk hal
 have HX : Aside0 (impl_QuoOf.f k (IntKind.i64.wrap (IntKind.i64.wrap (ax * lo) + IntKind.i64.wrap (tp * u))) lo = some (x1, x2, true)) := ⟨by rw [i64_w, i64_w, i64_w]; exact hx⟩
 have HY : Aside0 (impl_QuoOf.f k (IntKind.i64.wrap (IntKind.i64.wrap (ay * lo) + IntKind.i64.wrap (tp * v))) lo = some (y1, y2, false)) := ⟨by rw [i64_w, i64_w, i64_w]; exact hy⟩
 clear hu hv hu2 hv2 hal hx hy
 have HL := Aside0.mk hl
 have HM := Aside0.mk (Hd.nil w)
 clear hl
 go_enter Try.func6, Try.ntmps6
 go_upto_region 1 with (first
  | ((with_reducible refine gate_dst (N := 4) rfl ?_); refine bx_ 4 (cs := #[.int .i64 ax, .int .i64 ay]) (t := 28) ?_; intro g4 e_ w_ b_ hb; replace HM := Aside0.mk (HM.out.box hb b_ e_); clear e_ b_ hb)
  | ((with_reducible refine gate_dst (N := 5) rfl ?_); refine bx_ 5 (cs := #[.int .i64 bx, .int .i64 by_]) (t := 28) ?_; intro g5 e_ w_ b_ hb; replace HM := Aside0.mk (HM.out.box hb b_ e_); clear e_ b_ hb)
  | ((with_reducible refine gate_dst (N := 6) rfl ?_); refine bx_ 6 (cs := #[.int .i64 cx, .int .i64 cy]) (t := 28) ?_; intro g6 e_ w_ b_ hb; replace HM := Aside0.mk (HM.out.box hb b_ e_); clear e_ b_ hb)
  | ((with_reducible refine gate_dst (N := 7) rfl ?_); refine bx_ 7 (cs := #[.int .i64 dx, .int .i64 dy]) (t := 28) ?_; intro g7 e_ w_ b_ hb; replace HM := Aside0.mk (HM.out.box hb b_ e_); clear e_ b_ hb))
 replace HM := Aside0.mk ((HM.out.alloc #[.int .i64 0, .int .i64 0] 25).alloc #[.int .i64 0, .int .i64 0] 25)
 (try simp only [Act.put, List.setIfInBounds_toArray, List.set_cons_zero, List.set_cons_succ])
 have hsz : (w_.alloc (.cells #[.int .i64 0, .int .i64 0] 25)).heap.size = w_.heap.size + 1 := by simp
 rw [hsz] at HM
 clear hsz
 generalize (w_.alloc (.cells #[.int .i64 0, .int .i64 0] 25)).alloc (.cells #[.int .i64 0, .int .i64 0] 25) = w9 at *
 generalize w_.heap.size + 1 = g9 at *
 generalize w_.heap.size = g8 at *
 have ka0 := blk_cell HM.out.a5 0
 have ka1 := blk_cell HM.out.a5 1
 have kb0 := blk_cell HM.out.a4 0
 have kb1 := blk_cell HM.out.a4 1
 have kc0 := blk_cell HM.out.a3 0
 have kc1 := blk_cell HM.out.a3 1
 have kd0 := blk_cell HM.out.a2 0
 have kd1 := blk_cell HM.out.a2 1
 have kr0 := blk_cell HM.out.a1 0
 have kr1 := blk_cell HM.out.a1 1
 have krf0 := blk_frozen HM.out.a1 0
 have krf1 := blk_frozen HM.out.a1 1
 have kt0 := blk_cell HM.out.a0 0
 have kt1 := blk_cell HM.out.a0 1
 have ktf0 := blk_frozen HM.out.a0 0
 have ktf1 := blk_frozen HM.out.a0 1
 go_upto_region 5 with (first
  | (go_at_call 11; (with_reducible refine (lines_t ax ay bx by_ cx cy dx dy HL.out _).mono ?_); rintro e w_ ⟨g1, g2, rfl, hb⟩; rw [HU.out, HV.out, HU2.out, HV2.out] at hb; replace HM := Aside0.mk (HM.out.lines hb); clear hb; (try clear ka0 ka1 kb0 kb1 kc0 kc1 kd0 kd1 kr0 krf0 kr1 krf1 kt0 ktf0 kt1 ktf1); have ka0 := blk_cell HM.out.a7 0; have ka1 := blk_cell HM.out.a7 1; have kb0 := blk_cell HM.out.a6 0; have kb1 := blk_cell HM.out.a6 1; have kc0 := blk_cell HM.out.a5 0; have kc1 := blk_cell HM.out.a5 1; have kd0 := blk_cell HM.out.a4 0; have kd1 := blk_cell HM.out.a4 1; have kr0 := blk_cell HM.out.a3 0; have kr1 := blk_cell HM.out.a3 1; have krf0 := blk_frozen HM.out.a3 0; have krf1 := blk_frozen HM.out.a3 1; have kt0 := blk_cell HM.out.a2 0; have kt1 := blk_cell HM.out.a2 1; have ktf0 := blk_frozen HM.out.a2 0; have ktf1 := blk_frozen HM.out.a2 1; have kl0 := blk_cell HM.out.a1 0; have kl1 := blk_cell HM.out.a1 1; have kl2 := blk_cell HM.out.a1 2; have kl3 := blk_cell HM.out.a1 3; have km0 := blk_cell HM.out.a0 0; have km1 := blk_cell HM.out.a0 1; have km2 := blk_cell HM.out.a0 2; have km3 := blk_cell HM.out.a0 3)
  | (go_at_call 12; (with_reducible refine (along_calls g1 g2 _ _ _ _ _ _ _ _ _ HM.out.a1 HM.out.a0).mono ?_); rintro e w_ ⟨rfl, hb⟩; rw [HAL.out]; replace HM := Aside0.mk (HM.out.keep hb); clear hb; (try clear ka0 ka1 kb0 kb1 kc0 kc1 kd0 kd1 kr0 krf0 kr1 krf1 kt0 ktf0 kt1 ktf1 kl0 kl1 kl2 kl3 km0 km1 km2 km3); have kr0 := blk_cell HM.out.a3 0; have kr1 := blk_cell HM.out.a3 1; have krf0 := blk_frozen HM.out.a3 0; have krf1 := blk_frozen HM.out.a3 1; have kt0 := blk_cell HM.out.a2 0; have kt1 := blk_cell HM.out.a2 1; have ktf0 := blk_frozen HM.out.a2 0; have ktf1 := blk_frozen HM.out.a2 1; have kl0 := blk_cell HM.out.a1 0; have kl1 := blk_cell HM.out.a1 1; have kl2 := blk_cell HM.out.a1 2; have kl3 := blk_cell HM.out.a1 3; have km0 := blk_cell HM.out.a0 0; have km1 := blk_cell HM.out.a0 1; have km2 := blk_cell HM.out.a0 2; have km3 := blk_cell HM.out.a0 3))
 go_cut [16, 17] (fun v16 v17 wc => ∃ B : Nat, v16 = .pointer (some ⟨B, 0, none⟩) ∧ v17 = .bool true ∧ Aside0 (Hd w wc [(B, #[.int .i64 x1, .int .i64 x2], 25), (g2, #[.int .i64 cx, .int .i64 cy, .int .i64 u2, .int .i64 v2], 44), (g1, #[.int .i64 ax, .int .i64 ay, .int .i64 u, .int .i64 v], 44), (g9, #[.int .i64 0, .int .i64 0], 25), (g8, #[.int .i64 0, .int .i64 0], 25), (g7, #[.int .i64 dx, .int .i64 dy], 28), (g6, #[.int .i64 cx, .int .i64 cy], 28), (g5, #[.int .i64 bx, .int .i64 by_], 28), (g4, #[.int .i64 ax, .int .i64 ay], 28)]))
 case first =>
  go_region_held3 (fun w' => w'.cell? ⟨g1, 0, none⟩ = some (.int .i64 ax) ∧ w'.cell? ⟨g1, 2, none⟩ = some (.int .i64 u))
   (first
    | exact ⟨blk_cell HM.out.a1 0, blk_cell HM.out.a1 2⟩
    | exact ⟨blk_cell HM.out.a2 0, blk_cell HM.out.a2 2⟩
    | exact ⟨blk_cell HM.out.drew.a1 0, blk_cell HM.out.drew.a1 2⟩
    | exact ⟨blk_cell (HM.out.alloc _ _).a2 0, blk_cell (HM.out.alloc _ _).a2 2⟩
    | exact ⟨blk_cell (HM.out.drew.alloc _ _).a2 0, blk_cell (HM.out.drew.alloc _ _).a2 2⟩
    | exact ⟨blk_cell (HM.out.put2 _ _).a2 0, blk_cell (HM.out.put2 _ _).a2 2⟩
    | exact ⟨blk_cell ((HM.out.alloc _ _).put2 _ _).a2 0, blk_cell ((HM.out.alloc _ _).put2 _ _).a2 2⟩
    | go_keep)
   ((go_at_call 13; (with_reducible refine (impl_QuoOf.calls k (IntKind.i64.wrap (IntKind.i64.wrap (ax * lo) + IntKind.i64.wrap (tp * u))) lo x1 x2 true _ HX.out).mono ?_); rintro e w_ ⟨rfl, hb⟩; (first | replace HM := Aside0.mk (HM.out.keep hb) | replace HM := Aside0.mk (HM.out.drew.keep hb) | replace HM := Aside0.mk ((HM.out.allocDrew #[.int .i64 0, .int .i64 0] 25).keep hb) | replace HM := Aside0.mk ((HM.out.alloc #[.int .i64 0, .int .i64 0] 25).keep hb)); clear hb; (try clear kn0); (try clear kn1); (try clear knf0); (try clear knf1); have kn0 := blk_cell HM.out.a0 0; have kn1 := blk_cell HM.out.a0 1; have knf0 := blk_frozen HM.out.a0 0; have knf1 := blk_frozen HM.out.a0 1))
  all_goals
   go_wp2_with fail
   go_meet
   case rel => first | exact ⟨_, rfl, rfl, ⟨HM.out.put2 _ _⟩⟩ | exact ⟨_, rfl, rfl, ⟨HM.out.alloc _ _⟩⟩ | exact ⟨_, rfl, rfl, ⟨(HM.out.alloc _ _).put2 _ _⟩⟩
 case rest =>
  obtain ⟨B, rfl, rfl, HMc⟩ := hcut
  (try clear HM)
  have HM := HMc
  clear HMc
  (try clear kr0);(try clear krf0);(try clear kr1);(try clear krf1)
  (try clear kt0);(try clear ktf0);(try clear kt1);(try clear ktf1)
  (try clear kl0);(try clear kl1);(try clear kl2);(try clear kl3)
  (try clear km0);(try clear km1);(try clear km2);(try clear km3)
  have kl0 := blk_cell HM.out.a2 0
  have kl1 := blk_cell HM.out.a2 1
  have kl2 := blk_cell HM.out.a2 2
  have kl3 := blk_cell HM.out.a2 3
  go_upto_region 6 with fail
  go_cut [18, 19] (fun v18 v19 wc => ∃ C : Nat, v18 = .pointer (some ⟨C, 0, none⟩) ∧ v19 = .bool false ∧ Aside0 (Hd w wc [(C, #[.int .i64 y1, .int .i64 y2], 25), (B, #[.int .i64 x1, .int .i64 x2], 25), (g2, #[.int .i64 cx, .int .i64 cy, .int .i64 u2, .int .i64 v2], 44), (g1, #[.int .i64 ax, .int .i64 ay, .int .i64 u, .int .i64 v], 44), (g9, #[.int .i64 0, .int .i64 0], 25), (g8, #[.int .i64 0, .int .i64 0], 25), (g7, #[.int .i64 dx, .int .i64 dy], 28), (g6, #[.int .i64 cx, .int .i64 cy], 28), (g5, #[.int .i64 bx, .int .i64 by_], 28), (g4, #[.int .i64 ax, .int .i64 ay], 28)]))
  case first =>
   go_region_held3 (fun w' => w'.cell? ⟨g1, 1, none⟩ = some (.int .i64 ay) ∧ w'.cell? ⟨g1, 3, none⟩ = some (.int .i64 v))
    (first
     | exact ⟨blk_cell HM.out.a2 1, blk_cell HM.out.a2 3⟩
     | exact ⟨blk_cell HM.out.a3 1, blk_cell HM.out.a3 3⟩
     | exact ⟨blk_cell HM.out.drew.a2 1, blk_cell HM.out.drew.a2 3⟩
     | exact ⟨blk_cell (HM.out.alloc _ _).a3 1, blk_cell (HM.out.alloc _ _).a3 3⟩
     | exact ⟨blk_cell (HM.out.drew.alloc _ _).a3 1, blk_cell (HM.out.drew.alloc _ _).a3 3⟩
     | exact ⟨blk_cell (HM.out.put2 _ _).a3 1, blk_cell (HM.out.put2 _ _).a3 3⟩
     | exact ⟨blk_cell ((HM.out.alloc _ _).put2 _ _).a3 1, blk_cell ((HM.out.alloc _ _).put2 _ _).a3 3⟩
     | go_keep)
    ((go_at_call 13; (with_reducible refine (impl_QuoOf.calls k (IntKind.i64.wrap (IntKind.i64.wrap (ay * lo) + IntKind.i64.wrap (tp * v))) lo y1 y2 false _ HY.out).mono ?_); rintro e w_ ⟨rfl, hb⟩; (first | replace HM := Aside0.mk (HM.out.keep hb) | replace HM := Aside0.mk (HM.out.drew.keep hb) | replace HM := Aside0.mk ((HM.out.allocDrew #[.int .i64 0, .int .i64 0] 25).keep hb) | replace HM := Aside0.mk ((HM.out.alloc #[.int .i64 0, .int .i64 0] 25).keep hb)); clear hb; (try clear kn0); (try clear kn1); (try clear knf0); (try clear knf1); have kn0 := blk_cell HM.out.a0 0; have kn1 := blk_cell HM.out.a0 1; have knf0 := blk_frozen HM.out.a0 0; have knf1 := blk_frozen HM.out.a0 1))
   all_goals
    go_wp2_with fail
    go_meet
    case rel => first | exact ⟨_, rfl, rfl, ⟨HM.out.put2 _ _⟩⟩ | exact ⟨_, rfl, rfl, ⟨HM.out.alloc _ _⟩⟩ | exact ⟨_, rfl, rfl, ⟨(HM.out.alloc _ _).put2 _ _⟩⟩
  case rest =>
   obtain ⟨C, rfl, rfl, HMd⟩ := hcut
   clear HM
   have HM := HMd
   clear HMd
   (try clear kl0);(try clear kl1);(try clear kl2);(try clear kl3)
   have n98 : g9 ≠ g8 := HM.out.tl.tl.tl.tl.ne.1
   have n89 : g8 ≠ g9 := HM.out.tl.tl.tl.tl.ne.2
   have ky0 := blk_cell HM.out.a0 0
   have ky1 := blk_cell HM.out.a0 1
   have kx0 := blk_cell HM.out.a1 0
   have kx1 := blk_cell HM.out.a1 1
   have kr0 := blk_cell HM.out.a5 0
   have kr1 := blk_cell HM.out.a5 1
   have krf0 := blk_frozen HM.out.a5 0
   have krf1 := blk_frozen HM.out.a5 1
   have kt0 := blk_cell HM.out.a4 0
   have kt1 := blk_cell HM.out.a4 1
   have ktf0 := blk_frozen HM.out.a4 0
   have ktf1 := blk_frozen HM.out.a4 1
   go_wp2_with fail
   have HZ := (HM.out.put2_5 (.int .i64 0) (.int .i64 0)).put2_4 (.int .i64 0) (.int .i64 0)
   exact bodyPost_ret (v := .tuple #[.agg #[.int .i64 0, .int .i64 0], .agg #[.int .i64 0, .int .i64 0], .bool false]) (results_list (rs := [.cell 8 25, .cell 9 25, .tmp 10]) (vs := [.agg #[.int .i64 0, .int .i64 0], .agg #[.int .i64 0, .int .i64 0], .bool false]) rfl (by simp) (.cell g8 25 #[.int .i64 0, .int .i64 0] (0, 0) _ rfl HZ.a5 Try.underlying25 rfl (by kernel_rfl) (.cell g9 25 #[.int .i64 0, .int .i64 0] (0, 0) _ rfl HZ.a4 Try.underlying25 rfl (by kernel_rfl) (.tmp .nil)))) rfl ⟨rfl, HZ.1⟩
set_option maxHeartbeats 8000000 in
theorem crossAt_noX (k : Nat) (ax ay bx by_ cx cy dx dy : Int) (u v u2 v2 tp lo x1 x2 y1 y2 : Int) (y3 : Bool) (hl : lnOk ax ay bx by_ cx cy dx dy = true) (hu : wrap64 (bx - ax) = u) (hv : wrap64 (by_ - ay) = v) (hu2 : wrap64 (dx - cx) = u2) (hv2 : wrap64 (dy - cy) = v2)
  (hal : alI ax ay u v cx cy u2 v2 = (tp, lo)) (hx : impl_QuoOf.f k (wrap64 (wrap64 (ax * lo) + wrap64 (tp * u))) lo = some (x1, x2, false)) (hy : impl_QuoOf.f k (wrap64 (wrap64 (ay * lo) + wrap64 (tp * v))) lo = some (y1, y2, y3)) (w : World) : Calls Try.prog 6 #[.agg #[.int .i64 ax, .int .i64 ay], .agg #[.int .i64 bx, .int .i64 by_], .agg #[.int .i64 cx, .int .i64 cy], .agg #[.int .i64 dx, .int .i64 dy]] w fun e w' => e = .returned (.tuple #[.agg #[.int .i64 0, .int .i64 0], .agg #[.int .i64 0, .int .i64 0], .bool false]) ∧ Below w.heap.size w w' := by
 have HU := Aside0.mk hu
 have HV := Aside0.mk hv
 have HU2 := Aside0.mk hu2
 have HV2 := Aside0.mk hv2
 have HAL := Aside0.mk hal
 have HX : Aside0 (impl_QuoOf.f k (IntKind.i64.wrap (IntKind.i64.wrap (ax * lo) + IntKind.i64.wrap (tp * u))) lo = some (x1, x2, false)) := ⟨by rw [i64_w, i64_w, i64_w]; exact hx⟩
 have HY : Aside0 (impl_QuoOf.f k (IntKind.i64.wrap (IntKind.i64.wrap (ay * lo) + IntKind.i64.wrap (tp * v))) lo = some (y1, y2, y3)) := ⟨by rw [i64_w, i64_w, i64_w]; exact hy⟩
 clear hu hv hu2 hv2 hal hx hy
 have HL := Aside0.mk hl
 have HM := Aside0.mk (Hd.nil w)
 clear hl
 go_enter Try.func6, Try.ntmps6
 go_upto_region 1 with (first
  | ((with_reducible refine gate_dst (N := 4) rfl ?_); refine bx_ 4 (cs := #[.int .i64 ax, .int .i64 ay]) (t := 28) ?_; intro g4 e_ w_ b_ hb; replace HM := Aside0.mk (HM.out.box hb b_ e_); clear e_ b_ hb)
  | ((with_reducible refine gate_dst (N := 5) rfl ?_); refine bx_ 5 (cs := #[.int .i64 bx, .int .i64 by_]) (t := 28) ?_; intro g5 e_ w_ b_ hb; replace HM := Aside0.mk (HM.out.box hb b_ e_); clear e_ b_ hb)
  | ((with_reducible refine gate_dst (N := 6) rfl ?_); refine bx_ 6 (cs := #[.int .i64 cx, .int .i64 cy]) (t := 28) ?_; intro g6 e_ w_ b_ hb; replace HM := Aside0.mk (HM.out.box hb b_ e_); clear e_ b_ hb)
  | ((with_reducible refine gate_dst (N := 7) rfl ?_); refine bx_ 7 (cs := #[.int .i64 dx, .int .i64 dy]) (t := 28) ?_; intro g7 e_ w_ b_ hb; replace HM := Aside0.mk (HM.out.box hb b_ e_); clear e_ b_ hb))
 replace HM := Aside0.mk ((HM.out.alloc #[.int .i64 0, .int .i64 0] 25).alloc #[.int .i64 0, .int .i64 0] 25)
 (try simp only [Act.put, List.setIfInBounds_toArray, List.set_cons_zero, List.set_cons_succ])
 have hsz : (w_.alloc (.cells #[.int .i64 0, .int .i64 0] 25)).heap.size = w_.heap.size + 1 := by simp
 rw [hsz] at HM
 clear hsz
 generalize (w_.alloc (.cells #[.int .i64 0, .int .i64 0] 25)).alloc (.cells #[.int .i64 0, .int .i64 0] 25) = w9 at *
 generalize w_.heap.size + 1 = g9 at *
 generalize w_.heap.size = g8 at *
 have ka0 := blk_cell HM.out.a5 0
 have ka1 := blk_cell HM.out.a5 1
 have kb0 := blk_cell HM.out.a4 0
 have kb1 := blk_cell HM.out.a4 1
 have kc0 := blk_cell HM.out.a3 0
 have kc1 := blk_cell HM.out.a3 1
 have kd0 := blk_cell HM.out.a2 0
 have kd1 := blk_cell HM.out.a2 1
 have kr0 := blk_cell HM.out.a1 0
 have kr1 := blk_cell HM.out.a1 1
 have krf0 := blk_frozen HM.out.a1 0
 have krf1 := blk_frozen HM.out.a1 1
 have kt0 := blk_cell HM.out.a0 0
 have kt1 := blk_cell HM.out.a0 1
 have ktf0 := blk_frozen HM.out.a0 0
 have ktf1 := blk_frozen HM.out.a0 1
 go_upto_region 5 with (first
  | (go_at_call 11; (with_reducible refine (lines_t ax ay bx by_ cx cy dx dy HL.out _).mono ?_); rintro e w_ ⟨g1, g2, rfl, hb⟩; rw [HU.out, HV.out, HU2.out, HV2.out] at hb; replace HM := Aside0.mk (HM.out.lines hb); clear hb; (try clear ka0 ka1 kb0 kb1 kc0 kc1 kd0 kd1 kr0 krf0 kr1 krf1 kt0 ktf0 kt1 ktf1); have ka0 := blk_cell HM.out.a7 0; have ka1 := blk_cell HM.out.a7 1; have kb0 := blk_cell HM.out.a6 0; have kb1 := blk_cell HM.out.a6 1; have kc0 := blk_cell HM.out.a5 0; have kc1 := blk_cell HM.out.a5 1; have kd0 := blk_cell HM.out.a4 0; have kd1 := blk_cell HM.out.a4 1; have kr0 := blk_cell HM.out.a3 0; have kr1 := blk_cell HM.out.a3 1; have krf0 := blk_frozen HM.out.a3 0; have krf1 := blk_frozen HM.out.a3 1; have kt0 := blk_cell HM.out.a2 0; have kt1 := blk_cell HM.out.a2 1; have ktf0 := blk_frozen HM.out.a2 0; have ktf1 := blk_frozen HM.out.a2 1; have kl0 := blk_cell HM.out.a1 0; have kl1 := blk_cell HM.out.a1 1; have kl2 := blk_cell HM.out.a1 2; have kl3 := blk_cell HM.out.a1 3; have km0 := blk_cell HM.out.a0 0; have km1 := blk_cell HM.out.a0 1; have km2 := blk_cell HM.out.a0 2; have km3 := blk_cell HM.out.a0 3)
  | (go_at_call 12; (with_reducible refine (along_calls g1 g2 _ _ _ _ _ _ _ _ _ HM.out.a1 HM.out.a0).mono ?_); rintro e w_ ⟨rfl, hb⟩; rw [HAL.out]; replace HM := Aside0.mk (HM.out.keep hb); clear hb; (try clear ka0 ka1 kb0 kb1 kc0 kc1 kd0 kd1 kr0 krf0 kr1 krf1 kt0 ktf0 kt1 ktf1 kl0 kl1 kl2 kl3 km0 km1 km2 km3); have kr0 := blk_cell HM.out.a3 0; have kr1 := blk_cell HM.out.a3 1; have krf0 := blk_frozen HM.out.a3 0; have krf1 := blk_frozen HM.out.a3 1; have kt0 := blk_cell HM.out.a2 0; have kt1 := blk_cell HM.out.a2 1; have ktf0 := blk_frozen HM.out.a2 0; have ktf1 := blk_frozen HM.out.a2 1; have kl0 := blk_cell HM.out.a1 0; have kl1 := blk_cell HM.out.a1 1; have kl2 := blk_cell HM.out.a1 2; have kl3 := blk_cell HM.out.a1 3; have km0 := blk_cell HM.out.a0 0; have km1 := blk_cell HM.out.a0 1; have km2 := blk_cell HM.out.a0 2; have km3 := blk_cell HM.out.a0 3))
 go_cut [16, 17] (fun v16 v17 wc => ∃ B : Nat, v16 = .pointer (some ⟨B, 0, none⟩) ∧ v17 = .bool false ∧ Aside0 (Hd w wc [(B, #[.int .i64 x1, .int .i64 x2], 25), (g2, #[.int .i64 cx, .int .i64 cy, .int .i64 u2, .int .i64 v2], 44), (g1, #[.int .i64 ax, .int .i64 ay, .int .i64 u, .int .i64 v], 44), (g9, #[.int .i64 0, .int .i64 0], 25), (g8, #[.int .i64 0, .int .i64 0], 25), (g7, #[.int .i64 dx, .int .i64 dy], 28), (g6, #[.int .i64 cx, .int .i64 cy], 28), (g5, #[.int .i64 bx, .int .i64 by_], 28), (g4, #[.int .i64 ax, .int .i64 ay], 28)]))
 case first =>
  go_region_held3 (fun w' => w'.cell? ⟨g1, 0, none⟩ = some (.int .i64 ax) ∧ w'.cell? ⟨g1, 2, none⟩ = some (.int .i64 u))
   (first
    | exact ⟨blk_cell HM.out.a1 0, blk_cell HM.out.a1 2⟩
    | exact ⟨blk_cell HM.out.a2 0, blk_cell HM.out.a2 2⟩
    | exact ⟨blk_cell HM.out.drew.a1 0, blk_cell HM.out.drew.a1 2⟩
    | exact ⟨blk_cell (HM.out.alloc _ _).a2 0, blk_cell (HM.out.alloc _ _).a2 2⟩
    | exact ⟨blk_cell (HM.out.drew.alloc _ _).a2 0, blk_cell (HM.out.drew.alloc _ _).a2 2⟩
    | exact ⟨blk_cell (HM.out.put2 _ _).a2 0, blk_cell (HM.out.put2 _ _).a2 2⟩
    | exact ⟨blk_cell ((HM.out.alloc _ _).put2 _ _).a2 0, blk_cell ((HM.out.alloc _ _).put2 _ _).a2 2⟩
    | go_keep)
   ((go_at_call 13; (with_reducible refine (impl_QuoOf.calls k (IntKind.i64.wrap (IntKind.i64.wrap (ax * lo) + IntKind.i64.wrap (tp * u))) lo x1 x2 false _ HX.out).mono ?_); rintro e w_ ⟨rfl, hb⟩; (first | replace HM := Aside0.mk (HM.out.keep hb) | replace HM := Aside0.mk (HM.out.drew.keep hb) | replace HM := Aside0.mk ((HM.out.allocDrew #[.int .i64 0, .int .i64 0] 25).keep hb) | replace HM := Aside0.mk ((HM.out.alloc #[.int .i64 0, .int .i64 0] 25).keep hb)); clear hb; (try clear kn0); (try clear kn1); (try clear knf0); (try clear knf1); have kn0 := blk_cell HM.out.a0 0; have kn1 := blk_cell HM.out.a0 1; have knf0 := blk_frozen HM.out.a0 0; have knf1 := blk_frozen HM.out.a0 1))
  all_goals
   go_wp2_with fail
   go_meet
   case rel => first | exact ⟨_, rfl, rfl, ⟨HM.out.put2 _ _⟩⟩ | exact ⟨_, rfl, rfl, ⟨HM.out.alloc _ _⟩⟩ | exact ⟨_, rfl, rfl, ⟨(HM.out.alloc _ _).put2 _ _⟩⟩
 case rest =>
  obtain ⟨B, rfl, rfl, HMc⟩ := hcut
  (try clear HM)
  have HM := HMc
  clear HMc
  (try clear kr0);(try clear krf0);(try clear kr1);(try clear krf1)
  (try clear kt0);(try clear ktf0);(try clear kt1);(try clear ktf1)
  (try clear kl0);(try clear kl1);(try clear kl2);(try clear kl3)
  (try clear km0);(try clear km1);(try clear km2);(try clear km3)
  have kl0 := blk_cell HM.out.a2 0
  have kl1 := blk_cell HM.out.a2 1
  have kl2 := blk_cell HM.out.a2 2
  have kl3 := blk_cell HM.out.a2 3
  go_upto_region 6 with fail
  go_cut [18, 19] (fun v18 v19 wc => ∃ C : Nat, v18 = .pointer (some ⟨C, 0, none⟩) ∧ v19 = .bool y3 ∧ Aside0 (Hd w wc [(C, #[.int .i64 y1, .int .i64 y2], 25), (B, #[.int .i64 x1, .int .i64 x2], 25), (g2, #[.int .i64 cx, .int .i64 cy, .int .i64 u2, .int .i64 v2], 44), (g1, #[.int .i64 ax, .int .i64 ay, .int .i64 u, .int .i64 v], 44), (g9, #[.int .i64 0, .int .i64 0], 25), (g8, #[.int .i64 0, .int .i64 0], 25), (g7, #[.int .i64 dx, .int .i64 dy], 28), (g6, #[.int .i64 cx, .int .i64 cy], 28), (g5, #[.int .i64 bx, .int .i64 by_], 28), (g4, #[.int .i64 ax, .int .i64 ay], 28)]))
  case first =>
   go_region_held3 (fun w' => w'.cell? ⟨g1, 1, none⟩ = some (.int .i64 ay) ∧ w'.cell? ⟨g1, 3, none⟩ = some (.int .i64 v))
    (first
     | exact ⟨blk_cell HM.out.a2 1, blk_cell HM.out.a2 3⟩
     | exact ⟨blk_cell HM.out.a3 1, blk_cell HM.out.a3 3⟩
     | exact ⟨blk_cell HM.out.drew.a2 1, blk_cell HM.out.drew.a2 3⟩
     | exact ⟨blk_cell (HM.out.alloc _ _).a3 1, blk_cell (HM.out.alloc _ _).a3 3⟩
     | exact ⟨blk_cell (HM.out.drew.alloc _ _).a3 1, blk_cell (HM.out.drew.alloc _ _).a3 3⟩
     | exact ⟨blk_cell (HM.out.put2 _ _).a3 1, blk_cell (HM.out.put2 _ _).a3 3⟩
     | exact ⟨blk_cell ((HM.out.alloc _ _).put2 _ _).a3 1, blk_cell ((HM.out.alloc _ _).put2 _ _).a3 3⟩
     | go_keep)
    ((go_at_call 13; (with_reducible refine (impl_QuoOf.calls k (IntKind.i64.wrap (IntKind.i64.wrap (ay * lo) + IntKind.i64.wrap (tp * v))) lo y1 y2 y3 _ HY.out).mono ?_); rintro e w_ ⟨rfl, hb⟩; (first | replace HM := Aside0.mk (HM.out.keep hb) | replace HM := Aside0.mk (HM.out.drew.keep hb) | replace HM := Aside0.mk ((HM.out.allocDrew #[.int .i64 0, .int .i64 0] 25).keep hb) | replace HM := Aside0.mk ((HM.out.alloc #[.int .i64 0, .int .i64 0] 25).keep hb)); clear hb; (try clear kn0); (try clear kn1); (try clear knf0); (try clear knf1); have kn0 := blk_cell HM.out.a0 0; have kn1 := blk_cell HM.out.a0 1; have knf0 := blk_frozen HM.out.a0 0; have knf1 := blk_frozen HM.out.a0 1))
   all_goals
    go_wp2_with fail
    go_meet
    case rel => first | exact ⟨_, rfl, rfl, ⟨HM.out.put2 _ _⟩⟩ | exact ⟨_, rfl, rfl, ⟨HM.out.alloc _ _⟩⟩ | exact ⟨_, rfl, rfl, ⟨(HM.out.alloc _ _).put2 _ _⟩⟩
  case rest =>
   obtain ⟨C, rfl, rfl, HMd⟩ := hcut
   clear HM
   have HM := HMd
   clear HMd
   (try clear kl0);(try clear kl1);(try clear kl2);(try clear kl3)
   have n98 : g9 ≠ g8 := HM.out.tl.tl.tl.tl.ne.1
   have n89 : g8 ≠ g9 := HM.out.tl.tl.tl.tl.ne.2
   have ky0 := blk_cell HM.out.a0 0
   have ky1 := blk_cell HM.out.a0 1
   have kx0 := blk_cell HM.out.a1 0
   have kx1 := blk_cell HM.out.a1 1
   have kr0 := blk_cell HM.out.a5 0
   have kr1 := blk_cell HM.out.a5 1
   have krf0 := blk_frozen HM.out.a5 0
   have krf1 := blk_frozen HM.out.a5 1
   have kt0 := blk_cell HM.out.a4 0
   have kt1 := blk_cell HM.out.a4 1
   have ktf0 := blk_frozen HM.out.a4 0
   have ktf1 := blk_frozen HM.out.a4 1
   go_wp2_with fail
   have HZ := (HM.out.put2_5 (.int .i64 0) (.int .i64 0)).put2_4 (.int .i64 0) (.int .i64 0)
   exact bodyPost_ret (v := .tuple #[.agg #[.int .i64 0, .int .i64 0], .agg #[.int .i64 0, .int .i64 0], .bool false]) (results_list (rs := [.cell 8 25, .cell 9 25, .tmp 10]) (vs := [.agg #[.int .i64 0, .int .i64 0], .agg #[.int .i64 0, .int .i64 0], .bool false]) rfl (by simp) (.cell g8 25 #[.int .i64 0, .int .i64 0] (0, 0) _ rfl HZ.a5 Try.underlying25 rfl (by kernel_rfl) (.cell g9 25 #[.int .i64 0, .int .i64 0] (0, 0) _ rfl HZ.a4 Try.underlying25 rfl (by kernel_rfl) (.tmp .nil)))) rfl ⟨rfl, HZ.1⟩
def impl_CrossAt.f (k : Nat) (a0_0 : Int) (a0_1 : Int) (a1_0 : Int) (a1_1 : Int) (a2_0 : Int) (a2_1 : Int) (a3_0 : Int) (a3_1 : Int) : Option (Int × Int × Int × Int × Bool) := if lnOk a0_0 a0_1 a1_0 a1_1 a2_0 a2_1 a3_0 a3_1 = true then
 ((impl_QuoOf.f k (wrap64 (wrap64 (a0_0 * (alI a0_0 a0_1 (wrap64 (a1_0 - a0_0)) (wrap64 (a1_1 - a0_1)) a2_0 a2_1 (wrap64 (a3_0 - a2_0)) (wrap64 (a3_1 - a2_1))).2) + wrap64 ((alI a0_0 a0_1 (wrap64 (a1_0 - a0_0)) (wrap64 (a1_1 - a0_1)) a2_0 a2_1 (wrap64 (a3_0 - a2_0)) (wrap64 (a3_1 - a2_1))).1 * (wrap64 (a1_0 - a0_0))))) (alI a0_0 a0_1 (wrap64 (a1_0 - a0_0)) (wrap64 (a1_1 - a0_1)) a2_0 a2_1 (wrap64 (a3_0 - a2_0)) (wrap64 (a3_1 - a2_1))).2).bind fun x => ((impl_QuoOf.f k (wrap64 (wrap64 (a0_1 * (alI a0_0 a0_1 (wrap64 (a1_0 - a0_0)) (wrap64 (a1_1 - a0_1)) a2_0 a2_1 (wrap64 (a3_0 - a2_0)) (wrap64 (a3_1 - a2_1))).2) + wrap64 ((alI a0_0 a0_1 (wrap64 (a1_0 - a0_0)) (wrap64 (a1_1 - a0_1)) a2_0 a2_1 (wrap64 (a3_0 - a2_0)) (wrap64 (a3_1 - a2_1))).1 * (wrap64 (a1_1 - a0_1))))) (alI a0_0 a0_1 (wrap64 (a1_0 - a0_0)) (wrap64 (a1_1 - a0_1)) a2_0 a2_1 (wrap64 (a3_0 - a2_0)) (wrap64 (a3_1 - a2_1))).2).bind fun y => (if x.2.2 = true then (if y.2.2 = true then some (x.1, x.2.1, y.1, y.2.1, true) else some (0, 0, 0, 0, false)) else some (0, 0, 0, 0, false))))
 else some (0, 0, 0, 0, false)
theorem impl_CrossAt.mono : ∀ a0_0 a0_1 a1_0 a1_1 a2_0 a2_1 a3_0 a3_1 k, LeO (impl_CrossAt.f k a0_0 a0_1 a1_0 a1_1 a2_0 a2_1 a3_0 a3_1) (impl_CrossAt.f (k + 1) a0_0 a0_1 a1_0 a1_1 a2_0 a2_1 a3_0 a3_1) := by
 intro a0_0 a0_1 a1_0 a1_1 a2_0 a2_1 a3_0 a3_1 k
 unfold impl_CrossAt.f
 exact LeO.ite (LeO.bind (impl_QuoOf.mono _ _ _) (fun _ => LeO.bind (impl_QuoOf.mono _ _ _) (fun _ => LeO.refl _))) (LeO.refl _)
theorem impl_CrossAt.calls (k : Nat) (a0_0 : Int) (a0_1 : Int) (a1_0 : Int) (a1_1 : Int) (a2_0 : Int) (a2_1 : Int) (a3_0 : Int) (a3_1 : Int) (r1 : Int) (r2 : Int) (r3 : Int) (r4 : Int) (r5 : Bool) (w : World) (h : impl_CrossAt.f k a0_0 a0_1 a1_0 a1_1 a2_0 a2_1 a3_0 a3_1 = some (r1, r2, r3, r4, r5)) :
  Calls Try.prog 6 #[.agg #[.int .i64 a0_0, .int .i64 a0_1], .agg #[.int .i64 a1_0, .int .i64 a1_1], .agg #[.int .i64 a2_0, .int .i64 a2_1], .agg #[.int .i64 a3_0, .int .i64 a3_1]] w fun e w' => e = .returned (.tuple #[.agg #[.int .i64 r1, .int .i64 r2], .agg #[.int .i64 r3, .int .i64 r4], .bool r5]) ∧ Below w.heap.size w w' := by
 unfold impl_CrossAt.f at h
 cases hl : lnOk a0_0 a0_1 a1_0 a1_1 a2_0 a2_1 a3_0 a3_1 with
 | false =>
  rw [hl, if_neg (by simp)] at h
  simp only [Option.some.injEq, Prod.mk.injEq] at h
  obtain ⟨rfl, rfl, rfl, rfl, rfl⟩ := h
  exact crossAt_no _ _ _ _ _ _ _ _ hl w
 | true =>
  rw [hl, if_pos rfl] at h
  obtain ⟨⟨x1, x2, x3⟩, hx, h⟩ := Option.bind_eq_some_iff.1 h
  obtain ⟨⟨y1, y2, y3⟩, hy, h⟩ := Option.bind_eq_some_iff.1 h
  cases x3 with
  | false =>
   simp only [Bool.false_eq_true, if_false, Option.some.injEq, Prod.mk.injEq] at h
   obtain ⟨rfl, rfl, rfl, rfl, rfl⟩ := h
   exact crossAt_noX k _ _ _ _ _ _ _ _ _ _ _ _ _ _ _ _ _ _ _ hl rfl rfl rfl rfl rfl hx hy w
  | true =>
   cases y3 with
   | false =>
    simp only [Bool.false_eq_true, if_false, if_true, Option.some.injEq, Prod.mk.injEq] at h
    obtain ⟨rfl, rfl, rfl, rfl, rfl⟩ := h
    exact crossAt_noY k _ _ _ _ _ _ _ _ _ _ _ _ _ _ _ _ _ _ hl rfl rfl rfl rfl rfl hx hy w
   | true =>
    simp only [if_true, Option.some.injEq, Prod.mk.injEq] at h
    obtain ⟨rfl, rfl, rfl, rfl, rfl⟩ := h
    exact crossAt_yes k _ _ _ _ _ _ _ _ _ _ _ _ _ _ _ _ _ _ hl rfl rfl rfl rfl rfl hx hy w
def laws_eqQuo.f (a0_0 : Int) (a0_1 : Int) (a1_0 : Int) (a1_1 : Int) : Option (Bool) := if a0_0 = a1_0 then (if a0_1 = a1_1 then (some true) else (some false)) else (some false)
set_option maxHeartbeats 8000000 in
set_option maxRecDepth 100000 in
theorem laws_eqQuo.calls (a0_0 : Int) (a0_1 : Int) (a1_0 : Int) (a1_1 : Int) (r : Bool) (w : World) (h : laws_eqQuo.f a0_0 a0_1 a1_0 a1_1 = some r) :
  Calls Try.prog 7 #[.agg #[.int .i64 a0_0, .int .i64 a0_1], .agg #[.int .i64 a1_0, .int .i64 a1_1]] w fun e w' => e = .returned (.bool r) ∧ Below w.heap.size w w' := by
 have hu25 := Try.underlying25
 have HB := Aside0.mk (Below.refl w.heap.size w)
 have H : (if a0_0 = a1_0 then (if a0_1 = a1_1 then (some true) else (some false)) else (some false)) = some r := h
 clear h
 by_cases c3 : a0_0 = a1_0
 ·rw [if_pos c3] at H
  have c3b0 : (a0_0 == a1_0) = true := beq_iff_eq.mpr c3
  have c3b1 : (a0_0 != a1_0) = false := bne_eq_false_iff_eq.mpr c3
  clear c3
  by_cases c4 : a0_1 = a1_1
  ·rw [if_pos c4] at H
   have c4b0 : (a0_1 == a1_1) = true := beq_iff_eq.mpr c4
   have c4b1 : (a0_1 != a1_1) = false := bne_eq_false_iff_eq.mpr c4
   clear c4
   obtain rfl := Option.some.inj H
   go_enter Try.func7, Try.ntmps7
   go_wp2_with (first | ((with_reducible refine gate_dst (N := 2) rfl ?_); refine bx_ 2 (cs := #[.int .i64 a0_0, .int .i64 a0_1]) (t := 25) ?_; intro gb174 hg w5 hbox hb; have n0_ := Aside0.mk (below_step (lb HB.out) hb); have n1_ := Aside0.mk (hbox); have n2_ := Aside0.mk ((by rw [hg]; exact (below_size (lb HB.out)) : w.heap.size ≤ gb174)); have n3_ := Aside0.mk ((by rw [hg]; exact (below_size (lb HB.out)) : w.heap.size ≤ gb174)); clear HB; have HB := n0_; have BK174 := n1_; have GW174 := n2_; have GE174 := n3_; clear n0_ n1_ n2_ n3_; clear hb hbox hg) | ((with_reducible refine gate_dst (N := 3) rfl ?_); refine bx_ 3 (cs := #[.int .i64 a1_0, .int .i64 a1_1]) (t := 25) ?_; intro gb175 hg w6 hbox hb; have n0_ := Aside0.mk (blk_below (bf BK174.out) hb); have n1_ := Aside0.mk (below_step (lb HB.out) hb); have n2_ := Aside0.mk (hbox); have n3_ := Aside0.mk ((by rw [hg]; exact (below_size (lb HB.out)) : w.heap.size ≤ gb175)); have n4_ := Aside0.mk ((by rw [hg]; exact (below_size (lb HB.out)) : w.heap.size ≤ gb175)); have n5_ := Aside0.mk ((by rw [hg]; exact Nat.ne_of_lt (blk_lt (bf BK174.out)) : gb174 ≠ gb175)); have n6_ := Aside0.mk ((by rw [hg]; exact Nat.ne_of_gt (blk_lt (bf BK174.out)) : gb175 ≠ gb174)); clear BK174; clear HB; have BK174 := n0_; have HB := n1_; have BK175 := n2_; have GW175 := n3_; have GE175 := n4_; have NB174_175 := n5_; have NB175_174 := n6_; clear n0_ n1_ n2_ n3_ n4_ n5_ n6_; clear hb hbox hg; have hnb7 := NB174_175.out; have hnc7 := NB175_174.out; have hcz8_0 : w6.cell? ⟨gb174, 0, none⟩ = some (.int .i64 a0_0) := (blk_cell BK174.out 0).trans rfl; have hcz8_1 : w6.cell? ⟨gb174, 1, none⟩ = some (.int .i64 a0_1) := (blk_cell BK174.out 1).trans rfl; have hfz8_0 := blk_frozen BK174.out 0; have hfz8_1 := blk_frozen BK174.out 1; have hcz9_0 : w6.cell? ⟨gb175, 0, none⟩ = some (.int .i64 a1_0) := (blk_cell BK175.out 0).trans rfl; have hcz9_1 : w6.cell? ⟨gb175, 1, none⟩ = some (.int .i64 a1_1) := (blk_cell BK175.out 1).trans rfl; have hfz9_0 := blk_frozen BK175.out 0; have hfz9_1 := blk_frozen BK175.out 1))
   go_ret
   exact ⟨er, lb HB.out⟩
  ·rw [if_neg c4] at H
   have c4b0 : (a0_1 == a1_1) = false := beq_eq_false_iff_ne.mpr c4
   have c4b1 : (a0_1 != a1_1) = true := bne_iff_ne.mpr c4
   obtain rfl := Option.some.inj H
   go_enter Try.func7, Try.ntmps7
   go_wp2_with (first | ((with_reducible refine gate_dst (N := 2) rfl ?_); refine bx_ 2 (cs := #[.int .i64 a0_0, .int .i64 a0_1]) (t := 25) ?_; intro gb174 hg w10 hbox hb; have n0_ := Aside0.mk (below_step (lb HB.out) hb); have n1_ := Aside0.mk (hbox); have n2_ := Aside0.mk ((by rw [hg]; exact (below_size (lb HB.out)) : w.heap.size ≤ gb174)); have n3_ := Aside0.mk ((by rw [hg]; exact (below_size (lb HB.out)) : w.heap.size ≤ gb174)); clear HB; have HB := n0_; have BK174 := n1_; have GW174 := n2_; have GE174 := n3_; clear n0_ n1_ n2_ n3_; clear hb hbox hg) | ((with_reducible refine gate_dst (N := 3) rfl ?_); refine bx_ 3 (cs := #[.int .i64 a1_0, .int .i64 a1_1]) (t := 25) ?_; intro gb175 hg w11 hbox hb; have n0_ := Aside0.mk (blk_below (bf BK174.out) hb); have n1_ := Aside0.mk (below_step (lb HB.out) hb); have n2_ := Aside0.mk (hbox); have n3_ := Aside0.mk ((by rw [hg]; exact (below_size (lb HB.out)) : w.heap.size ≤ gb175)); have n4_ := Aside0.mk ((by rw [hg]; exact (below_size (lb HB.out)) : w.heap.size ≤ gb175)); have n5_ := Aside0.mk ((by rw [hg]; exact Nat.ne_of_lt (blk_lt (bf BK174.out)) : gb174 ≠ gb175)); have n6_ := Aside0.mk ((by rw [hg]; exact Nat.ne_of_gt (blk_lt (bf BK174.out)) : gb175 ≠ gb174)); clear BK174; clear HB; have BK174 := n0_; have HB := n1_; have BK175 := n2_; have GW175 := n3_; have GE175 := n4_; have NB174_175 := n5_; have NB175_174 := n6_; clear n0_ n1_ n2_ n3_ n4_ n5_ n6_; clear hb hbox hg; have hnb12 := NB174_175.out; have hnc12 := NB175_174.out; have hcz13_0 : w11.cell? ⟨gb174, 0, none⟩ = some (.int .i64 a0_0) := (blk_cell BK174.out 0).trans rfl; have hcz13_1 : w11.cell? ⟨gb174, 1, none⟩ = some (.int .i64 a0_1) := (blk_cell BK174.out 1).trans rfl; have hfz13_0 := blk_frozen BK174.out 0; have hfz13_1 := blk_frozen BK174.out 1; have hcz14_0 : w11.cell? ⟨gb175, 0, none⟩ = some (.int .i64 a1_0) := (blk_cell BK175.out 0).trans rfl; have hcz14_1 : w11.cell? ⟨gb175, 1, none⟩ = some (.int .i64 a1_1) := (blk_cell BK175.out 1).trans rfl; have hfz14_0 := blk_frozen BK175.out 0; have hfz14_1 := blk_frozen BK175.out 1))
   go_ret
   exact ⟨er, lb HB.out⟩
 ·rw [if_neg c3] at H
  have c3b0 : (a0_0 == a1_0) = false := beq_eq_false_iff_ne.mpr c3
  have c3b1 : (a0_0 != a1_0) = true := bne_iff_ne.mpr c3
  obtain rfl := Option.some.inj H
  go_enter Try.func7, Try.ntmps7
  go_wp2_with (first | ((with_reducible refine gate_dst (N := 2) rfl ?_); refine bx_ 2 (cs := #[.int .i64 a0_0, .int .i64 a0_1]) (t := 25) ?_; intro gb174 hg w15 hbox hb; have n0_ := Aside0.mk (below_step (lb HB.out) hb); have n1_ := Aside0.mk (hbox); have n2_ := Aside0.mk ((by rw [hg]; exact (below_size (lb HB.out)) : w.heap.size ≤ gb174)); have n3_ := Aside0.mk ((by rw [hg]; exact (below_size (lb HB.out)) : w.heap.size ≤ gb174)); clear HB; have HB := n0_; have BK174 := n1_; have GW174 := n2_; have GE174 := n3_; clear n0_ n1_ n2_ n3_; clear hb hbox hg) | ((with_reducible refine gate_dst (N := 3) rfl ?_); refine bx_ 3 (cs := #[.int .i64 a1_0, .int .i64 a1_1]) (t := 25) ?_; intro gb175 hg w16 hbox hb; have n0_ := Aside0.mk (blk_below (bf BK174.out) hb); have n1_ := Aside0.mk (below_step (lb HB.out) hb); have n2_ := Aside0.mk (hbox); have n3_ := Aside0.mk ((by rw [hg]; exact (below_size (lb HB.out)) : w.heap.size ≤ gb175)); have n4_ := Aside0.mk ((by rw [hg]; exact (below_size (lb HB.out)) : w.heap.size ≤ gb175)); have n5_ := Aside0.mk ((by rw [hg]; exact Nat.ne_of_lt (blk_lt (bf BK174.out)) : gb174 ≠ gb175)); have n6_ := Aside0.mk ((by rw [hg]; exact Nat.ne_of_gt (blk_lt (bf BK174.out)) : gb175 ≠ gb174)); clear BK174; clear HB; have BK174 := n0_; have HB := n1_; have BK175 := n2_; have GW175 := n3_; have GE175 := n4_; have NB174_175 := n5_; have NB175_174 := n6_; clear n0_ n1_ n2_ n3_ n4_ n5_ n6_; clear hb hbox hg; have hnb17 := NB174_175.out; have hnc17 := NB175_174.out; have hcz18_0 : w16.cell? ⟨gb174, 0, none⟩ = some (.int .i64 a0_0) := (blk_cell BK174.out 0).trans rfl; have hcz18_1 : w16.cell? ⟨gb174, 1, none⟩ = some (.int .i64 a0_1) := (blk_cell BK174.out 1).trans rfl; have hfz18_0 := blk_frozen BK174.out 0; have hfz18_1 := blk_frozen BK174.out 1; have hcz19_0 : w16.cell? ⟨gb175, 0, none⟩ = some (.int .i64 a1_0) := (blk_cell BK175.out 0).trans rfl; have hcz19_1 : w16.cell? ⟨gb175, 1, none⟩ = some (.int .i64 a1_1) := (blk_cell BK175.out 1).trans rfl; have hfz19_0 := blk_frozen BK175.out 0; have hfz19_1 := blk_frozen BK175.out 1))
  go_ret
  exact ⟨er, lb HB.out⟩
end Go.Proofs.Ytppfoebalhdibaa.P
-- squeezed

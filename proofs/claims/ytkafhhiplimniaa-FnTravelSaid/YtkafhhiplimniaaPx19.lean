-- Written by a program of this session (wip/xprint.py over the print's own program), not by print.sh. Lean checks it.
import Derived.Test.YtkafhhiplimniaaPx0
import Derived.Test.YtkafhhiplimniaaPx4
namespace Go.Proofs.Ytkafhhiplimniaa.P
open Go.RowKit Go.Proofs.YtkafhhiplimniaaW.PrintWords Go.Proofs.YtkafhhiplimniaaW.PrintLast Go.Proofs.YtkafhhiplimniaaW.PrintMore
attribute [local go_sem] max2_int min2_int max_two min_two max_three min_three max_four min_four   -- for this text's walks alone
set_option linter.unusedVariables false
set_option linter.unusedSimpArgs false

-- EXTERNAL impl_TravelPoints: function 28
def mvP (x y a b : Int) : Int × Int × Bool := if inR x y 10000 = true ∧ inR a b 20000 = true ∧ inR (wrap64 (x + a)) (wrap64 (y + b)) 10000 = true then (wrap64 (x + a), wrap64 (y + b), true) else (0, 0, false)
set_option maxHeartbeats 4000000 in
theorem move_calls (x y a b : Int) (w : World) :
    Calls Try.prog 71 #[.agg #[.int .i64 x, .int .i64 y], .agg #[.int .i64 a, .int .i64 b]] w fun e w' => e = .returned (.tuple #[.agg #[.int .i64 (mvP x y a b).1, .int .i64 (mvP x y a b).2.1], .bool (mvP x y a b).2.2]) ∧ Below w.heap.size w w' := by
  have HM0 := Aside0.mk (Mv.new w x y a b)
  by_cases h1 : inR x y 10000 = true
  · by_cases h2 : inR a b 20000 = true
    · go_enter Try.func71, Try.ntmps71
      go_upto_region 3 with (first | (go_at_call 52; (with_reducible refine (PointValid_calls x y _).mono ?_); rintro e w1 ⟨rfl, hb⟩; rw [h1]; have HM1 := Aside0.mk (HM0.out.keep hb); clear hb; obtain ⟨k1, k2, k3, k4, k5, k6, k7, k8⟩ := HM1.out.cells) | (go_at_call 43; (with_reducible refine (stepValid_calls a b _).mono ?_); rintro e w2 ⟨rfl, hb⟩; rw [h2]; have HM2 := Aside0.mk (HM1.out.keep hb); clear hb k1 k2 k3 k4 k5 k6 k7 k8; obtain ⟨k1, k2, k3, k4, k5, k6, k7, k8⟩ := HM2.out.cells))
      (try simp only [Act.put, List.setIfInBounds_toArray, List.set_cons_zero, List.set_cons_succ])
      go_cut [6] (fun v6 wc => ∃ B : Nat, v6 = .pointer (some ⟨B, 0, none⟩) ∧ w.heap.size + 1 + 1 < B ∧ Aside0 (Mv w wc x y a b 0 0) ∧ Aside0 (wc.heap[B]? = some (.cells #[.int .i64 (wrap64 (x + a)), .int .i64 (wrap64 (y + b))] 30 (0, 0))))
      case first =>
        go_region_held3 (fun w' => w'.cell? ⟨w.heap.size, 0, none⟩ = some (.int .i64 x) ∧ w'.cell? ⟨w.heap.size, 1, none⟩ = some (.int .i64 y) ∧ w'.cell? ⟨w.heap.size + 1, 0, none⟩ = some (.int .i64 a) ∧ w'.cell? ⟨w.heap.size + 1, 1, none⟩ = some (.int .i64 b))
          (first
            | go_keep
            | exact ⟨k1, k2, k3, k4⟩
            | exact HM6.out.keepPut (lt_of_block HM5.out.2.2.2) _ _
            | exact HM6.out.keepPut (lt_of_block HM4.out.2.2.2) _ _
            | exact HM6.out.keepPut (lt_of_block HM3.out.2.2.2) _ _
            | exact HM6.out.keepPut (lt_of_block (HM2.out.keep (below_drew1 (Below.refl _ _))).2.2.2) _ _
            | exact HM6.out.keepPut (lt_of_block HM2.out.2.2.2) _ _
            | exact (HM6.out.keep (below_alloc (Below.refl _ _) _)).keepPut (lt_of_block HM6.out.2.2.2) _ _)
          (first
            | (go_at_call 59; (with_reducible refine (pairOf_calls x y _).mono ?_); rintro e w3 ⟨rfl, hb⟩; have HM3 : Aside0 (Mv w w3 x y a b 0 0) := ⟨(HM2.out.keep (below_drew1 (Below.refl _ _))).keep hb⟩; clear hb k1 k2 k3 k4 k5 k6 k7 k8; obtain ⟨k1, k2, k3, k4, k5, k6, k7, k8⟩ := HM3.out.cells)
            | (go_at_call 59; (with_reducible refine (pairOf_calls x y _).mono ?_); rintro e w3 ⟨rfl, hb⟩; have HN3 := Aside0.mk ((hb.block _ (by simp)).trans (heap_alloc_new _ (.cells #[.int .i64 0, .int .i64 0] 30))); have HM3 : Aside0 (Mv w w3 x y a b 0 0) := ⟨((HM2.out.keep (below_drew1 (Below.refl _ _))).keep (below_alloc (Below.refl _ _) _)).keep hb⟩; clear hb k1 k2 k3 k4 k5 k6 k7 k8; obtain ⟨k1, k2, k3, k4, k5, k6, k7, k8⟩ := HM3.out.cells; have k9 := blk_cell HN3.out 0; have k10 := blk_cell HN3.out 1; have f9 := blk_frozen HN3.out 0; have f10 := blk_frozen HN3.out 1)
            | (go_at_call 59; (with_reducible refine (pairOf_calls a b _).mono ?_); rintro e w4 ⟨rfl, hb⟩; have HN4 := Aside0.mk ((hb.block _ (lt_of_block HN3.out)).trans HN3.out); have HM4 := Aside0.mk (HM3.out.keep hb); clear k9 k10 f9 f10; clear hb k1 k2 k3 k4 k5 k6 k7 k8; obtain ⟨k1, k2, k3, k4, k5, k6, k7, k8⟩ := HM4.out.cells; have k9 := blk_cell HN4.out 0; have k10 := blk_cell HN4.out 1; have f9 := blk_frozen HN4.out 0; have f10 := blk_frozen HN4.out 1)
            | (go_at_call 59; (with_reducible refine (pairOf_calls a b _).mono ?_); rintro e w4 ⟨rfl, hb⟩; have HM4 : Aside0 (Mv w w4 x y a b 0 0) := ⟨HM3.out.keep hb⟩; clear hb k1 k2 k3 k4 k5 k6 k7 k8; obtain ⟨k1, k2, k3, k4, k5, k6, k7, k8⟩ := HM4.out.cells)
            | (go_at_call 59; (with_reducible refine (pairOf_calls a b _).mono ?_); rintro e w4 ⟨rfl, hb⟩; have HN4 := Aside0.mk ((hb.block _ (by simp)).trans (heap_alloc_new w3 (.cells #[.int .i64 0, .int .i64 0] 30))); have HM4 : Aside0 (Mv w w4 x y a b 0 0) := ⟨(HM3.out.keep (below_alloc (Below.refl _ _) _)).keep hb⟩; clear hb k1 k2 k3 k4 k5 k6 k7 k8; obtain ⟨k1, k2, k3, k4, k5, k6, k7, k8⟩ := HM4.out.cells; have k9 := blk_cell HN4.out 0; have k10 := blk_cell HN4.out 1; have f9 := blk_frozen HN4.out 0; have f10 := blk_frozen HN4.out 1)
            | (go_at_call 68; (with_reducible refine (pairPlus_calls x y a b _).mono ?_); rintro e w5 ⟨rfl, hb⟩; have HN5 := Aside0.mk ((hb.block _ (lt_of_block HN4.out)).trans HN4.out); have HM5 := Aside0.mk (HM4.out.keep hb); clear k9 k10 f9 f10; clear hb k1 k2 k3 k4 k5 k6 k7 k8; obtain ⟨k1, k2, k3, k4, k5, k6, k7, k8⟩ := HM5.out.cells; have k9 := blk_cell HN5.out 0; have k10 := blk_cell HN5.out 1; have f9 := blk_frozen HN5.out 0; have f10 := blk_frozen HN5.out 1)
            | (go_at_call 68; (with_reducible refine (pairPlus_calls x y a b _).mono ?_); rintro e w5 ⟨rfl, hb⟩; have HM5 : Aside0 (Mv w w5 x y a b 0 0) := ⟨HM4.out.keep hb⟩; clear hb k1 k2 k3 k4 k5 k6 k7 k8; obtain ⟨k1, k2, k3, k4, k5, k6, k7, k8⟩ := HM5.out.cells)
            | (go_at_call 68; (with_reducible refine (pairPlus_calls x y a b _).mono ?_); rintro e w5 ⟨rfl, hb⟩; have HN5 := Aside0.mk ((hb.block _ (by simp)).trans (heap_alloc_new w4 (.cells #[.int .i64 0, .int .i64 0] 30))); have HM5 : Aside0 (Mv w w5 x y a b 0 0) := ⟨(HM4.out.keep (below_alloc (Below.refl _ _) _)).keep hb⟩; clear hb k1 k2 k3 k4 k5 k6 k7 k8; obtain ⟨k1, k2, k3, k4, k5, k6, k7, k8⟩ := HM5.out.cells; have k9 := blk_cell HN5.out 0; have k10 := blk_cell HN5.out 1; have f9 := blk_frozen HN5.out 0; have f10 := blk_frozen HN5.out 1)
            | (go_at_call 46; (with_reducible refine (pairPoint_calls (wrap64 (x + a)) (wrap64 (y + b)) _).mono ?_); rintro e w6 ⟨rfl, hb⟩; have HN6 := Aside0.mk ((hb.block _ (lt_of_block HN5.out)).trans HN5.out); have HM6 := Aside0.mk (HM5.out.keep hb); clear k9 k10 f9 f10; clear hb k1 k2 k3 k4 k5 k6 k7 k8; obtain ⟨k1, k2, k3, k4, k5, k6, k7, k8⟩ := HM6.out.cells; have k9 := blk_cell HN6.out 0; have k10 := blk_cell HN6.out 1; have f9 := blk_frozen HN6.out 0; have f10 := blk_frozen HN6.out 1)
            | (go_at_call 46; (with_reducible refine (pairPoint_calls (wrap64 (x + a)) (wrap64 (y + b)) _).mono ?_); rintro e w6 ⟨rfl, hb⟩; have HM6 : Aside0 (Mv w w6 x y a b 0 0) := ⟨HM5.out.keep hb⟩; clear hb k1 k2 k3 k4 k5 k6 k7 k8; obtain ⟨k1, k2, k3, k4, k5, k6, k7, k8⟩ := HM6.out.cells)
            | (go_at_call 46; (with_reducible refine (pairPoint_calls (wrap64 (x + a)) (wrap64 (y + b)) _).mono ?_); rintro e w6 ⟨rfl, hb⟩; have HN6 := Aside0.mk ((hb.block _ (by simp)).trans (heap_alloc_new w5 (.cells #[.int .i64 0, .int .i64 0] 30))); have HM6 : Aside0 (Mv w w6 x y a b 0 0) := ⟨(HM5.out.keep (below_alloc (Below.refl _ _) _)).keep hb⟩; clear hb k1 k2 k3 k4 k5 k6 k7 k8; obtain ⟨k1, k2, k3, k4, k5, k6, k7, k8⟩ := HM6.out.cells; have k9 := blk_cell HN6.out 0; have k10 := blk_cell HN6.out 1; have f9 := blk_frozen HN6.out 0; have f10 := blk_frozen HN6.out 1))
        all_goals
          go_wp2_with fail
          go_meet
          case rel =>
            first
              | exact ⟨w5.heap.size, rfl, lt_of_block HM5.out.2.2.2, ⟨HM6.out.after (lt_of_block HM5.out.2.2.2) _ _⟩, ⟨blk_put (blk_put HN6.out 0 _ rfl) 1 _ rfl⟩⟩
              | exact ⟨w4.heap.size, rfl, lt_of_block HM4.out.2.2.2, ⟨HM6.out.after (lt_of_block HM4.out.2.2.2) _ _⟩, ⟨blk_put (blk_put HN6.out 0 _ rfl) 1 _ rfl⟩⟩
              | exact ⟨w3.heap.size, rfl, lt_of_block HM3.out.2.2.2, ⟨HM6.out.after (lt_of_block HM3.out.2.2.2) _ _⟩, ⟨blk_put (blk_put HN6.out 0 _ rfl) 1 _ rfl⟩⟩
              | exact ⟨w2.heap.size, rfl, lt_of_block HM2.out.2.2.2, ⟨HM6.out.after (lt_of_block HM2.out.2.2.2) _ _⟩, ⟨blk_put (blk_put HN6.out 0 _ rfl) 1 _ rfl⟩⟩
              | exact ⟨w6.heap.size, rfl, lt_of_block HM6.out.2.2.2, ⟨HM6.out.keep (below_alloc (Below.refl _ _) _)⟩, ⟨heap_alloc_new w6 _⟩⟩
      case rest =>
        obtain ⟨B, rfl, hB, HMc, HNc⟩ := hcut
        clear HM0 HM1 HM2 k1 k2 k3 k4 k5 k6 k7 k8
        obtain ⟨k1, k2, k3, k4, k5, k6, k7, k8⟩ := HMc.out.cells
        have k9 := blk_cell HNc.out 0
        have k10 := blk_cell HNc.out 1
        simp only [List.getElem?_toArray, List.getElem?_cons_zero, List.getElem?_cons_succ] at k9 k10
        generalize hp : wrap64 (x + a) = p at *
        generalize hq : wrap64 (y + b) = q at *
        by_cases h3 : inR p q 10000 = true
        · have e : mvP x y a b = (p, q, true) := by unfold mvP; rw [hp, hq, if_pos ⟨h1, h2, h3⟩]
          go_wp2_with (go_at_call 52; (with_reducible refine (PointValid_calls p q _).mono ?_); rintro e w7 ⟨rfl, hb⟩; rw [h3]; have HM7 := Aside0.mk (HMc.out.keep hb); have HN7 := Aside0.mk ((hb.block _ (lt_of_block HNc.out)).trans HNc.out); clear hb k1 k2 k3 k4 k5 k6 k7 k8 k9 k10; obtain ⟨k1, k2, k3, k4, k5, k6, k7, k8⟩ := HM7.out.cells; have k9 := blk_cell HN7.out 0; have k10 := blk_cell HN7.out 1; simp only [List.getElem?_toArray, List.getElem?_cons_zero, List.getElem?_cons_succ] at k9 k10)
          have HM8 := HM7.out.put p q
          exact bodyPost_ret (results_ct rfl _ _ (w.heap.size + 1 + 1) 30 #[.int .i64 p, .int .i64 q] (0, 0) _ rfl HM8.2.2.2 Try.underlying30 rfl (by kernel_rfl)) rfl ⟨by rw [e]; rfl, HM8.1⟩
        · have e : mvP x y a b = (0, 0, false) := by unfold mvP; rw [hp, hq, if_neg (fun hh => h3 hh.2.2)]
          have h3 : inR p q 10000 = false := by simpa using h3
          go_wp2_with (go_at_call 52; (with_reducible refine (PointValid_calls p q _).mono ?_); rintro e w7 ⟨rfl, hb⟩; rw [h3]; have HM7 := Aside0.mk (HMc.out.keep hb); have HN7 := Aside0.mk ((hb.block _ (lt_of_block HNc.out)).trans HNc.out); clear hb k1 k2 k3 k4 k5 k6 k7 k8 k9 k10; obtain ⟨k1, k2, k3, k4, k5, k6, k7, k8⟩ := HM7.out.cells; have k9 := blk_cell HN7.out 0; have k10 := blk_cell HN7.out 1; simp only [List.getElem?_toArray, List.getElem?_cons_zero, List.getElem?_cons_succ] at k9 k10)
          have HM8 := HM7.out.put 0 0
          exact bodyPost_ret (results_ct rfl _ _ (w.heap.size + 1 + 1) 30 #[.int .i64 0, .int .i64 0] (0, 0) _ rfl HM8.2.2.2 Try.underlying30 rfl (by kernel_rfl)) rfl ⟨by rw [e]; rfl, HM8.1⟩
    · have e : mvP x y a b = (0, 0, false) := by unfold mvP; rw [if_neg (fun hh => h2 hh.2.1)]
      rw [e]
      have h2 : inR a b 20000 = false := by simpa using h2
      go_enter Try.func71, Try.ntmps71
      go_wp2_with (first | (go_at_call 52; (with_reducible refine (PointValid_calls x y _).mono ?_); rintro e w1 ⟨rfl, hb⟩; rw [h1]; have HM1 := Aside0.mk (HM0.out.keep hb); clear hb; obtain ⟨k1, k2, k3, k4, k5, k6, k7, k8⟩ := HM1.out.cells) | (go_at_call 43; (with_reducible refine (stepValid_calls a b _).mono ?_); rintro e w2 ⟨rfl, hb⟩; rw [h2]; have HM2 := Aside0.mk (HM1.out.keep hb); clear hb k1 k2 k3 k4 k5 k6 k7 k8; obtain ⟨k1, k2, k3, k4, k5, k6, k7, k8⟩ := HM2.out.cells))
      have HM3 := HM2.out.put 0 0
      exact bodyPost_ret (results_ct rfl _ _ (w.heap.size + 1 + 1) 30 #[.int .i64 0, .int .i64 0] (0, 0) _ rfl HM3.2.2.2 Try.underlying30 rfl (by kernel_rfl)) rfl ⟨rfl, HM3.1⟩
  · have e : mvP x y a b = (0, 0, false) := by unfold mvP; rw [if_neg (fun hh => h1 hh.1)]
    rw [e]
    have h1 : inR x y 10000 = false := by simpa using h1
    go_enter Try.func71, Try.ntmps71
    go_wp2_with (go_at_call 52; (with_reducible refine (PointValid_calls x y _).mono ?_); rintro e w1 ⟨rfl, hb⟩; rw [h1]; have HM1 := Aside0.mk (HM0.out.keep hb); clear hb; obtain ⟨k1, k2, k3, k4, k5, k6, k7, k8⟩ := HM1.out.cells)
    have HM3 := HM1.out.put 0 0
    exact bodyPost_ret (results_ct rfl _ _ (w.heap.size + 1 + 1) 30 #[.int .i64 0, .int .i64 0] (0, 0) _ rfl HM3.2.2.2 Try.underlying30 rfl (by kernel_rfl)) rfl ⟨rfl, HM3.1⟩
def impl_PointMove.f (a0_0 : Int) (a0_1 : Int) (a1_0 : Int) (a1_1 : Int) : Option (Int × Int × Bool) := some (mvP a0_0 a0_1 a1_0 a1_1)
theorem impl_PointMove.calls (a0_0 : Int) (a0_1 : Int) (a1_0 : Int) (a1_1 : Int) (r1 : Int) (r2 : Int) (r3 : Bool) (w : World) (h : impl_PointMove.f a0_0 a0_1 a1_0 a1_1 = some (r1, r2, r3)) :
    Calls Try.prog 71 #[.agg #[.int .i64 a0_0, .int .i64 a0_1], .agg #[.int .i64 a1_0, .int .i64 a1_1]] w fun e w' => e = .returned (.tuple #[.agg #[.int .i64 r1, .int .i64 r2], .bool r3]) ∧ Below w.heap.size w w' := by
  have h := Option.some.inj h
  have h0 := move_calls a0_0 a0_1 a1_0 a1_1 w
  rw [h] at h0
  exact h0
theorem walkFrom_calls (x y : Int) (w : World) : Calls Try.prog 53 #[.agg #[.int .i64 x, .int .i64 y]] w fun e w' => ∃ g, e = .returned (.func (.func 70) #[] #[.pointer (some ⟨g, 0, none⟩)]) ∧ w.heap.size ≤ g ∧ w'.heap[g]? = some (.cells #[.int .i64 x, .int .i64 y] 30 (0, 0)) ∧ Below w.heap.size w w' := by
  have HB := Aside0.mk (Below.refl w.heap.size w)
  go_enter Try.func53, Try.ntmps53
  go_wp2_with ((with_reducible refine gate_dst (N := 1) rfl ?_); refine box_event ?hg (N := 1) ?hd (cs := #[.int .i64 x, .int .i64 y]) (t := 30) ?hr ?_; (case hd => rfl); (case hg => rfl); (case hr => first | (go_simp; done) | (go_simp; rfl)); intro g1 e1 w1 b1 hb; have HB1 := Aside0.mk (below_step HB.out hb); have HN1 := Aside0.mk b1; have k1 := blk_cell b1 0; have k2 := blk_cell b1 1; clear e1 b1 hb)
  go_ret
  exact ⟨w1.heap.size, rfl, HB1.out.size, heap_alloc_new w1 _, below_alloc HB1.out _⟩
set_option maxHeartbeats 4000000 in
theorem walk1_calls (x y a b : Int) (g B : Nat) (w : World) (hg : w.heap[g]? = some (.cells #[.int .i64 a, .int .i64 b] 30 (0, 0))) (hB : B ≤ g) (hBw : B ≤ w.heap.size) :
    Calls Try.prog 70 #[.agg #[.int .i64 x, .int .i64 y], .pointer (some ⟨g, 0, none⟩)] w fun e w' => e = .returned (.tuple #[.agg #[.int .i64 (mvP a b x y).1, .int .i64 (mvP a b x y).2.1], .bool (mvP a b x y).2.2]) ∧ w'.heap[g]? = some (.cells #[.int .i64 (mvP a b x y).1, .int .i64 (mvP a b x y).2.1] 30 (0, 0)) ∧ Below B w w' ∧ ∀ c, c ≠ g → c < w.heap.size → w'.heap[c]? = w.heap[c]? := by
  have hc := fun w => move_calls a b x y w
  obtain ⟨p, q, r, hm⟩ : ∃ p q r, mvP a b x y = (p, q, r) := ⟨_, _, _, rfl⟩
  simp only [hm] at hc ⊢
  have HC := Aside0.mk hc
  have lg := lt_of_block hg
  have HG := Aside0.mk hg
  have HB := Aside0.mk (Below.refl w.heap.size w)
  clear hc hg hm
  go_enter Try.func70, Try.ntmps70
  go_upto_region 1 with ((with_reducible refine gate_dst (N := 2) rfl ?_); refine box_event ?hg (N := 2) ?hd (cs := #[.int .i64 x, .int .i64 y]) (t := 30) ?hr ?_; (case hd => rfl); (case hg => rfl); (case hr => first | (go_simp; done) | (go_simp; rfl)); intro g2 e2 w2 b2 hb; have HB2 := Aside0.mk (below_step HB.out hb); have HN2 := Aside0.mk b2; have HG2 := Aside0.mk (blk_below HG.out hb); have l2 : w.heap.size ≤ g2 := Nat.le_of_eq e2.symm; clear e2 b2 hb)
  have hb := below_alloc (Below.refl _ w2) (.cells #[.int .i64 0, .int .i64 0] 30)
  have HB3 := Aside0.mk (below_step HB2.out hb)
  have HN3 := Aside0.mk (heap_alloc_new w2 (.cells #[.int .i64 0, .int .i64 0] 30))
  have HG3 := Aside0.mk (blk_below HG2.out hb)
  have HN23 := Aside0.mk (blk_below HN2.out hb)
  have l3 : w.heap.size ≤ w2.heap.size := HB2.out.size
  clear hb HB2 HN2 HG2
  generalize w2.alloc (.cells #[.int .i64 0, .int .i64 0] 30) = w3 at *
  generalize w2.heap.size = g3 at *
  have k1 := blk_cell HG3.out 0
  have k2 := blk_cell HG3.out 1
  have k3 := blk_cell HN23.out 0
  have k4 := blk_cell HN23.out 1
  go_upto_region 2 with (go_at_call 71; (with_reducible refine (HC.out _).mono ?_); rintro e w4 ⟨rfl, hb⟩; have HB4 := Aside0.mk (below_step HB3.out hb); have HG4 := Aside0.mk (blk_below HG3.out hb); have HN34 := Aside0.mk (blk_below HN3.out hb); clear hb k1 k2 k3 k4)
  have hb := below_alloc (Below.refl _ w4) (.cells #[.int .i64 p, .int .i64 q] 30)
  have HB5 := Aside0.mk (below_step HB4.out hb)
  have HN5 := Aside0.mk (heap_alloc_new w4 (.cells #[.int .i64 p, .int .i64 q] 30))
  have HG5 := Aside0.mk (blk_below HG4.out hb)
  have HN35 := Aside0.mk (blk_below HN34.out hb)
  have l5 : g3 < w4.heap.size := blk_lt HN34.out
  clear hb HB3 HB4 HN3 HG3 HG4 HN34 HN23 HC
  generalize w4.alloc (.cells #[.int .i64 p, .int .i64 q] 30) = w5 at *
  generalize w4.heap.size = g5 at *
  have k1 := blk_cell HG5.out 0
  have k2 := blk_cell HG5.out 1
  have f1 := blk_frozen HG5.out 0
  have f2 := blk_frozen HG5.out 1
  have k3 := blk_cell HN35.out 0
  have k4 := blk_cell HN35.out 1
  have f3 := blk_frozen HN35.out 0
  have f4 := blk_frozen HN35.out 1
  have k5 := blk_cell HN5.out 0
  have k6 := blk_cell HN5.out 1
  simp only [List.getElem?_toArray, List.getElem?_cons_zero, List.getElem?_cons_succ] at k1 k2 k3 k4 k5 k6
  have n1 : g ≠ g5 := by omega
  have n2 : g5 ≠ g := by omega
  have n3 : g3 ≠ g5 := by omega
  have n4 : g5 ≠ g3 := by omega
  have n5 : g ≠ g3 := by omega
  have n6 : g3 ≠ g := by omega
  go_wp2
  have hg6 := blk_put (blk_put HG5.out 0 (.int .i64 p) rfl) 1 (.int .i64 q) rfl
  have h36 := blk_far (p := ⟨g, 1, none⟩) (blk_far (p := ⟨g, 0, none⟩) HN35.out n6 (.int .i64 p)) n6 (.int .i64 q)
  have hg7 := blk_far (p := ⟨g3, 1, none⟩) (blk_far (p := ⟨g3, 0, none⟩) hg6 n5 (.int .i64 p)) n5 (.int .i64 q)
  have h37 := blk_put (blk_put h36 0 (.int .i64 p) rfl) 1 (.int .i64 q) rfl
  refine bodyPost_ret (results_ct rfl _ _ g3 30 #[.int .i64 p, .int .i64 q] (0, 0) _ rfl h37 Try.underlying30 rfl (by kernel_rfl)) rfl ⟨rfl, hg7, ?_, ?_⟩
  · exact ((((HB5.out.mono hBw).setCell (p := ⟨g, 0, none⟩) hB _).setCell (p := ⟨g, 1, none⟩) hB _).setCell (p := ⟨g3, 0, none⟩) (Nat.le_trans hBw l3) _).setCell (p := ⟨g3, 1, none⟩) (Nat.le_trans hBw l3) _
  · intro c hc hc2
    rw [Below.heap_setCell _ _ _ _ (by show c ≠ g3; omega), Below.heap_setCell _ _ _ _ (by show c ≠ g3; omega), Below.heap_setCell _ _ _ _ (by show c ≠ g; exact hc), Below.heap_setCell _ _ _ _ (by show c ≠ g; exact hc)]
    exact HB5.out.block c hc2
/-- The place behind n steps. -/
def wkA (l : List S30) (x y : Int) : Nat → Int × Int
  | 0 => (x, y)
  | n + 1 => ((mvP (wkA l x y n).1 (wkA l x y n).2 (rd_T30 l (n : Int)).f0 (rd_T30 l (n : Int)).f1).1, (mvP (wkA l x y n).1 (wkA l x y n).2 (rd_T30 l (n : Int)).f0 (rd_T30 l (n : Int)).f1).2.1)
/-- Have n steps all led to a point? -/
def wkOk (l : List S30) (x y : Int) : Nat → Bool
  | 0 => true
  | n + 1 => wkOk l x y n && (mvP (wkA l x y n).1 (wkA l x y n).2 (rd_T30 l (n : Int)).f0 (rd_T30 l (n : Int)).f1).2.2
/-- The points of n steps. -/
def wkP (l : List S30) (x y : Int) : Nat → List S30
  | 0 => [⟨x, y⟩]
  | n + 1 => wkP l x y n ++ [⟨(wkA l x y (n + 1)).1, (wkA l x y (n + 1)).2⟩]
theorem wkP_length (l : List S30) (x y : Int) : ∀ n, (wkP l x y n).length = n + 1
  | 0 => rfl
  | n + 1 => by unfold wkP; rw [List.length_append, wkP_length l x y n]; rfl
theorem wkOk_mono {l : List S30} {x y : Int} : ∀ {n m : Nat}, n ≤ m → wkOk l x y n = false → wkOk l x y m = false
  | n, 0, h, h2 => by obtain rfl : n = 0 := by omega
                      exact h2
  | n, m + 1, h, h2 => by
    by_cases e : n = m + 1
    · rw [← e]; exact h2
    · unfold wkOk; rw [wkOk_mono (by omega) h2, Bool.false_and]
theorem wk_succ (l : List S30) (x y : Int) (i : Nat) : wkA l x y (i + 1) = ((mvP (wkA l x y i).1 (wkA l x y i).2 (rd_T30 l (i : Int)).f0 (rd_T30 l (i : Int)).f1).1, (mvP (wkA l x y i).1 (wkA l x y i).2 (rd_T30 l (i : Int)).f0 (rd_T30 l (i : Int)).f1).2.1) ∧
    wkOk l x y (i + 1) = (wkOk l x y i && (mvP (wkA l x y i).1 (wkA l x y i).2 (rd_T30 l (i : Int)).f0 (rd_T30 l (i : Int)).f1).2.2) ∧
    wkP l x y (i + 1) = wkP l x y i ++ [⟨(mvP (wkA l x y i).1 (wkA l x y i).2 (rd_T30 l (i : Int)).f0 (rd_T30 l (i : Int)).f1).1, (mvP (wkA l x y i).1 (wkA l x y i).2 (rd_T30 l (i : Int)).f0 (rd_T30 l (i : Int)).f1).2.1⟩] := ⟨rfl, rfl, rfl⟩
def impl_TravelPoints.f (k : Nat) (a0_0 : Int) (a0_1 : Int) (l1 : List S30) : Option (List S30 × Bool) := if inR a0_0 a0_1 10000 = true then ((impl_TravelValid.f k l1).bind fun t => (if t = true then (if l1.length ≤ 100 then (if wkOk l1 a0_0 a0_1 l1.length = true then some (wkP l1 a0_0 a0_1 l1.length, true) else some ([], false)) else none) else some ([], false))) else some ([], false)
theorem impl_TravelPoints.mono : ∀ a0 a1 a2 k, LeO (impl_TravelPoints.f k a0 a1 a2) (impl_TravelPoints.f (k + 1) a0 a1 a2) := by
  intro a0 a1 a2 k
  unfold impl_TravelPoints.f
  exact LeO.ite (LeO.bind (impl_TravelValid.mono _ _) (fun _ => LeO.refl _)) (LeO.refl _)
set_option maxHeartbeats 4000000 in
set_option maxRecDepth 100000 in
theorem impl_TravelPoints.calls (k : Nat) (a0_0 : Int) (a0_1 : Int) (A1 : Option Addr) (c1 : Nat) (l1 : List S30) (r1 : List S30) (r2 : Bool) (w : World) (hr1 : Kd.C k30 w A1 l1.length l1) (hc1 : l1.length ≤ c1) (h : impl_TravelPoints.f k a0_0 a0_1 l1 = some (r1, r2)) :
    Calls Try.prog 28 #[.agg #[.int .i64 a0_0, .int .i64 a0_1], .slice A1 l1.length c1] w fun e w' => ∃ v0_ : Value, e = .returned (.tuple #[v0_, .bool r2]) ∧ Kd.R k30 30 w' w.heap.size (fun _ => True) v0_ r1 ∧ Below w.heap.size w w' := by
  have HR := Aside0.mk hr1
  have HC := Aside0.mk hc1
  have HBx := Aside0.mk (Below.refl w.heap.size w)
  clear hr1 hc1
  unfold impl_TravelPoints.f at h
  by_cases hin : inR a0_0 a0_1 10000 = true
  · rw [if_pos hin] at h
    have HI := Aside0.mk hin
    clear hin
    obtain ⟨b, hb, h⟩ := Option.bind_eq_some_iff.1 h
    have HV := Aside0.mk hb
    clear hb
    cases b with
    | false =>
      simp only [Bool.false_eq_true, if_false, Option.some.injEq, Prod.mk.injEq] at h
      obtain ⟨rfl, rfl⟩ := h
      go_enter Try.func28, Try.ntmps28
      go_wp2_with (first | ((with_reducible refine gate_dst (N := 2) rfl ?_); refine box_event ?hg (N := 2) ?hd (cs := #[.int .i64 a0_0, .int .i64 a0_1]) (t := 30) ?hr ?_; (case hd => rfl); (case hg => rfl); (case hr => first | (go_simp; done) | (go_simp; rfl)); intro g2 e2 w2 b2 hb; have HB2 := Aside0.mk (below_step HBx.out hb); have HN2 := Aside0.mk b2; have k1 := blk_cell b2 0; have k2 := blk_cell b2 1; clear e2 b2 hb) | (go_at_call 52; (with_reducible refine (PointValid_calls a0_0 a0_1 _).mono ?_); rintro e w3 ⟨rfl, hb⟩; rw [HI.out]; have HB3 := Aside0.mk (below_step HB2.out hb); clear hb) | (go_at_call 17; (with_reducible refine (impl_TravelValid.calls k _ _ l1 false _ (Kd.C_below HR.out HB3.out) HC.out HV.out).mono ?_); rintro e w4 ⟨rfl, hb⟩; have HB4 := Aside0.mk (below_step HB3.out hb); clear hb) | ((with_reducible refine gate_dst (N := 20) rfl ?_); refine Kd.R_lit k30 _ 30 ?hg (N := 20) ?hd (xs := ([] : List S30)) (inner := []) (ok := fun _ => True) (okp := fun _ => True) ?hr ?hp (fun _ hk => hk) trivial (Below.refl _ _) (Nat.le_refl _) (by simp) ?_; (case hd => rfl); (case hg => rfl); (case hr => first | (go_simp; done) | (go_simp; rfl)); (case hp => exact (Reps.none _ _)); intro v20 w5 ho hb hg_ hnew_; clear hg_ hnew_; have HO := Aside0.mk (Kd.R_lower ho HB4.out.size); have HB5 := Aside0.mk (below_step HB4.out hb); clear hb ho))
      go_ret2
      exact ⟨_, rfl, HO.out, HB5.out⟩
    | true =>
      simp only [if_true] at h
      split at h
      · rename_i h100
        go_enter Try.func28, Try.ntmps28
        go_upto_region 3 with (first | ((with_reducible refine gate_dst (N := 2) rfl ?_); refine box_event ?hg (N := 2) ?hd (cs := #[.int .i64 a0_0, .int .i64 a0_1]) (t := 30) ?hr ?_; (case hd => rfl); (case hg => rfl); (case hr => first | (go_simp; done) | (go_simp; rfl)); intro g2 e2 w2 b2 hb; have HB2 := Aside0.mk (below_step HBx.out hb); have HN2 := Aside0.mk b2; have k1 := blk_cell b2 0; have k2 := blk_cell b2 1; clear e2 b2 hb) | (go_at_call 52; (with_reducible refine (PointValid_calls a0_0 a0_1 _).mono ?_); rintro e w3 ⟨rfl, hb⟩; rw [HI.out]; have HB3 := Aside0.mk (below_step HB2.out hb); have HN3 := Aside0.mk (blk_below HN2.out hb); clear hb) | (go_at_call 17; (with_reducible refine (impl_TravelValid.calls k _ _ l1 true _ (Kd.C_below HR.out HB3.out) HC.out HV.out).mono ?_); rintro e w4 ⟨rfl, hb⟩; have HB4 := Aside0.mk (below_step HB3.out hb); have HN4 := Aside0.mk (blk_below HN3.out hb); clear hb k1 k2; have k1 := blk_cell HN4.out 0; have k2 := blk_cell HN4.out 1))
        clear HB2 HB3 HN2 HN3
        go_upto_region 4 with ((with_reducible refine gate_dst (N := 22) rfl ?_); refine Kd.R_lit k30 _ 30 ?hg (N := 22) ?hd (xs := ([(⟨a0_0, a0_1⟩ : S30)] : List S30)) (inner := [.int .i64 a0_0, .int .i64 a0_1]) (ok := fun _ => True) (okp := fun _ => True) ?hr ?hp (fun _ hk => hk) trivial (Below.refl _ _) (Nat.le_refl _) (by simp) ?_; (case hd => rfl); (case hg => rfl); (case hr => first | (go_simp; done) | (go_simp; rfl)); (case hp => exact (Reps.c2 (show Kd.M k30 _ _ _ (⟨a0_0, a0_1⟩ : S30) [.int .i64 a0_0, .int .i64 a0_1] from (k30_mkM _ _ _ (⟨a0_0, a0_1⟩ : S30) )) (Reps.none _ _))); intro v22 w5 ho hb hg_ hnew_; clear hg_ hnew_; have HO5 := Aside0.mk (Kd.R_lower ho HB4.out.size); have HN5 := Aside0.mk (blk_below HN4.out hb); have HB5 := Aside0.mk (below_step HB4.out hb); clear hb ho k1 k2; have k1 := blk_cell HN5.out 0; have k2 := blk_cell HN5.out 1)
        clear HB4 HN4
        go_upto_region 5 with (go_at_call 53; (with_reducible refine (walkFrom_calls a0_0 a0_1 _).mono ?_); rintro e w6 ⟨gs, rfl, hl, hg, hb⟩; have hgs : w.heap.size ≤ gs := Nat.le_trans HB5.out.size hl; have HG6 := Aside0.mk hg; have HO6 := Aside0.mk (Kd.R_below (Kd.R_mono (Kd.R_bound HO5.out) (ok' := fun k => k ≠ gs) (fun k hk => by have := hk.2.2.1; omega)) hb); have HB6 := Aside0.mk (below_step HB5.out hb); clear hb hg hl k1 k2)
        go_wp2_with fail
        go_loopw [6, 27] (fun v6 v27 wr => ∃ i : Nat, i ≤ l1.length ∧ v27 = .int .i64 i ∧ Aside0 (wkOk l1 a0_0 a0_1 i = true) ∧ Aside0 (Kd.R k30 30 wr w.heap.size (fun k => k ≠ gs) v6 (wkP l1 a0_0 a0_1 i)) ∧ Aside0 (wr.heap[gs]? = some (.cells #[.int .i64 (wkA l1 a0_0 a0_1 i).1, .int .i64 (wkA l1 a0_0 a0_1 i).2] 30 (0, 0))) ∧ Aside0 (Below w.heap.size w wr)) (fun _ v27 _ => l1.length - (intOf v27).toNat)
        case atStart => exact ⟨0, Nat.zero_le _, rfl, ⟨rfl⟩, HO6, HG6, HB6⟩
        case round =>
          obtain ⟨i, hi, rfl, HK, HO, HG, HBr⟩ := hrel
          clear HO6 HG6 HB6 HO5 HN5 HB5
          by_cases hlt : i < l1.length
          · obtain ⟨ad, e1, hx0, hx1⟩ := at_T30 HR.out (i : Int) (by omega) (by omega)
            rw [Int.toNat_natCast] at hx0 hx1
            subst e1
            replace hx0 := (HBr.out.cell (World.block_lt_of_cell? w _ hx0)).trans hx0
            replace hx1 := (HBr.out.cell (World.block_lt_of_cell? w _ hx1)).trans hx1
            have HS1 := Aside0.mk (wk_succ l1 a0_0 a0_1 i)
            generalize hp : (rd_T30 l1 (i : Int)).f0 = p at *
            generalize hq : (rd_T30 l1 (i : Int)).f1 = q at *
            generalize hab : wkA l1 a0_0 a0_1 i = ab at *
            obtain ⟨aa, bb⟩ := ab
            obtain ⟨u, v, b, hm⟩ : ∃ u v b, mvP aa bb p q = (u, v, b) := ⟨_, _, _, rfl⟩
            have HM := Aside0.mk hm
            rw [hm] at HS1
            clear hp hq hab hm
            cases b with
            | false =>
              have HF : Aside0 (wkOk l1 a0_0 a0_1 l1.length = false) := ⟨wkOk_mono (n := i + 1) (by omega) (by rw [HS1.out.2.1]; exact Bool.and_false _)⟩
              rw [if_neg (by rw [HF.out]; simp)] at h
              simp only [Option.some.injEq, Prod.mk.injEq] at h
              obtain ⟨rfl, rfl⟩ := h
              go_wp2_with (first | (go_at_call 70; (with_reducible refine (walk1_calls p q aa bb gs w.heap.size _ (((below_alloc (Below.refl _ _) _).block _ (lt_of_block HG.out)).trans HG.out) (by omega) (below_alloc HBr.out _).size).mono ?_); rintro e w7 ⟨rfl, hg, hb, hk⟩; rw [HM.out]; clear hg hk; have HB7 := Aside0.mk (below_alloc ((below_alloc HBr.out _).trans hb) (.cells #[.int .i64 u, .int .i64 v] 30)); clear hb) | ((with_reducible refine gate_dst (N := 39) rfl ?_); refine Kd.R_lit k30 _ 30 ?hg (N := 39) ?hd (xs := ([] : List S30)) (inner := []) (ok := fun _ => True) (okp := fun _ => True) ?hr ?hp (fun _ hk => hk) trivial (Below.refl _ _) (Nat.le_refl _) (by simp) ?_; (case hd => rfl); (case hg => rfl); (case hr => first | (go_simp; done) | (go_simp; rfl)); (case hp => exact (Reps.none _ _)); intro v39 w8 ho hb hg_ hnew_; clear hg_ hnew_; have HO8 := Aside0.mk (Kd.R_lower ho HB7.out.size); have HB8 := Aside0.mk (below_step HB7.out hb); clear hb ho))
              go_ret2
              exact ⟨_, rfl, HO8.out, HB8.out⟩
            | true =>
              go_wp2_with (first | (go_at_call 70; (with_reducible refine (walk1_calls p q aa bb gs w.heap.size _ (((below_alloc (Below.refl _ _) _).block _ (lt_of_block HG.out)).trans HG.out) (by omega) (below_alloc HBr.out _).size).mono ?_); rintro e w7 ⟨rfl, hg, hb, hk⟩; rw [HM.out]; rw [HM.out] at hg; have HG7 := Aside0.mk (blk_below hg (below_alloc (Below.refl _ w7) (.cells #[.int .i64 u, .int .i64 v] 30))); have HO7 := Aside0.mk (Kd.R_alloc (Kd.R_step (Kd.R_alloc HO.out (.cells #[.int .i64 p, .int .i64 q] 30)) (fun c hc hc2 => hk c hc hc2)) (.cells #[.int .i64 u, .int .i64 v] 30)); have HB7 := Aside0.mk (below_alloc ((below_alloc HBr.out _).trans hb) (.cells #[.int .i64 u, .int .i64 v] 30)); clear hg hb hk) | ((with_reducible refine gate_builtin (b := .append) (xs := #[.tmp 40, .tmp 42]) rfl ?_); at_builtin; refine Kd.R_append k30 (w0 := w) w.heap.size rfl (.tmp 40) (.tmp 42) 25 30 (.agg #[(.int .i64 0), (.int .i64 0)]) 16 rfl Try.underlying25 info30 rfl (by decide) (by omega) u6 (wkP l1 a0_0 a0_1 i) (⟨u, v⟩ : S30) [.int .i64 u, .int .i64 v] (fun k => k ≠ gs) (fun _ => False) rfl (by first | (go_simp; done) | (go_simp; rfl)) ?aP (fun _ hk => hk.elim) ?aF ?aO ?aB ?aS ?aL ?_; (case aP => exact k30_mkM _ _ _ (⟨u, v⟩ : S30)); (case aF => exact fun k hk => by have := blk_lt HG7.out; omega); (case aO => exact HO7.out); (case aB => exact HB7.out); (case aS => exact HB7.out.size); (case aL => (rw [wkP_length]; omega)); intro v1 w8 ho hb hgr _; have HG8 := Aside0.mk ((hgr.block gs (blk_lt HG7.out) (fun he => HO7.out.1 gs he.symm rfl)).trans HG7.out); have HO8 := Aside0.mk ho; have HB8 := Aside0.mk hb; clear ho hb hgr))
              go_roundw
              case rel => exact ⟨i + 1, by omega, by go_num, ⟨by rw [HS1.out.2.1, HK.out]; rfl⟩, ⟨by rw [HS1.out.2.2]; exact HO8.out⟩, ⟨by rw [HS1.out.1]; exact HG8.out⟩, HB8⟩
              case measure => simp [intOf]; omega
          · have : i = l1.length := by omega
            subst this
            rw [if_pos HK.out] at h
            simp only [Option.some.injEq, Prod.mk.injEq] at h
            obtain ⟨rfl, rfl⟩ := h
            go_wp2_with fail
            go_ret2
            exact ⟨_, rfl, Kd.R_mono HO.out (fun _ _ => trivial), HBr.out⟩
      · cases h
  · have hin : inR a0_0 a0_1 10000 = false := by simpa using hin
    rw [hin] at h
    simp only [Bool.false_eq_true, if_false, Option.some.injEq, Prod.mk.injEq] at h
    obtain ⟨rfl, rfl⟩ := h
    have HI := Aside0.mk hin
    clear hin
    go_enter Try.func28, Try.ntmps28
    go_wp2_with (first | ((with_reducible refine gate_dst (N := 2) rfl ?_); refine box_event ?hg (N := 2) ?hd (cs := #[.int .i64 a0_0, .int .i64 a0_1]) (t := 30) ?hr ?_; (case hd => rfl); (case hg => rfl); (case hr => first | (go_simp; done) | (go_simp; rfl)); intro g2 e2 w2 b2 hb; have HB2 := Aside0.mk (below_step HBx.out hb); have HN2 := Aside0.mk b2; have k1 := blk_cell b2 0; have k2 := blk_cell b2 1; clear e2 b2 hb) | (go_at_call 52; (with_reducible refine (PointValid_calls a0_0 a0_1 _).mono ?_); rintro e w3 ⟨rfl, hb⟩; rw [HI.out]; have HB3 := Aside0.mk (below_step HB2.out hb); clear hb) | ((with_reducible refine gate_dst (N := 20) rfl ?_); refine Kd.R_lit k30 _ 30 ?hg (N := 20) ?hd (xs := ([] : List S30)) (inner := []) (ok := fun _ => True) (okp := fun _ => True) ?hr ?hp (fun _ hk => hk) trivial (Below.refl _ _) (Nat.le_refl _) (by simp) ?_; (case hd => rfl); (case hg => rfl); (case hr => first | (go_simp; done) | (go_simp; rfl)); (case hp => exact (Reps.none _ _)); intro v20 w5 ho hb hg_ hnew_; clear hg_ hnew_; have HO := Aside0.mk (Kd.R_lower ho HB3.out.size); have HB5 := Aside0.mk (below_step HB3.out hb); clear hb ho))
    go_ret2
    exact ⟨_, rfl, HO.out, HB5.out⟩

end Go.Proofs.Ytkafhhiplimniaa.P

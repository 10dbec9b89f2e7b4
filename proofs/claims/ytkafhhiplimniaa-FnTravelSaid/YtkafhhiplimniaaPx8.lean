-- Written by a program of this session (wip/xprint.py over the print's own program), not by print.sh. Lean checks it.
import Derived.Test.YtkafhhiplimniaaPx0
import Derived.Test.YtkafhhiplimniaaPx4
namespace Go.Proofs.Ytkafhhiplimniaa.P
open Go.RowKit Go.Proofs.YtkafhhiplimniaaW.PrintWords Go.Proofs.YtkafhhiplimniaaW.PrintLast Go.Proofs.YtkafhhiplimniaaW.PrintMore
attribute [local go_sem] max2_int min2_int max_two min_two max_three min_three max_four min_four   -- for this text's walks alone
set_option linter.unusedVariables false
set_option linter.unusedSimpArgs false

-- EXTERNAL impl_TravelGap: function 20
theorem adder_calls (w : World) : Calls Try.prog 45 #[] w fun e w' => e = .returned (.func (.func 67) #[] #[.pointer (some ⟨w.heap.size, 0, none⟩)]) ∧ w'.heap[w.heap.size]? = some (.cells #[.int .i64 0, .int .i64 0] 60 (0, 0)) ∧ Below w.heap.size w w' := by
  have hn := heap_alloc_new w (.cells #[.int .i64 0, .int .i64 0] 60)
  go_enter Try.func45, Try.ntmps45
  go_wp2
  go_ret
  exact ⟨rfl, hn, below_alloc (Below.refl _ _) _⟩
def impl_adder1.T1 : Bool × List (List Nat × List Nat) := (true, [([], []), ([], []), ([1], [1]), ([0, 2, 2], [0, 2]), ([3, 3, 0, 1, 2, 3], [3])])
def impl_adder1.B1 : List Nat := [0, 0, 2, 7, 15]
theorem impl_adder1.tab1 : rtab .any (opsOf Try.f67 1) = impl_adder1.T1 := by kernel_rfl
theorem impl_adder1.bits1 : waitsOk impl_adder1.T1.2 impl_adder1.B1 = true := by kernel_rfl
set_option maxHeartbeats 4000000 in
set_option maxRecDepth 100000 in
theorem adder1_calls (x y a b : Int) (g B : Nat) (w : World) (hg : w.heap[g]? = some (.cells #[.int .i64 a, .int .i64 b] 60 (0, 0))) (hB : B ≤ g) (hBw : B ≤ w.heap.size) :
    Calls Try.prog 67 #[.agg #[.int .i64 x, .int .i64 y], .pointer (some ⟨g, 0, none⟩)] w fun e w' => e = .returned (.agg #[.int .i64 (wrap64 (a + x)), .int .i64 (wrap64 (b + y))]) ∧ w'.heap[g]? = some (.cells #[.int .i64 (wrap64 (a + x)), .int .i64 (wrap64 (b + y))] 60 (0, 0)) ∧ Below B w w' ∧ ∀ c, c ≠ g → c < w.heap.size → w'.heap[c]? = w.heap[c]? := by
  have lg := lt_of_block hg
  have hb1 : Below w.heap.size w ((w.alloc (.cells #[.int .i64 x, .int .i64 y] 30)).alloc (.cells #[.int .i64 0, .int .i64 0] 60)) := below_alloc (below_alloc (Below.refl _ _) _) _
  have bx := heap_alloc_new w (.cells #[.int .i64 x, .int .i64 y] 30)
  have bz := heap_alloc_new (w.alloc (.cells #[.int .i64 x, .int .i64 y] 30)) (.cells #[.int .i64 0, .int .i64 0] 60)
  have s1 : (w.alloc (.cells #[.int .i64 x, .int .i64 y] 30)).heap.size = w.heap.size + 1 := by simp
  have hb2 := below_alloc (Below.refl _ (w.alloc (.cells #[.int .i64 x, .int .i64 y] 30))) (.cells #[.int .i64 0, .int .i64 0] 60)
  have hx : ((w.alloc (.cells #[.int .i64 x, .int .i64 y] 30)).alloc (.cells #[.int .i64 0, .int .i64 0] 60)).heap[w.heap.size]? = some (.cells #[.int .i64 x, .int .i64 y] 30 (0, 0)) := (hb2.block _ (by omega)).trans bx
  rw [s1] at bz
  have hg2 := (hb1.block g lg).trans hg
  go_enter Try.func67, Try.ntmps67
  go_wp2_with fail
  generalize (w.alloc (.cells #[.int .i64 x, .int .i64 y] 30)).alloc (.cells #[.int .i64 0, .int .i64 0] 60) = w1 at hb1 hx bz hg2 ⊢
  clear bx hb2 s1
  refine start_ (n := 5) (S := fun w' => w'.cell? ⟨g, 0, none⟩ = some (.int .i64 a) ∧ w'.cell? ⟨g, 1, none⟩ = some (.int .i64 b) ∧ w'.cell? ⟨w.heap.size, 0, none⟩ = some (.int .i64 x) ∧ w'.cell? ⟨w.heap.size, 1, none⟩ = some (.int .i64 y)) (ds := [4]) #[false, false, false, false, false] (by kernel_rfl) rfl rfl ⟨blk_cell hg2 0, blk_cell hg2 1, blk_cell hx 0, blk_cell hx 1⟩ (fun hHeld => ?_)
  refine with_tabW impl_adder1.tab1 impl_adder1.bits1 (fun HT_ HW_ => ?_)
  refine take_ (i := 0) (N := some 4) (v := ?_) (a' := ?_) #[true, false, false, false, false] rfl rfl (take_ofW HT_.out HW_.out (by kernel_rfl)) (fun _ _ _ h => h) (Or.inl ⟨by rfl, ?_⟩) hHeld ?_ ?_
  rotate_left
  · intro w' s0
    obtain ⟨s1, s2, s3, s4⟩ := s0
    go_simp
    with_reducible rfl
  rotate_left
  · simp only [Act.put, List.setIfInBounds_toArray, List.set_cons_zero, List.set_cons_succ]
    rfl
  refine take_ (i := 1) (N := some 5) (v := ?_) (a' := ?_) #[true, true, false, false, false] rfl rfl (take_ofW HT_.out HW_.out (by kernel_rfl)) (fun _ _ _ h => h) (Or.inl ⟨by rfl, ?_⟩) hHeld ?_ ?_
  rotate_left
  · intro w' s0
    obtain ⟨s1, s2, s3, s4⟩ := s0
    go_simp
    with_reducible rfl
  rotate_left
  · simp only [Act.put, List.setIfInBounds_toArray, List.set_cons_zero, List.set_cons_succ]
    rfl
  refine one_ (i := 2) (N := some 6) #[true, true, true, false, false] rfl rfl (one_of HT_.out (by kernel_rfl)) (by decide) (fun K hK => ?_)
  refine goes_ Try.func59 (by kernel_rfl) rfl #[.agg #[.int .i64 x, .int .i64 y]] (by rfl) rfl rfl (by (try simp only [List.map_toArray, List.map_cons, List.map_nil]); first | done | rfl) ?_
  with_reducible refine (pairOf_calls x y _).mono ?_
  rintro e w3 ⟨rfl, hb⟩
  refine ⟨_, rfl, ?_⟩
  have hd := below_drew1 (Below.refl w1.heap.size w1)
  have hg3 := (hb.block g (lt_of_block ((hd.block g (lt_of_block hg2)).trans hg2))).trans ((hd.block g (lt_of_block hg2)).trans hg2)
  have hx3 := (hb.block _ (lt_of_block ((hd.block _ (lt_of_block hx)).trans hx))).trans ((hd.block _ (lt_of_block hx)).trans hx)
  have hz3 := (hb.block _ (lt_of_block ((hd.block _ (lt_of_block bz)).trans bz))).trans ((hd.block _ (lt_of_block bz)).trans bz)
  have hB3 := below_then (below_drew1 hb1) (below_drew1 hb1).size hb
  refine hK.out _ _ ⟨blk_cell hg3 0, blk_cell hg3 1, blk_cell hx3 0, blk_cell hx3 1⟩ (fun hHeld => ?_)
  clear hK K hb hd hg2 hx bz hb1 hHeld
  refine norm_ (a' := ?_) ?_ ?_
  rotate_left
  · simp only [Act.put, List.setIfInBounds_toArray, List.set_cons_zero, List.set_cons_succ]
    rfl
  refine one_ (i := 3) (N := some 7) #[true, true, true, true, false] rfl rfl (one_of HT_.out (by kernel_rfl)) (by decide) (fun K hK => ?_)
  refine goes_ Try.func68 (by kernel_rfl) rfl #[.agg #[.int .i64 a, .int .i64 b], .agg #[.int .i64 x, .int .i64 y]] (by rfl) rfl rfl (by (try simp only [List.map_toArray, List.map_cons, List.map_nil]); first | done | rfl) ?_
  with_reducible refine (pairPlus_calls a b x y _).mono ?_
  rintro e w4 ⟨rfl, hb⟩
  refine ⟨_, rfl, ?_⟩
  have hg4 := (hb.block g (lt_of_block hg3)).trans hg3
  have hx4 := (hb.block _ (lt_of_block hx3)).trans hx3
  have hz4 := (hb.block _ (lt_of_block hz3)).trans hz3
  have hB4 := below_then hB3 hB3.size hb
  refine hK.out _ _ ⟨blk_cell hg4 0, blk_cell hg4 1, blk_cell hx4 0, blk_cell hx4 1⟩ (fun hHeld => ?_)
  clear hK K hb hg3 hx3 hz3 hB3 hHeld
  refine norm_ (a' := ?_) ?_ ?_
  rotate_left
  · simp only [Act.put, List.setIfInBounds_toArray, List.set_cons_zero, List.set_cons_succ]
    rfl
  generalize hp : wrap64 (a + x) = p at *
  generalize hq : wrap64 (b + y) = q at *
  have k1 := blk_cell hg4 0
  have k2 := blk_cell (blk_put hg4 0 (.int .i64 p) rfl) 1
  have f1 := blk_frozen hg4 0
  have f2 := blk_frozen (blk_put hg4 0 (.int .i64 p) rfl) 1
  have hg5 := blk_put (blk_put hg4 0 (.int .i64 p) rfl) 1 (.int .i64 q) rfl
  simp only [List.getElem?_toArray, List.getElem?_cons_zero, List.getElem?_cons_succ, List.setIfInBounds_toArray, List.set_cons_zero, List.set_cons_succ] at k1 k2 hg5
  have hz5 : ((w4.setCell ⟨g, 0, none⟩ (.int .i64 p)).setCell ⟨g, 1, none⟩ (.int .i64 q)).heap[w.heap.size + 1]? = some (.cells #[.int .i64 0, .int .i64 0] 60 (0, 0)) := by
    rw [Below.heap_setCell _ _ _ _ (by show w.heap.size + 1 ≠ g; omega), Below.heap_setCell _ _ _ _ (by show w.heap.size + 1 ≠ g; omega)]; exact hz4
  have hK5 : ∀ c, c ≠ g → c < w.heap.size → ((w4.setCell ⟨g, 0, none⟩ (.int .i64 p)).setCell ⟨g, 1, none⟩ (.int .i64 q)).heap[c]? = w.heap[c]? := by
    intro c hc hc2
    rw [Below.heap_setCell _ _ _ _ (by show c ≠ g; exact hc), Below.heap_setCell _ _ _ _ (by show c ≠ g; exact hc)]; exact hB4.block c hc2
  have hB5 := ((hB4.mono hBw).setCell (p := ⟨g, 0, none⟩) hB (.int .i64 p)).setCell (p := ⟨g, 1, none⟩) hB (.int .i64 q)
  refine last_ (i := 4) (N := none) #[true, true, true, true, true] rfl rfl (one_of HT_.out (by kernel_rfl)) (by decide) (fun K hK => ?_)
  refine skip_ (w1 := (w4.setCell ⟨g, 0, none⟩ (.int .i64 p)).setCell ⟨g, 1, none⟩ (.int .i64 q)) (by rfl) rfl ?_ ?_
  · go_simp
  refine hK.out _ _ ?_
  refine done_ (done_of HT_.out (by kernel_rfl)) ?_
  clear hK K k1 k2 f1 f2 HT_ HW_ hx4 hz4 hg4 hB4
  generalize (w4.setCell ⟨g, 0, none⟩ (.int .i64 p)).setCell ⟨g, 1, none⟩ (.int .i64 q) = w5 at hg5 hz5 hB5 hK5 ⊢
  have k1 := blk_cell hg5 0
  have k2 := blk_cell hg5 1
  have k3 := blk_cell hz5 0
  have k4 := blk_cell hz5 1
  have f3 := blk_frozen hz5 0
  have f4 := blk_frozen hz5 1
  simp only [List.getElem?_toArray, List.getElem?_cons_zero, List.getElem?_cons_succ] at k1 k2 k3 k4
  go_wp2
  have hz6 := blk_put (blk_put hz5 0 (.int .i64 p) rfl) 1 (.int .i64 q) rfl
  have hg6 : ((w5.setCell ⟨w.heap.size + 1, 0, none⟩ (.int .i64 p)).setCell ⟨w.heap.size + 1, 1, none⟩ (.int .i64 q)).heap[g]? = some (.cells #[.int .i64 p, .int .i64 q] 60 (0, 0)) := by
    rw [Below.heap_setCell _ _ _ _ (by show g ≠ w.heap.size + 1; omega), Below.heap_setCell _ _ _ _ (by show g ≠ w.heap.size + 1; omega)]; exact hg5
  have hB6 := (hB5.setCell (p := ⟨w.heap.size + 1, 0, none⟩) (by show B ≤ w.heap.size + 1; omega) (.int .i64 p)).setCell (p := ⟨w.heap.size + 1, 1, none⟩) (by show B ≤ w.heap.size + 1; omega) (.int .i64 q)
  exact bodyPost_ret (results_cell_row rfl _ _ (w.heap.size + 1) 60 #[.int .i64 p, .int .i64 q] (0, 0) _ rfl hz6 Try.underlying60 rfl (by kernel_rfl)) rfl ⟨by rw [hp, hq], by rw [hp, hq]; exact hg6, hB6, fun c hc hc2 => by rw [Below.heap_setCell _ _ _ _ (by show c ≠ w.heap.size + 1; omega), Below.heap_setCell _ _ _ _ (by show c ≠ w.heap.size + 1; omega)]; exact hK5 c hc hc2⟩
/-- The sum so far, with Go's wraps. -/
def gapN (l : List S30) : Nat → Int × Int
  | 0 => (0, 0)
  | n + 1 => (wrap64 ((gapN l n).1 + (rd_T30 l (n : Int)).f0), wrap64 ((gapN l n).2 + (rd_T30 l (n : Int)).f1))
def impl_TravelGap.f (k : Nat) (l0 : List S30) : Option (Int × Int × Bool) := (impl_TravelValid.f k l0).bind fun t => (if t = true then (if l0.length ≤ 100 then some ((gapN l0 l0.length).1, (gapN l0 l0.length).2, true) else none) else some (0, 0, false))
theorem impl_TravelGap.mono : ∀ a0 k, LeO (impl_TravelGap.f k a0) (impl_TravelGap.f (k + 1) a0) := by
  intro a0 k
  unfold impl_TravelGap.f
  exact LeO.bind (impl_TravelValid.mono _ _) (fun _ => LeO.refl _)
set_option maxHeartbeats 4000000 in
set_option maxRecDepth 100000 in
theorem impl_TravelGap.calls (k : Nat) (A0 : Option Addr) (c0 : Nat) (l0 : List S30) (r1 : Int) (r2 : Int) (r3 : Bool) (w : World) (hr0 : Kd.C k30 w A0 l0.length l0) (hc0 : l0.length ≤ c0) (h : impl_TravelGap.f k l0 = some (r1, r2, r3)) :
    Calls Try.prog 20 #[.slice A0 l0.length c0] w fun e w' => e = .returned (.tuple #[.agg #[.int .i64 r1, .int .i64 r2], .bool r3]) ∧ Below w.heap.size w w' := by
  have HR := Aside0.mk hr0
  have HC := Aside0.mk hc0
  clear hr0 hc0
  unfold impl_TravelGap.f at h
  obtain ⟨b, hb, h⟩ := Option.bind_eq_some_iff.1 h
  have HV := Aside0.mk hb
  clear hb
  have hn0 := heap_alloc_new w (.cells #[.int .i64 0, .int .i64 0] 30)
  have hB0 := below_alloc (Below.refl w.heap.size w) (.cells #[.int .i64 0, .int .i64 0] 30)
  have HN0 := Aside0.mk hn0
  have HB0 := Aside0.mk hB0
  clear hn0 hB0
  cases b with
  | false =>
    simp only [Bool.false_eq_true, if_false, Option.some.injEq, Prod.mk.injEq] at h
    obtain ⟨rfl, rfl, rfl⟩ := h
    go_enter Try.func20, Try.ntmps20
    go_wp2_with (go_at_call 17; (with_reducible refine (impl_TravelValid.calls k _ _ l0 false _ (Kd.C_alloc HR.out _) HC.out HV.out).mono ?_); rintro e w1 ⟨rfl, hb⟩; have HN1 := Aside0.mk ((hb.block _ (lt_of_block HN0.out)).trans HN0.out); have HB1 := Aside0.mk (below_then HB0.out HB0.out.size hb); clear hb; have k1 := blk_cell HN1.out 0; have k2 := blk_cell HN1.out 1; have f1 := blk_frozen HN1.out 0; have f2 := blk_frozen HN1.out 1)
    have hz := blk_put (blk_put HN1.out 0 (.int .i64 0) rfl) 1 (.int .i64 0) rfl
    exact bodyPost_ret (results_ct rfl _ _ w.heap.size 30 #[.int .i64 0, .int .i64 0] (0, 0) _ rfl hz Try.underlying30 rfl (by kernel_rfl)) rfl ⟨rfl, (HB1.out.setCell (p := ⟨w.heap.size, 0, none⟩) (Nat.le_refl _) _).setCell (p := ⟨w.heap.size, 1, none⟩) (Nat.le_refl _) _⟩
  | true =>
    simp only [if_true] at h
    split at h
    · rename_i h100
      simp only [Option.some.injEq, Prod.mk.injEq] at h
      obtain ⟨rfl, rfl, rfl⟩ := h
      go_enter Try.func20, Try.ntmps20
      go_wp2_with (first | (go_at_call 17; (with_reducible refine (impl_TravelValid.calls k _ _ l0 true _ (Kd.C_alloc HR.out _) HC.out HV.out).mono ?_); rintro e w1 ⟨rfl, hb⟩; have HN1 := Aside0.mk ((hb.block _ (lt_of_block HN0.out)).trans HN0.out); have HB1 := Aside0.mk (below_then HB0.out HB0.out.size hb); clear hb) | (go_at_call 45; (with_reducible refine (adder_calls _).mono ?_); rintro e w2 ⟨rfl, hg, hb⟩; have HG2 := Aside0.mk hg; have HN2 := Aside0.mk ((hb.block _ (lt_of_block HN1.out)).trans HN1.out); have HB2 := Aside0.mk (below_then HB1.out HB1.out.size hb); have LG2 := Aside0.mk (lt_of_block HN1.out); clear hg hb))
      have HL := Aside0.mk (lt_of_block HG2.out)
      have HS3 := Aside0.mk (heap_alloc_new w2 (.cells #[.int .i64 0, .int .i64 0] 60))
      have hb3 := below_alloc (Below.refl w2.heap.size w2) (.cells #[.int .i64 0, .int .i64 0] 60)
      have HG3 := Aside0.mk ((hb3.block _ (lt_of_block HG2.out)).trans HG2.out)
      have HN3 := Aside0.mk ((hb3.block _ (lt_of_block HN2.out)).trans HN2.out)
      have HB3 := Aside0.mk (below_then HB2.out HB2.out.size hb3)
      clear hb3 HG2 HN2 HB2 HN1 HB1 HN0 HB0
      generalize hgs : w1.heap.size = gs at *
      generalize hsb : w2.heap.size = sb at *
      generalize w2.alloc (.cells #[.int .i64 0, .int .i64 0] 60) = w3 at *
      have lgs := LG2.out
      have lsb := HL.out
      clear LG2 HL hgs hsb
      go_loopw [16] (fun v16 wr => ∃ i : Nat, i ≤ l0.length ∧ v16 = .int .i64 i ∧ Aside0 (wr.heap[gs]? = some (.cells #[.int .i64 (gapN l0 i).1, .int .i64 (gapN l0 i).2] 60 (0, 0))) ∧ Aside0 (wr.heap[sb]? = some (.cells #[.int .i64 (gapN l0 i).1, .int .i64 (gapN l0 i).2] 60 (0, 0))) ∧ Aside0 (wr.heap[w.heap.size]? = some (.cells #[.int .i64 0, .int .i64 0] 30 (0, 0))) ∧ Aside0 (Below w.heap.size w wr)) (fun v16 _ => l0.length - (intOf v16).toNat)
      case atStart => exact ⟨0, Nat.zero_le _, rfl, HG3, HS3, HN3, HB3⟩
      case round =>
        obtain ⟨i, hi, rfl, HG4, HS4, HN4, HB4⟩ := hrel
        clear HG3 HS3 HN3 HB3
        by_cases hlt : i < l0.length
        · obtain ⟨ad, e1, hx0, hx1⟩ := at_T30 HR.out (i : Int) (by omega) (by omega)
          rw [Int.toNat_natCast] at hx0 hx1
          subst e1
          replace hx0 := (HB4.out.cell (World.block_lt_of_cell? w _ hx0)).trans hx0
          replace hx1 := (HB4.out.cell (World.block_lt_of_cell? w _ hx1)).trans hx1
          have HGN := Aside0.mk (show gapN l0 (i + 1) = _ from rfl)
          generalize hp : (rd_T30 l0 (i : Int)).f0 = p at *
          generalize hq : (rd_T30 l0 (i : Int)).f1 = q at *
          generalize hab : gapN l0 i = ab at *
          obtain ⟨aa, bb⟩ := ab
          have HP := Aside0.mk hp
          have HQ := Aside0.mk hq
          have HAB := Aside0.mk hab
          clear hp hq hab HGN
          go_wp2_with (go_at_call 67; (with_reducible refine (adder1_calls p q aa bb gs w.heap.size _ (((below_alloc (Below.refl _ _) _).block _ (lt_of_block HG4.out)).trans HG4.out) (by omega) (below_alloc HB4.out _).size).mono ?_); rintro e w5 ⟨rfl, hg, hb, hk⟩; have HG5 := Aside0.mk hg; have HS5 := Aside0.mk ((hk sb (by omega) (by have := lt_of_block HS4.out; simp; omega)).trans (((below_alloc (Below.refl _ _) _).block _ (lt_of_block HS4.out)).trans HS4.out)); have HN5 := Aside0.mk ((hk w.heap.size (by omega) (by have := lt_of_block HN4.out; simp; omega)).trans (((below_alloc (Below.refl _ _) _).block _ (lt_of_block HN4.out)).trans HN4.out)); have HB5 := Aside0.mk ((below_alloc HB4.out _).trans hb); clear hg hb hk; have k1 := blk_cell HS5.out 0; have k2 := blk_cell HS5.out 1; have f1 := blk_frozen HS5.out 0; have f2 := blk_frozen HS5.out 1)
          go_roundw
          case rel =>
            refine ⟨i + 1, by omega, by go_num, ?_, ?_, ?_, ?_⟩
            · exact ⟨by rw [Below.heap_setCell _ _ _ _ (by show gs ≠ sb; omega), Below.heap_setCell _ _ _ _ (by show gs ≠ sb; omega), gapN, HAB.out, HP.out, HQ.out]; exact HG5.out⟩
            · exact ⟨by rw [gapN, HAB.out, HP.out, HQ.out]; exact blk_put (blk_put HS5.out 0 _ rfl) 1 _ rfl⟩
            · exact ⟨by rw [Below.heap_setCell _ _ _ _ (by show w.heap.size ≠ sb; omega), Below.heap_setCell _ _ _ _ (by show w.heap.size ≠ sb; omega)]; exact HN5.out⟩
            · exact ⟨(HB5.out.setCell (p := ⟨sb, 0, none⟩) (by show w.heap.size ≤ sb; omega) _).setCell (p := ⟨sb, 1, none⟩) (by show w.heap.size ≤ sb; omega) _⟩
          case measure => simp [intOf]; omega
        · have : i = l0.length := by omega
          subst this
          have k1 := blk_cell HS4.out 0
          have k2 := blk_cell HS4.out 1
          go_wp2_with (go_at_call 46; (with_reducible refine (pairPoint_calls (gapN l0 l0.length).1 (gapN l0 l0.length).2 _).mono ?_); rintro e w5 ⟨rfl, hb⟩; have HN5 := Aside0.mk ((hb.block _ (lt_of_block HN4.out)).trans HN4.out); have HB5 := Aside0.mk (below_then HB4.out HB4.out.size hb); clear hb k1 k2; have k1 := blk_cell HN5.out 0; have k2 := blk_cell HN5.out 1; have f1 := blk_frozen HN5.out 0; have f2 := blk_frozen HN5.out 1)
          have hz := blk_put (blk_put HN5.out 0 (.int .i64 (gapN l0 l0.length).1) rfl) 1 (.int .i64 (gapN l0 l0.length).2) rfl
          exact bodyPost_ret (results_ct rfl _ _ w.heap.size 30 #[.int .i64 (gapN l0 l0.length).1, .int .i64 (gapN l0 l0.length).2] (0, 0) _ rfl hz Try.underlying30 rfl (by kernel_rfl)) rfl ⟨rfl, (HB5.out.setCell (p := ⟨w.heap.size, 0, none⟩) (Nat.le_refl _) _).setCell (p := ⟨w.heap.size, 1, none⟩) (Nat.le_refl _) _⟩
    · cases h

end Go.Proofs.Ytkafhhiplimniaa.P

import Derived.Test.YtolkcbnolbkgmaaPx0
import Derived.Test.YtolkcbnolbkgmaaPx2
import Derived.Test.YtolkcbnolbkgmaaPx4
namespace Go.Proofs.Ytolkcbnolbkgmaa.P
open Go.RowKit Go.Proofs.YtolkcbnolbkgmaaW.PrintWords Go.Proofs.YtolkcbnolbkgmaaW.PrintLast Go.Proofs.YtolkcbnolbkgmaaW.PrintMore
attribute [local go_sem] max2_int min2_int max_two min_two max_three min_three max_four min_four
set_option linter.unusedVariables false
set_option linter.unusedSimpArgs false
theorem adder_calls (w : World) : Calls Try.prog 30 #[] w fun e w' => e = .returned (.func (.func 51) #[] #[.pointer (some ⟨w.heap.size, 0, none⟩)]) ∧ w'.heap[w.heap.size]? = some (.cells #[.int .i64 0, .int .i64 0] 58 (0, 0)) ∧ Below w.heap.size w w' := by
 have hn := heap_alloc_new w (.cells #[.int .i64 0, .int .i64 0] 58)
 go_enter Try.func30, Try.ntmps30
 go_wp2
 go_ret
 exact ⟨rfl, hn, below_alloc (Below.refl _ _) _⟩
def impl_adder1.T1 : Bool × List (List Nat × List Nat) := (true,[([],[]),([],[]),([1],[1]),([0,2,2],[0,2]),([3,3,0,1,2,3],[3])])
def impl_adder1.B1 : List Nat := [0,0,2,7,15]
theorem impl_adder1.tab1 : rtab .any (opsOf Try.f51 1) = impl_adder1.T1 := by kernel_rfl
theorem impl_adder1.bits1 : waitsOk impl_adder1.T1.2 impl_adder1.B1 = true := by kernel_rfl
set_option maxHeartbeats 4000000 in
set_option maxRecDepth 100000 in
theorem adder1_calls (x y a b : Int) (g B : Nat) (w : World) (hg : w.heap[g]? = some (.cells #[.int .i64 a, .int .i64 b] 58 (0, 0))) (hB : B ≤ g) (hBw : B ≤ w.heap.size) :
  Calls Try.prog 51 #[.agg #[.int .i64 x, .int .i64 y], .pointer (some ⟨g, 0, none⟩)] w fun e w' => e = .returned (.agg #[.int .i64 (wrap64 (a + x)), .int .i64 (wrap64 (b + y))]) ∧ w'.heap[g]? = some (.cells #[.int .i64 (wrap64 (a + x)), .int .i64 (wrap64 (b + y))] 58 (0, 0)) ∧ Below B w w' ∧ ∀ c, c ≠ g → c < w.heap.size → w'.heap[c]? = w.heap[c]? := by
 have lg := lt_of_block hg
 have hb1 : Below w.heap.size w ((w.alloc (.cells #[.int .i64 x, .int .i64 y] 34)).alloc (.cells #[.int .i64 0, .int .i64 0] 58)) := below_alloc (below_alloc (Below.refl _ _) _) _
 have bx := heap_alloc_new w (.cells #[.int .i64 x, .int .i64 y] 34)
 have bz := heap_alloc_new (w.alloc (.cells #[.int .i64 x, .int .i64 y] 34)) (.cells #[.int .i64 0, .int .i64 0] 58)
 have s1 : (w.alloc (.cells #[.int .i64 x, .int .i64 y] 34)).heap.size = w.heap.size + 1 := by simp
 have hb2 := below_alloc (Below.refl _ (w.alloc (.cells #[.int .i64 x, .int .i64 y] 34))) (.cells #[.int .i64 0, .int .i64 0] 58)
 have hx : ((w.alloc (.cells #[.int .i64 x, .int .i64 y] 34)).alloc (.cells #[.int .i64 0, .int .i64 0] 58)).heap[w.heap.size]? = some (.cells #[.int .i64 x, .int .i64 y] 34 (0, 0)) := (hb2.block _ (by omega)).trans bx
 rw [s1] at bz
 have hg2 := (hb1.block g lg).trans hg
 go_enter Try.func51, Try.ntmps51
 go_wp2_with fail
 generalize (w.alloc (.cells #[.int .i64 x, .int .i64 y] 34)).alloc (.cells #[.int .i64 0, .int .i64 0] 58) = w1 at hb1 hx bz hg2 ⊢
 clear bx hb2 s1
 refine start_ (n := 5) (S := fun w' => w'.cell? ⟨g, 0, none⟩ = some (.int .i64 a) ∧ w'.cell? ⟨g, 1, none⟩ = some (.int .i64 b) ∧ w'.cell? ⟨w.heap.size, 0, none⟩ = some (.int .i64 x) ∧ w'.cell? ⟨w.heap.size, 1, none⟩ = some (.int .i64 y)) (ds := [4]) #[false,false,false,false,false] (by kernel_rfl) rfl rfl ⟨blk_cell hg2 0, blk_cell hg2 1, blk_cell hx 0, blk_cell hx 1⟩ (fun hHeld => ?_)
 refine with_tabW impl_adder1.tab1 impl_adder1.bits1 (fun HT_ HW_ => ?_)
 refine take_ (i := 0) (N := some 4) (v := ?_) (a' := ?_) #[true,false,false,false,false] rfl rfl (take_ofW HT_.out HW_.out (by kernel_rfl)) (fun _ _ _ h => h) (Or.inl ⟨by rfl, ?_⟩) hHeld ?_ ?_
 rotate_left
 ·intro w' s0
  obtain ⟨s1, s2, s3, s4⟩ := s0
  go_simp
  with_reducible rfl
 rotate_left
 ·simp only [Act.put, List.setIfInBounds_toArray, List.set_cons_zero, List.set_cons_succ]
  rfl
 refine take_ (i := 1) (N := some 5) (v := ?_) (a' := ?_) #[true,true,false,false,false] rfl rfl (take_ofW HT_.out HW_.out (by kernel_rfl)) (fun _ _ _ h => h) (Or.inl ⟨by rfl, ?_⟩) hHeld ?_ ?_
 rotate_left
 ·intro w' s0
  obtain ⟨s1, s2, s3, s4⟩ := s0
  go_simp
  with_reducible rfl
 rotate_left
 ·simp only [Act.put, List.setIfInBounds_toArray, List.set_cons_zero, List.set_cons_succ]
  rfl
 refine one_ (i := 2) (N := some 6) #[true,true,true,false,false] rfl rfl (one_of HT_.out (by kernel_rfl)) (by decide) (fun K hK => ?_)
 refine goes_ Try.func53 (by kernel_rfl) rfl #[.agg #[.int .i64 x, .int .i64 y]] (by rfl) rfl rfl (by (try simp only [List.map_toArray, List.map_cons, List.map_nil]); first | done | rfl) ?_
 with_reducible refine (pairOf_calls x y _).mono ?_
 rintro e w3 ⟨rfl, hb⟩
 refine ⟨_, rfl, ?_⟩
 have hd := below_drew1 (Below.refl w1.heap.size w1)
 have hg3 := (hb.block g (lt_of_block ((hd.block g (lt_of_block hg2)).trans hg2))).trans ((hd.block g (lt_of_block hg2)).trans hg2)
 have hx3 := (hb.block _ (lt_of_block ((hd.block _ (lt_of_block hx)).trans hx))).trans ((hd.block _ (lt_of_block hx)).trans hx)
 have hz3 := (hb.block _ (lt_of_block ((hd.block _ (lt_of_block bz)).trans bz))).trans ((hd.block _ (lt_of_block bz)).trans bz)
 have hB3 := below_then (below_drew1 hb1) (below_drew1 hb1).size hb
 refine hK.out _ _ ⟨blk_cell hg3 0, blk_cell hg3 1, blk_cell hx3 0, blk_cell hx3 1⟩ (fun hHeld => ?_)
 clear hK K hb hd hg2 hx bz hb1 hHeld
 refine norm_ (a' := ?_) ?_ ?_
 rotate_left
 ·simp only [Act.put, List.setIfInBounds_toArray, List.set_cons_zero, List.set_cons_succ]
  rfl
 refine one_ (i := 3) (N := some 7) #[true,true,true,true,false] rfl rfl (one_of HT_.out (by kernel_rfl)) (by decide) (fun K hK => ?_)
 refine goes_ Try.func52 (by kernel_rfl) rfl #[.agg #[.int .i64 a, .int .i64 b], .agg #[.int .i64 x, .int .i64 y]] (by rfl) rfl rfl (by (try simp only [List.map_toArray, List.map_cons, List.map_nil]); first | done | rfl) ?_
 with_reducible refine (pairPlus_calls a b x y _).mono ?_
 rintro e w4 ⟨rfl, hb⟩
 refine ⟨_, rfl, ?_⟩
 have hg4 := (hb.block g (lt_of_block hg3)).trans hg3
 have hx4 := (hb.block _ (lt_of_block hx3)).trans hx3
 have hz4 := (hb.block _ (lt_of_block hz3)).trans hz3
 have hB4 := below_then hB3 hB3.size hb
 refine hK.out _ _ ⟨blk_cell hg4 0, blk_cell hg4 1, blk_cell hx4 0, blk_cell hx4 1⟩ (fun hHeld => ?_)
 clear hK K hb hg3 hx3 hz3 hB3 hHeld
 refine norm_ (a' := ?_) ?_ ?_
 rotate_left
 ·simp only [Act.put, List.setIfInBounds_toArray, List.set_cons_zero, List.set_cons_succ]
  rfl
 generalize hp : wrap64 (a + x) = p at *
 generalize hq : wrap64 (b + y) = q at *
 have k1 := blk_cell hg4 0
 have k2 := blk_cell (blk_put hg4 0 (.int .i64 p) rfl) 1
 have f1 := blk_frozen hg4 0
 have f2 := blk_frozen (blk_put hg4 0 (.int .i64 p) rfl) 1
 have hg5 := blk_put (blk_put hg4 0 (.int .i64 p) rfl) 1 (.int .i64 q) rfl
 simp only [List.getElem?_toArray, List.getElem?_cons_zero, List.getElem?_cons_succ, List.setIfInBounds_toArray, List.set_cons_zero, List.set_cons_succ] at k1 k2 hg5
 have hz5 : ((w4.setCell ⟨g, 0, none⟩ (.int .i64 p)).setCell ⟨g, 1, none⟩ (.int .i64 q)).heap[w.heap.size + 1]? = some (.cells #[.int .i64 0, .int .i64 0] 58 (0, 0)) := by
  rw [Below.heap_setCell _ _ _ _ (by show w.heap.size + 1 ≠ g; omega), Below.heap_setCell _ _ _ _ (by show w.heap.size + 1 ≠ g; omega)]; exact hz4
 have hK5 : ∀ c, c ≠ g → c < w.heap.size → ((w4.setCell ⟨g, 0, none⟩ (.int .i64 p)).setCell ⟨g, 1, none⟩ (.int .i64 q)).heap[c]? = w.heap[c]? := by
  intro c hc hc2
  rw [Below.heap_setCell _ _ _ _ (by show c ≠ g; exact hc), Below.heap_setCell _ _ _ _ (by show c ≠ g; exact hc)]; exact hB4.block c hc2
 have hB5 := ((hB4.mono hBw).setCell (p := ⟨g, 0, none⟩) hB (.int .i64 p)).setCell (p := ⟨g, 1, none⟩) hB (.int .i64 q)
 refine last_ (i := 4) (N := none) #[true,true,true,true,true] rfl rfl (one_of HT_.out (by kernel_rfl)) (by decide) (fun K hK => ?_)
 refine skip_ (w1 := (w4.setCell ⟨g, 0, none⟩ (.int .i64 p)).setCell ⟨g, 1, none⟩ (.int .i64 q)) (by rfl) rfl ?_ ?_
 ·go_simp
 refine hK.out _ _ ?_
 refine done_ (done_of HT_.out (by kernel_rfl)) ?_
 clear hK K k1 k2 f1 f2 HT_ HW_ hx4 hz4 hg4 hB4
 generalize (w4.setCell ⟨g, 0, none⟩ (.int .i64 p)).setCell ⟨g, 1, none⟩ (.int .i64 q) = w5 at hg5 hz5 hB5 hK5 ⊢
 have k1 := blk_cell hg5 0
 have k2 := blk_cell hg5 1
 have k3 := blk_cell hz5 0
 have k4 := blk_cell hz5 1
 have f3 := blk_frozen hz5 0
 have f4 := blk_frozen hz5 1
 simp only [List.getElem?_toArray, List.getElem?_cons_zero, List.getElem?_cons_succ] at k1 k2 k3 k4
 go_wp2
 have hz6 := blk_put (blk_put hz5 0 (.int .i64 p) rfl) 1 (.int .i64 q) rfl
 have hg6 : ((w5.setCell ⟨w.heap.size + 1, 0, none⟩ (.int .i64 p)).setCell ⟨w.heap.size + 1, 1, none⟩ (.int .i64 q)).heap[g]? = some (.cells #[.int .i64 p, .int .i64 q] 58 (0, 0)) := by
  rw [Below.heap_setCell _ _ _ _ (by show g ≠ w.heap.size + 1; omega), Below.heap_setCell _ _ _ _ (by show g ≠ w.heap.size + 1; omega)]; exact hg5
 have hB6 := (hB5.setCell (p := ⟨w.heap.size + 1, 0, none⟩) (by show B ≤ w.heap.size + 1; omega) (.int .i64 p)).setCell (p := ⟨w.heap.size + 1, 1, none⟩) (by show B ≤ w.heap.size + 1; omega) (.int .i64 q)
 exact bodyPost_ret (results_cell_row rfl _ _ (w.heap.size + 1) 58 #[.int .i64 p, .int .i64 q] (0, 0) _ rfl hz6 Try.underlying58 rfl (by kernel_rfl)) rfl ⟨by rw [hp, hq], by rw [hp, hq]; exact hg6, hB6, fun c hc hc2 => by rw [Below.heap_setCell _ _ _ _ (by show c ≠ w.heap.size + 1; omega), Below.heap_setCell _ _ _ _ (by show c ≠ w.heap.size + 1; omega)]; exact hK5 c hc hc2⟩
def gapN (l : List S34) : Nat → Int × Int
 | 0 => (0, 0)
 | n + 1 => (wrap64 ((gapN l n).1 + (rd_T34 l (n : Int)).f0), wrap64 ((gapN l n).2 + (rd_T34 l (n : Int)).f1))
def impl_TravelGap.f (k : Nat) (l0 : List S34) : Option (Int × Int × Bool) := (impl_TravelValid.f k l0).bind fun t => (if t = true then (if l0.length ≤ 100 then some ((gapN l0 l0.length).1, (gapN l0 l0.length).2, true) else none) else some (0, 0, false))
theorem impl_TravelGap.mono : ∀ a0 k, LeO (impl_TravelGap.f k a0) (impl_TravelGap.f (k + 1) a0) := by
 intro a0 k
 unfold impl_TravelGap.f
 exact LeO.bind (impl_TravelValid.mono _ _) (fun _ => LeO.refl _)
set_option maxHeartbeats 4000000 in
set_option maxRecDepth 100000 in
theorem impl_TravelGap.calls (k : Nat) (A0 : Option Addr) (c0 : Nat) (l0 : List S34) (r1 : Int) (r2 : Int) (r3 : Bool) (w : World) (hr0 : Kd.C k34 w A0 l0.length l0) (hc0 : l0.length ≤ c0) (h : impl_TravelGap.f k l0 = some (r1, r2, r3)) :
  Calls Try.prog 15 #[.slice A0 l0.length c0] w fun e w' => e = .returned (.tuple #[.agg #[.int .i64 r1, .int .i64 r2], .bool r3]) ∧ Below w.heap.size w w' := by
 have HR := Aside0.mk hr0
 have HC := Aside0.mk hc0
 clear hr0 hc0
 unfold impl_TravelGap.f at h
 obtain ⟨b, hb, h⟩ := Option.bind_eq_some_iff.1 h
 have HV := Aside0.mk hb
 clear hb
 have hn0 := heap_alloc_new w (.cells #[.int .i64 0, .int .i64 0] 34)
 have hB0 := below_alloc (Below.refl w.heap.size w) (.cells #[.int .i64 0, .int .i64 0] 34)
 have HN0 := Aside0.mk hn0
 have HB0 := Aside0.mk hB0
 clear hn0 hB0
 cases b with
 | false =>
  simp only [Bool.false_eq_true, if_false, Option.some.injEq, Prod.mk.injEq] at h
  obtain ⟨rfl, rfl, rfl⟩ := h
  go_enter Try.func15, Try.ntmps15
  go_wp2_with (go_at_call 26; (with_reducible refine (impl_TravelValid.calls k _ _ l0 false _ (Kd.C_alloc HR.out _) HC.out HV.out).mono ?_); rintro e w1 ⟨rfl, hb⟩; have HN1 := Aside0.mk ((hb.block _ (lt_of_block HN0.out)).trans HN0.out); have HB1 := Aside0.mk (below_then HB0.out HB0.out.size hb); clear hb; have k1 := blk_cell HN1.out 0; have k2 := blk_cell HN1.out 1; have f1 := blk_frozen HN1.out 0; have f2 := blk_frozen HN1.out 1)
  have hz := blk_put (blk_put HN1.out 0 (.int .i64 0) rfl) 1 (.int .i64 0) rfl
  exact bodyPost_ret (results_ct rfl _ _ w.heap.size 34 #[.int .i64 0, .int .i64 0] (0, 0) _ rfl hz Try.underlying34 rfl (by kernel_rfl)) rfl ⟨rfl, (HB1.out.setCell (p := ⟨w.heap.size, 0, none⟩) (Nat.le_refl _) _).setCell (p := ⟨w.heap.size, 1, none⟩) (Nat.le_refl _) _⟩
 | true =>
  simp only [if_true] at h
  split at h
  ·rename_i h100
   simp only [Option.some.injEq, Prod.mk.injEq] at h
   obtain ⟨rfl, rfl, rfl⟩ := h
   go_enter Try.func15, Try.ntmps15
   go_wp2_with (first | (go_at_call 26; (with_reducible refine (impl_TravelValid.calls k _ _ l0 true _ (Kd.C_alloc HR.out _) HC.out HV.out).mono ?_); rintro e w1 ⟨rfl, hb⟩; have HN1 := Aside0.mk ((hb.block _ (lt_of_block HN0.out)).trans HN0.out); have HB1 := Aside0.mk (below_then HB0.out HB0.out.size hb); clear hb) | (go_at_call 30; (with_reducible refine (adder_calls _).mono ?_); rintro e w2 ⟨rfl, hg, hb⟩; have HG2 := Aside0.mk hg; have HN2 := Aside0.mk ((hb.block _ (lt_of_block HN1.out)).trans HN1.out); have HB2 := Aside0.mk (below_then HB1.out HB1.out.size hb); have LG2 := Aside0.mk (lt_of_block HN1.out); clear hg hb))
   have HL := Aside0.mk (lt_of_block HG2.out)
   have HS3 := Aside0.mk (heap_alloc_new w2 (.cells #[.int .i64 0, .int .i64 0] 58))
   have hb3 := below_alloc (Below.refl w2.heap.size w2) (.cells #[.int .i64 0, .int .i64 0] 58)
   have HG3 := Aside0.mk ((hb3.block _ (lt_of_block HG2.out)).trans HG2.out)
   have HN3 := Aside0.mk ((hb3.block _ (lt_of_block HN2.out)).trans HN2.out)
   have HB3 := Aside0.mk (below_then HB2.out HB2.out.size hb3)
   clear hb3 HG2 HN2 HB2 HN1 HB1 HN0 HB0
   generalize hgs : w1.heap.size = gs at *
   generalize hsb : w2.heap.size = sb at *
   generalize w2.alloc (.cells #[.int .i64 0, .int .i64 0] 58) = w3 at *
   have lgs := LG2.out
   have lsb := HL.out
   clear LG2 HL hgs hsb
   go_loopw [16] (fun v16 wr => ∃ i : Nat, i ≤ l0.length ∧ v16 = .int .i64 i ∧ Aside0 (wr.heap[gs]? = some (.cells #[.int .i64 (gapN l0 i).1, .int .i64 (gapN l0 i).2] 58 (0, 0))) ∧ Aside0 (wr.heap[sb]? = some (.cells #[.int .i64 (gapN l0 i).1, .int .i64 (gapN l0 i).2] 58 (0, 0))) ∧ Aside0 (wr.heap[w.heap.size]? = some (.cells #[.int .i64 0, .int .i64 0] 34 (0, 0))) ∧ Aside0 (Below w.heap.size w wr)) (fun v16 _ => l0.length - (intOf v16).toNat)
   case atStart => exact ⟨0, Nat.zero_le _, rfl, HG3, HS3, HN3, HB3⟩
   case round =>
    obtain ⟨i, hi, rfl, HG4, HS4, HN4, HB4⟩ := hrel
    clear HG3 HS3 HN3 HB3
    by_cases hlt : i < l0.length
    ·obtain ⟨ad, e1, hx0, hx1⟩ := at_T34 HR.out (i : Int) (by omega) (by omega)
     rw [Int.toNat_natCast] at hx0 hx1
     subst e1
     replace hx0 := (HB4.out.cell (World.block_lt_of_cell? w _ hx0)).trans hx0
     replace hx1 := (HB4.out.cell (World.block_lt_of_cell? w _ hx1)).trans hx1
     have HGN := Aside0.mk (show gapN l0 (i + 1) = _ from rfl)
     generalize hp : (rd_T34 l0 (i : Int)).f0 = p at *
     generalize hq : (rd_T34 l0 (i : Int)).f1 = q at *
     generalize hab : gapN l0 i = ab at *
     obtain ⟨aa, bb⟩ := ab
     have HP := Aside0.mk hp
     have HQ := Aside0.mk hq
     have HAB := Aside0.mk hab
     clear hp hq hab HGN
     go_wp2_with (go_at_call 51; (with_reducible refine (adder1_calls p q aa bb gs w.heap.size _ (((below_alloc (Below.refl _ _) _).block _ (lt_of_block HG4.out)).trans HG4.out) (by omega) (below_alloc HB4.out _).size).mono ?_); rintro e w5 ⟨rfl, hg, hb, hk⟩; have HG5 := Aside0.mk hg; have HS5 := Aside0.mk ((hk sb (by omega) (by have := lt_of_block HS4.out; simp; omega)).trans (((below_alloc (Below.refl _ _) _).block _ (lt_of_block HS4.out)).trans HS4.out)); have HN5 := Aside0.mk ((hk w.heap.size (by omega) (by have := lt_of_block HN4.out; simp; omega)).trans (((below_alloc (Below.refl _ _) _).block _ (lt_of_block HN4.out)).trans HN4.out)); have HB5 := Aside0.mk ((below_alloc HB4.out _).trans hb); clear hg hb hk; have k1 := blk_cell HS5.out 0; have k2 := blk_cell HS5.out 1; have f1 := blk_frozen HS5.out 0; have f2 := blk_frozen HS5.out 1)
     go_roundw
     case rel =>
      refine ⟨i + 1, by omega, by go_num, ?_, ?_, ?_, ?_⟩
      ·exact ⟨by rw [Below.heap_setCell _ _ _ _ (by show gs ≠ sb; omega), Below.heap_setCell _ _ _ _ (by show gs ≠ sb; omega), gapN, HAB.out, HP.out, HQ.out]; exact HG5.out⟩
      ·exact ⟨by rw [gapN, HAB.out, HP.out, HQ.out]; exact blk_put (blk_put HS5.out 0 _ rfl) 1 _ rfl⟩
      ·exact ⟨by rw [Below.heap_setCell _ _ _ _ (by show w.heap.size ≠ sb; omega), Below.heap_setCell _ _ _ _ (by show w.heap.size ≠ sb; omega)]; exact HN5.out⟩
      ·exact ⟨(HB5.out.setCell (p := ⟨sb, 0, none⟩) (by show w.heap.size ≤ sb; omega) _).setCell (p := ⟨sb, 1, none⟩) (by show w.heap.size ≤ sb; omega) _⟩
     case measure => simp [intOf]; omega
    ·have : i = l0.length := by omega
     subst this
     have k1 := blk_cell HS4.out 0
     have k2 := blk_cell HS4.out 1
     go_wp2_with (go_at_call 31; (with_reducible refine (pairPoint_calls (gapN l0 l0.length).1 (gapN l0 l0.length).2 _).mono ?_); rintro e w5 ⟨rfl, hb⟩; have HN5 := Aside0.mk ((hb.block _ (lt_of_block HN4.out)).trans HN4.out); have HB5 := Aside0.mk (below_then HB4.out HB4.out.size hb); clear hb k1 k2; have k1 := blk_cell HN5.out 0; have k2 := blk_cell HN5.out 1; have f1 := blk_frozen HN5.out 0; have f2 := blk_frozen HN5.out 1)
     have hz := blk_put (blk_put HN5.out 0 (.int .i64 (gapN l0 l0.length).1) rfl) 1 (.int .i64 (gapN l0 l0.length).2) rfl
     exact bodyPost_ret (results_ct rfl _ _ w.heap.size 34 #[.int .i64 (gapN l0 l0.length).1, .int .i64 (gapN l0 l0.length).2] (0, 0) _ rfl hz Try.underlying34 rfl (by kernel_rfl)) rfl ⟨rfl, (HB5.out.setCell (p := ⟨w.heap.size, 0, none⟩) (Nat.le_refl _) _).setCell (p := ⟨w.heap.size, 1, none⟩) (Nat.le_refl _) _⟩
  ·cases h
def impl_absInt.f (a0 : Int) : Option (Int) := if a0 < 0 then (some (wrap64 (-a0))) else (some a0)
set_option maxHeartbeats 8000000 in
set_option maxRecDepth 100000 in
theorem impl_absInt.calls (a0 : Int) (r : Int) (w : World) (h : impl_absInt.f a0 = some r) :
  Calls Try.prog 34 #[.int .i64 a0] w fun e w' => e = .returned (.int .i64 r) ∧ Drawn0 w w' := by
 have H : (if a0 < 0 then (some (wrap64 (-a0))) else (some a0)) = some r := h
 clear h
 by_cases c2 : a0 < 0
 ·rw [if_pos c2] at H
  have c2b0 : decide (a0 < 0) = true := decide_eq_true c2
  clear c2
  obtain rfl := Option.some.inj H
  go_enter Try.func34, Try.ntmps34
  go_wp2
  go_ret
  exact ⟨by first | rfl | (simp; done) | (simp [*]; done), by repeat (first | exact Drawn0.refl _ | apply Drawn0.step)⟩
 ·rw [if_neg c2] at H
  have c2b0 : decide (a0 < 0) = false := decide_eq_false c2
  clear c2
  obtain rfl := Option.some.inj H
  go_enter Try.func34, Try.ntmps34
  go_wp2
  go_ret
  exact ⟨by first | rfl | (simp; done) | (simp [*]; done), by repeat (first | exact Drawn0.refl _ | apply Drawn0.step)⟩
def impl_stepLength.f (a0_0 : Int) (a0_1 : Int) : Option (Int) := (impl_absInt.f a0_0).bind fun t204 => ((impl_absInt.f a0_1).bind fun t205 => (some (wrap64 (t204 + t205))))
set_option maxHeartbeats 8000000 in
set_option maxRecDepth 100000 in
theorem impl_stepLength.calls (a0_0 : Int) (a0_1 : Int) (r : Int) (w : World) (h : impl_stepLength.f a0_0 a0_1 = some r) :
  Calls Try.prog 24 #[.agg #[.int .i64 a0_0, .int .i64 a0_1]] w fun e w' => e = .returned (.int .i64 r) ∧ Below w.heap.size w w' := by
 have hu34 := Try.underlying34
 have HB := Aside0.mk (Below.refl w.heap.size w)
 have H : ((impl_absInt.f a0_0).bind fun t204 => ((impl_absInt.f a0_1).bind fun t205 => (some (wrap64 (t204 + t205))))) = some r := h
 clear h
 replace H := Option.bind_eq_some_iff.mp H
 obtain ⟨t204, A20, H⟩ := H
 replace H : ((impl_absInt.f a0_1).bind fun t205 => (some (wrap64 (t204 + t205)))) = some r := H
 have A2 := Aside0.mk A20
 clear A20
 replace H := Option.bind_eq_some_iff.mp H
 obtain ⟨t205, A30, H⟩ := H
 replace H : (some (wrap64 (t204 + t205))) = some r := H
 have A3 := Aside0.mk A30
 clear A30
 obtain rfl := Option.some.inj H
 go_enter Try.func24, Try.ntmps24
 go_wp2_with (first | ((with_reducible refine gate_dst (N := 1) rfl ?_); refine box_event ?hg (N := 1) ?hd (cs := #[.int .i64 a0_0, .int .i64 a0_1]) (t := 34) ?hr ?_; (case hd => rfl); (case hg => rfl); (case hr => first | (go_simp; done) | (go_simp; rfl)); intro gb203 hg w4 hbox hb; have n0_ := Aside0.mk (below_step (lb HB.out) hb); have n1_ := Aside0.mk (hbox); have n2_ := Aside0.mk ((by rw [hg]; exact (below_size (lb HB.out)) : w.heap.size ≤ gb203)); have n3_ := Aside0.mk ((by rw [hg]; exact (below_size (lb HB.out)) : w.heap.size ≤ gb203)); clear HB; have HB := n0_; have BK203 := n1_; have GW203 := n2_; have GE203 := n3_; clear n0_ n1_ n2_ n3_; clear hb hbox hg; have hcz5_0 : w4.cell? ⟨gb203, 0, none⟩ = some (.int .i64 a0_0) := (blk_cell BK203.out 0).trans rfl; have hcz5_1 : w4.cell? ⟨gb203, 1, none⟩ = some (.int .i64 a0_1) := (blk_cell BK203.out 1).trans rfl; have hfz5_0 := blk_frozen BK203.out 0; have hfz5_1 := blk_frozen BK203.out 1) | (go_at_call 34; (with_reducible refine (impl_absInt.calls a0_0 t204 _ A2.out).mono ?_); rintro e w' ⟨rfl, ⟨nd, rfl⟩⟩; (try first | exact ⟨rfl, _, World.drewN_drewN _ _ _⟩ | exact ⟨rfl, _, Eq.trans (World.drewN_drewN _ _ _) (congrArg (World.drewN _) (Nat.add_assoc _ _ _))⟩)) | (go_at_call 34; (with_reducible refine (impl_absInt.calls a0_1 t205 _ A3.out).mono ?_); rintro e w' ⟨rfl, ⟨nd, rfl⟩⟩; (try first | exact ⟨rfl, _, World.drewN_drewN _ _ _⟩ | exact ⟨rfl, _, Eq.trans (World.drewN_drewN _ _ _) (congrArg (World.drewN _) (Nat.add_assoc _ _ _))⟩)))
 repeat (go_quiet (first | ((with_reducible refine gate_dst (N := 1) rfl ?_); refine box_event ?hg (N := 1) ?hd (cs := #[.int .i64 a0_0, .int .i64 a0_1]) (t := 34) ?hr ?_; (case hd => rfl); (case hg => rfl); (case hr => first | (go_simp; done) | (go_simp; rfl)); intro gb203 hg w4 hbox hb; have n0_ := Aside0.mk (below_step (lb HB.out) hb); have n1_ := Aside0.mk (hbox); have n2_ := Aside0.mk ((by rw [hg]; exact (below_size (lb HB.out)) : w.heap.size ≤ gb203)); have n3_ := Aside0.mk ((by rw [hg]; exact (below_size (lb HB.out)) : w.heap.size ≤ gb203)); clear HB; have HB := n0_; have BK203 := n1_; have GW203 := n2_; have GE203 := n3_; clear n0_ n1_ n2_ n3_; clear hb hbox hg; have hcz5_0 : w4.cell? ⟨gb203, 0, none⟩ = some (.int .i64 a0_0) := (blk_cell BK203.out 0).trans rfl; have hcz5_1 : w4.cell? ⟨gb203, 1, none⟩ = some (.int .i64 a0_1) := (blk_cell BK203.out 1).trans rfl; have hfz5_0 := blk_frozen BK203.out 0; have hfz5_1 := blk_frozen BK203.out 1) | (go_at_call 34; (with_reducible refine (impl_absInt.calls a0_0 t204 _ A2.out).mono ?_); rintro e w' ⟨rfl, ⟨nd, rfl⟩⟩; (try first | exact ⟨rfl, _, World.drewN_drewN _ _ _⟩ | exact ⟨rfl, _, Eq.trans (World.drewN_drewN _ _ _) (congrArg (World.drewN _) (Nat.add_assoc _ _ _))⟩)) | (go_at_call 34; (with_reducible refine (impl_absInt.calls a0_1 t205 _ A3.out).mono ?_); rintro e w' ⟨rfl, ⟨nd, rfl⟩⟩; (try first | exact ⟨rfl, _, World.drewN_drewN _ _ _⟩ | exact ⟨rfl, _, Eq.trans (World.drewN_drewN _ _ _) (congrArg (World.drewN _) (Nat.add_assoc _ _ _))⟩))); try go_wp2_with (first | ((with_reducible refine gate_dst (N := 1) rfl ?_); refine box_event ?hg (N := 1) ?hd (cs := #[.int .i64 a0_0, .int .i64 a0_1]) (t := 34) ?hr ?_; (case hd => rfl); (case hg => rfl); (case hr => first | (go_simp; done) | (go_simp; rfl)); intro gb203 hg w4 hbox hb; have n0_ := Aside0.mk (below_step (lb HB.out) hb); have n1_ := Aside0.mk (hbox); have n2_ := Aside0.mk ((by rw [hg]; exact (below_size (lb HB.out)) : w.heap.size ≤ gb203)); have n3_ := Aside0.mk ((by rw [hg]; exact (below_size (lb HB.out)) : w.heap.size ≤ gb203)); clear HB; have HB := n0_; have BK203 := n1_; have GW203 := n2_; have GE203 := n3_; clear n0_ n1_ n2_ n3_; clear hb hbox hg; have hcz5_0 : w4.cell? ⟨gb203, 0, none⟩ = some (.int .i64 a0_0) := (blk_cell BK203.out 0).trans rfl; have hcz5_1 : w4.cell? ⟨gb203, 1, none⟩ = some (.int .i64 a0_1) := (blk_cell BK203.out 1).trans rfl; have hfz5_0 := blk_frozen BK203.out 0; have hfz5_1 := blk_frozen BK203.out 1) | (go_at_call 34; (with_reducible refine (impl_absInt.calls a0_0 t204 _ A2.out).mono ?_); rintro e w' ⟨rfl, ⟨nd, rfl⟩⟩; (try first | exact ⟨rfl, _, World.drewN_drewN _ _ _⟩ | exact ⟨rfl, _, Eq.trans (World.drewN_drewN _ _ _) (congrArg (World.drewN _) (Nat.add_assoc _ _ _))⟩)) | (go_at_call 34; (with_reducible refine (impl_absInt.calls a0_1 t205 _ A3.out).mono ?_); rintro e w' ⟨rfl, ⟨nd, rfl⟩⟩; (try first | exact ⟨rfl, _, World.drewN_drewN _ _ _⟩ | exact ⟨rfl, _, Eq.trans (World.drewN_drewN _ _ _) (congrArg (World.drewN _) (Nat.add_assoc _ _ _))⟩))))
 go_ret
 exact ⟨er, lb HB.out⟩
mutual
def impl_lengthsSum.j0 : Nat → List Int → Bool → Option (Int × Bool)
 | 0, _, _ => none
 | k + 1, x0, x14 => if x14 = true then (some (0, false)) else (impl_lengthsSum.l0 k 0 x0 (x0.length : Int) 0)
def impl_lengthsSum.l0 : Nat → Int → List Int → Int → Int → Option (Int × Bool)
 | 0, _, _, _, _ => none
 | k + 1, x4, x15, x16, x17 => if x17 < x16 then (if 0 ≤ x17 then (if x17 < (x15.length : Int) then (if (rd x15 x17) < 0 then (some (0, false)) else (if (rd x15 x17) > 10000 then (some (0, false)) else (impl_lengthsSum.l0 k (wrap64 (x4 + (rd x15 x17))) x15 x16 (wrap64 (x17 + 1))))) else (none)) else (none)) else (some (x4, decide (x4 > 0)))
end
def impl_lengthsSum.f (k : Nat) (l0 : List Int) : Option (Int × Bool) := if (l0.length : Int) < 1 then (impl_lengthsSum.j0 k l0 true) else (impl_lengthsSum.j0 k l0 (decide ((l0.length : Int) > 20)))
theorem impl_lengthsSum.mono_l : ∀ k, (∀ y0 y1, LeO (impl_lengthsSum.j0 k y0 y1) (impl_lengthsSum.j0 (k + 1) y0 y1)) ∧ (∀ y0 y1 y2 y3, LeO (impl_lengthsSum.l0 k y0 y1 y2 y3) (impl_lengthsSum.l0 (k + 1) y0 y1 y2 y3))
 | 0 => ⟨fun _ _ r h => by simp [impl_lengthsSum.j0] at h, fun _ _ _ _ r h => by simp [impl_lengthsSum.l0] at h⟩
 | k + 1 => by
  obtain ⟨ih0, ih1⟩ := impl_lengthsSum.mono_l k
  refine ⟨?_, ?_⟩
  ·intro y0 y1
   unfold impl_lengthsSum.j0
   repeat' first
   | (with_reducible exact ih0 _ _)
   | (with_reducible exact ih1 _ _ _ _)
   | (with_reducible exact LeO.refl _)
   | (with_reducible exact LeO.none _)
   | (with_reducible refine LeO.ite ?_ ?_)
   | (with_reducible refine LeO.bind ?_ (fun _ => ?_))
   | exact ih0 _ _
   | exact ih1 _ _ _ _
   | exact LeO.none _
   | refine LeO.ite ?_ ?_
   | refine LeO.bind ?_ (fun _ => ?_)
  ·intro y0 y1 y2 y3
   unfold impl_lengthsSum.l0
   repeat' first
   | (with_reducible exact ih0 _ _)
   | (with_reducible exact ih1 _ _ _ _)
   | (with_reducible exact LeO.refl _)
   | (with_reducible exact LeO.none _)
   | (with_reducible refine LeO.ite ?_ ?_)
   | (with_reducible refine LeO.bind ?_ (fun _ => ?_))
   | exact ih0 _ _
   | exact ih1 _ _ _ _
   | exact LeO.none _
   | refine LeO.ite ?_ ?_
   | refine LeO.bind ?_ (fun _ => ?_)
theorem impl_lengthsSum.mono : ∀ a0 k, LeO (impl_lengthsSum.f k a0) (impl_lengthsSum.f (k + 1) a0) := by
 intro a0 k
 obtain ⟨ih0, ih1⟩ := impl_lengthsSum.mono_l k
 unfold impl_lengthsSum.f
 repeat' first
   | (with_reducible exact ih0 _ _)
   | (with_reducible exact ih1 _ _ _ _)
   | (with_reducible exact LeO.refl _)
   | (with_reducible exact LeO.none _)
   | (with_reducible refine LeO.ite ?_ ?_)
   | (with_reducible refine LeO.bind ?_ (fun _ => ?_))
   | exact ih0 _ _
   | exact ih1 _ _ _ _
   | exact LeO.none _
   | refine LeO.ite ?_ ?_
   | refine LeO.bind ?_ (fun _ => ?_)
set_option maxHeartbeats 8000000 in
set_option maxRecDepth 100000 in
theorem impl_lengthsSum.calls (k : Nat) (A0 : Option Addr) (c0 : Nat) (l0 : List Int) (r1 : Int) (r2 : Bool) (w : World) (hr0 : Kd.C (Kd.int .i64) w A0 l0.length l0) (hc0 : l0.length ≤ c0) (h : impl_lengthsSum.f k l0 = some (r1, r2)) :
  Calls Try.prog 32 #[.slice A0 l0.length c0] w fun e w' => e = .returned (.tuple #[.int .i64 r1, .bool r2]) ∧ Drawn0 w w' := by
 have HR0 := Aside0.mk hr0
 have HC0 := Aside0.mk hc0
 clear hr0 hc0
 have H : (if (l0.length : Int) < 1 then (impl_lengthsSum.j0 k l0 true) else (impl_lengthsSum.j0 k l0 (decide ((l0.length : Int) > 20)))) = some (r1, r2) := h
 clear h
 have HC2 := Aside0.mk H
 clear H
 go_enter Try.func32, Try.ntmps32
 go_upto_region 1 with (fail)
 go_cut [14] (fun v14 wc => ∃ (kq : Nat) (x14_1 : Bool), v14 = .bool x14_1 ∧ Aside0 (impl_lengthsSum.j0 kq l0 x14_1 = some (r1, r2)) ∧ Aside0 (kq ≤ k) ∧ Drawn0 w wc)
 case first =>
  have H := HC2.out
  clear HC2
  by_cases c3 : (l0.length : Int) < 1
  ·rw [if_pos c3] at H
   have c3b0 : decide ((l0.length : Int) < 1) = true := decide_eq_true c3
   have c3b1 : decide (l0.length < 1) = true := decide_eq_true (by omega)
   clear c3
   (first | rw [c3b0] | (simp only [i64_w, i32_w]; rw [c3b0]) | skip)
   have H' := Aside0.mk H
   clear H
   go_wp2
   go_meet
   case rel => exact ⟨_, (true), (by first | rfl | (simp; done) | (simp [*]; done)), H', ⟨by first | omega | exact Nat.le_refl _⟩, by repeat (first | exact Drawn0.refl _ | apply Drawn0.step)⟩
  ·rw [if_neg c3] at H
   have c3b0 : decide ((l0.length : Int) < 1) = false := decide_eq_false c3
   have c3b1 : decide (l0.length < 1) = false := decide_eq_false (by omega)
   clear c3
   (first | rw [c3b0] | (simp only [i64_w, i32_w]; rw [c3b0]) | skip)
   have H' := Aside0.mk H
   clear H
   go_wp2
   go_meet
   case rel => exact ⟨_, (decide ((l0.length : Int) > 20)), (by first | rfl | (simp; done) | (simp [*]; done)), H', ⟨by first | omega | exact Nat.le_refl _⟩, by repeat (first | exact Drawn0.refl _ | apply Drawn0.step)⟩
 case rest =>
  clear HC2
  try clear p2
  try clear c3
  try clear c3b0
  try clear c3b1
  obtain ⟨kq, x14_1, rfl, HA, HJ1, ⟨mc1, rfl⟩⟩ := hcut
  cases kq with
  | zero => exact absurd HA.out (by simp [impl_lengthsSum.j0])
  | succ kj1 =>
   have H := HA.out
   clear HA
   simp only [impl_lengthsSum.j0] at H
   by_cases c4 : x14_1 = true
   ·subst c4
    have H1 : (some (0, false)) = some (r1, r2) := by rw [if_pos rfl] at H; exact H
    clear H
    have H := H1
    clear H1
    simp only [Option.some.injEq, Prod.mk.injEq] at H
    obtain ⟨rfl, rfl⟩ := H
    go_wp2
    go_ret2
    exact ⟨by first | rfl | (simp; done) | (simp [*]; done), by repeat (first | exact Drawn0.refl _ | apply Drawn0.step)⟩
   ·replace c4 := Bool.eq_false_iff.mpr c4
    subst c4
    have H1 : (impl_lengthsSum.l0 kj1 0 l0 (l0.length : Int) 0) = some (r1, r2) := by rw [if_neg (show ¬ (false = true) by decide)] at H; exact H
    clear H
    have H := H1
    clear H1
    have H' := Aside0.mk H
    clear H
    go_wp2
    go_loopg [4, 17] kj1 (fun kq v4 v17 w' => ∃ (x4_2 : Int) (x17_2 : Int), v4 = .int .i64 x4_2 ∧ v17 = .int .i64 x17_2 ∧ Aside0 (impl_lengthsSum.l0 kq x4_2 l0 (l0.length : Int) x17_2 = some (r1, r2)) ∧ Aside0 (kq ≤ kj1) ∧ Drawn0 w w')
    case atStart => exact ⟨(0), (0), (by first | rfl | (simp; done) | (simp [*]; done)), (by first | rfl | (simp; done) | (simp [*]; done)), H', ⟨Nat.le_refl _⟩, by repeat (first | exact Drawn0.refl _ | apply Drawn0.step)⟩
    case round =>
     clear H'
     try clear c1
     try clear p2
     try clear c3
     try clear c3b0
     try clear c3b1
     try clear c4
     try clear p2
     obtain ⟨x4_2, x17_2, rfl, rfl, HA, HK2, ⟨m2, rfl⟩⟩ := hrel
     cases gk with
     | zero => exact absurd HA.out (by simp [impl_lengthsSum.l0])
     | succ k2 =>
      have H := HA.out
      clear HA
      simp only [impl_lengthsSum.l0] at H
      by_cases c5 : x17_2 < (l0.length : Int)
      ·rw [if_pos c5] at H
       have c5b0 : decide (x17_2 < (l0.length : Int)) = true := decide_eq_true c5
       clear c5
       by_cases c6 : 0 ≤ x17_2
       ·rw [if_pos c6] at H
        have c6b0 : decide (0 ≤ x17_2) = true := decide_eq_true c6
        clear c6
        by_cases c7 : x17_2 < (l0.length : Int)
        ·rw [if_pos c7] at H
         have c7b0 : decide (x17_2 < (l0.length : Int)) = true := decide_eq_true c7
         clear c7
         by_cases c8 : (rd l0 x17_2) < 0
         ·rw [if_pos c8] at H
          have c8b0 : decide ((rd l0 x17_2) < 0) = true := decide_eq_true c8
          clear c8
          simp only [Option.some.injEq, Prod.mk.injEq] at H
          obtain ⟨rfl, rfl⟩ := H
          have p206 : 0 ≤ (x17_2 : Int) := of_decide_eq_true (by first | (with_reducible assumption) | assumption)
          have q206 : x17_2 < (l0.length : Int) := of_decide_eq_true (by first | (with_reducible assumption) | assumption)
          obtain ⟨ad206, e206, hx206_0⟩ := Kd.at_int HR0.out x17_2 p206 q206
          cases e206
          replace p206 := eq_true p206
          replace q206 := eq_true q206
          go_wp2
          go_ret2
          exact ⟨by first | rfl | (simp; done) | (simp [*]; done), by repeat (first | exact Drawn0.refl _ | apply Drawn0.step)⟩
         ·rw [if_neg c8] at H
          have c8b0 : decide ((rd l0 x17_2) < 0) = false := decide_eq_false c8
          clear c8
          by_cases c9 : (rd l0 x17_2) > 10000
          ·rw [if_pos c9] at H
           have c9b0 : decide (10000 < (rd l0 x17_2)) = true := decide_eq_true c9
           clear c9
           simp only [Option.some.injEq, Prod.mk.injEq] at H
           obtain ⟨rfl, rfl⟩ := H
           have p206 : 0 ≤ (x17_2 : Int) := of_decide_eq_true (by first | (with_reducible assumption) | assumption)
           have q206 : x17_2 < (l0.length : Int) := of_decide_eq_true (by first | (with_reducible assumption) | assumption)
           obtain ⟨ad206, e206, hx206_0⟩ := Kd.at_int HR0.out x17_2 p206 q206
           cases e206
           replace p206 := eq_true p206
           replace q206 := eq_true q206
           go_wp2
           go_ret2
           exact ⟨by first | rfl | (simp; done) | (simp [*]; done), by repeat (first | exact Drawn0.refl _ | apply Drawn0.step)⟩
          ·rw [if_neg c9] at H
           have c9b0 : decide (10000 < (rd l0 x17_2)) = false := decide_eq_false c9
           clear c9
           have H' := Aside0.mk H
           clear H
           have p206 : 0 ≤ (x17_2 : Int) := of_decide_eq_true (by first | (with_reducible assumption) | assumption)
           have q206 : x17_2 < (l0.length : Int) := of_decide_eq_true (by first | (with_reducible assumption) | assumption)
           obtain ⟨ad206, e206, hx206_0⟩ := Kd.at_int HR0.out x17_2 p206 q206
           cases e206
           replace p206 := eq_true p206
           replace q206 := eq_true q206
           go_wp2
           go_roundg k2
           case measure => have := HJ1.out; have := HK2.out; omega
           case rel => exact ⟨(wrap64 (x4_2 + (rd l0 x17_2))), (wrap64 (x17_2 + 1)), (by first | rfl | (simp; done) | (simp [*]; done)), (by first | rfl | (simp; done) | (simp [*]; done)), H', ⟨by have := HJ1.out; have := HK2.out; omega⟩, by repeat (first | exact Drawn0.refl _ | apply Drawn0.step)⟩
        ·rw [if_neg c7] at H
         exact absurd H (by simp)
       ·rw [if_neg c6] at H
        exact absurd H (by simp)
      ·rw [if_neg c5] at H
       have c5b0 : decide (x17_2 < (l0.length : Int)) = false := decide_eq_false c5
       clear c5
       simp only [Option.some.injEq, Prod.mk.injEq] at H
       obtain ⟨rfl, rfl⟩ := H
       go_wp2
       go_ret2
       exact ⟨by first | rfl | (simp; done) | (simp [*]; done), by repeat (first | exact Drawn0.refl _ | apply Drawn0.step)⟩
def impl_floorParts.f (a0 : Int) (a1 : Int) : Option (Int × Int) := if a1 = 0 then (none) else (if (Int.tmod a0 a1) < 0 then (some (wrap64 ((wrap64 (Int.tdiv a0 a1)) - 1), wrap64 ((Int.tmod a0 a1) + a1))) else (some (wrap64 (Int.tdiv a0 a1), Int.tmod a0 a1)))
set_option maxHeartbeats 8000000 in
set_option maxRecDepth 100000 in
theorem impl_floorParts.calls (a0 : Int) (a1 : Int) (r1 : Int) (r2 : Int) (w : World) (h : impl_floorParts.f a0 a1 = some (r1, r2)) :
  Calls Try.prog 46 #[.int .i64 a0, .int .i64 a1] w fun e w' => e = .returned (.tuple #[.int .i64 r1, .int .i64 r2]) ∧ Drawn0 w w' := by
 have H : (if a1 = 0 then (none) else (if (Int.tmod a0 a1) < 0 then (some (wrap64 ((wrap64 (Int.tdiv a0 a1)) - 1), wrap64 ((Int.tmod a0 a1) + a1))) else (some (wrap64 (Int.tdiv a0 a1), Int.tmod a0 a1)))) = some (r1, r2) := h
 clear h
 by_cases c3 : a1 = 0
 ·rw [if_pos c3] at H
  exact absurd H (by simp)
 ·rw [if_neg c3] at H
  have c3b0 : (a1 == 0) = false := beq_eq_false_iff_ne.mpr c3
  have c3b1 : (a1 != 0) = true := bne_iff_ne.mpr c3
  by_cases c4 : (Int.tmod a0 a1) < 0
  ·rw [if_pos c4] at H
   have c4b0 : decide ((Int.tmod a0 a1) < 0) = true := decide_eq_true c4
   clear c4
   simp only [Option.some.injEq, Prod.mk.injEq] at H
   obtain ⟨rfl, rfl⟩ := H
   go_enter Try.func46, Try.ntmps46
   go_wp2
   repeat (go_quiet (fail); try go_wp2)
   go_ret2
   exact ⟨by first | rfl | (simp; done) | (simp [*]; done), by repeat (first | exact Drawn0.refl _ | apply Drawn0.step)⟩
  ·rw [if_neg c4] at H
   have c4b0 : decide ((Int.tmod a0 a1) < 0) = false := decide_eq_false c4
   clear c4
   simp only [Option.some.injEq, Prod.mk.injEq] at H
   obtain ⟨rfl, rfl⟩ := H
   go_enter Try.func46, Try.ntmps46
   go_wp2
   repeat (go_quiet (fail); try go_wp2)
   go_ret2
   exact ⟨by first | rfl | (simp; done) | (simp [*]; done), by repeat (first | exact Drawn0.refl _ | apply Drawn0.step)⟩
def shLess (a b : S82) : Bool := if a.f1 ≠ b.f1 then decide (b.f1 < a.f1) else decide (a.f0 < b.f0)
def shGet (L : List S82) (i : Nat) : S82 := L.getD i ⟨0, 0⟩
def shSwap (L : List S82) (i j : Nat) : List S82 := (L.set i (shGet L j)).set j (shGet L i)
def shKid (L : List S82) (i n : Nat) : Nat := if 2 * i + 2 < n ∧ shLess (shGet L (2 * i + 2)) (shGet L (2 * i + 1)) = true then 2 * i + 2 else 2 * i + 1
def shDown : Nat → List S82 → Nat → Nat → List S82
 | 0, L, _, _ => L
 | d + 1, L, i, n => if 2 * i + 1 < n then (if shLess (shGet L (shKid L i n)) (shGet L i) = true then shDown d (shSwap L i (shKid L i n)) (shKid L i n) n else L) else L
def shInit : Nat → List S82 → List S82
 | 0, L => L
 | i + 1, L => shInit i (shDown L.length L i L.length)
def shPop (L : List S82) : List S82 := shDown L.length (shSwap L 0 (L.length - 1)) 0 (L.length - 1)
def shServe : Nat → List Int → List S82 → Option (List Int)
 | 0, s, _ => some s
 | t + 1, s, L => if L = [] then none else if 0 ≤ (shGet (shPop L) (L.length - 1)).f0 then (if (shGet (shPop L) (L.length - 1)).f0 < (s.length : Int) then shServe t (s.set (shGet (shPop L) (L.length - 1)).f0.toNat (wrap64 (rd s (shGet (shPop L) (L.length - 1)).f0 + 1))) ((shPop L).take (L.length - 1)) else none) else none
structure ShHp (w0 w : World) (q g c : Nat) (L : List S82) : Prop where
 a : w.heap[q]? = some (.cells #[.slice (some ⟨g, 0, none⟩) L.length c] 78 (0, 0))
 r : Kd.R k82 82 w w0.heap.size (fun k => k = g) (.slice (some ⟨g, 0, none⟩) L.length c) L
 b : Below w0.heap.size w0 w
 q : w0.heap.size ≤ q
theorem ShHp.lc {w0 w : World} {q g c : Nat} {L : List S82} (h : ShHp w0 w q g c L) : L.length ≤ c := (Kd.R_reads' h.r).2.1
theorem ShHp.cd {w0 w : World} {q g c : Nat} {L : List S82} (h : ShHp w0 w q g c L) : Kd.C k82 w (some ⟨g, 0, none⟩) L.length L := (Kd.R_reads' h.r).2.2
theorem ShHp.ne {w0 w : World} {q g c : Nat} {L : List S82} (h : ShHp w0 w q g c L) : q ≠ g := fun e => Kd.R_ne h.r h.a (by decide) (by rw [e]; rfl)
theorem ShHp.cell {w0 w : World} {q g c : Nat} {L : List S82} (h : ShHp w0 w q g c L) : w.cell? ⟨q, 0, none⟩ = some (.slice (some ⟨g, 0, none⟩) L.length c) := (blk_cell h.a 0).trans rfl
theorem ShHp.below {w0 w w' : World} {q g c : Nat} {L : List S82} (h : ShHp w0 w q g c L) (hb : Below w.heap.size w w') : ShHp w0 w' q g c L :=
 ⟨(hb.block q (blk_lt h.a)).trans h.a, Kd.R_below h.r hb, below_then h.b h.b.size hb, h.q⟩
theorem ShHp.drawn {w0 w w' : World} {q g c : Nat} {L : List S82} (h : ShHp w0 w q g c L) (hd : Drawn0 w w') : ShHp w0 w' q g c L := h.below hd.below
theorem ShHp.cut {w0 w : World} {q g c n : Nat} {M : List S82} (h : ShHp w0 w q g c M) (hn : n ≤ M.length) : ShHp w0 (w.setCell ⟨q, 0, none⟩ (.slice (some ⟨g, 0, none⟩) n c)) q g c (M.take n) := by
 have hl : (M.take n).length = n := by rw [List.length_take]; omega
 refine ⟨?_, ?_, h.b.setCell (p := ⟨q, 0, none⟩) h.q _, h.q⟩
 ·rw [hl]; exact blk_put h.a 0 _ rfl
 ·rw [hl]; exact Kd.R_far (p := ⟨q, 0, none⟩) (Kd.R_take h.r hn) (fun k hk e => h.ne (by rw [← hk]; exact e.symm)) _
set_option maxHeartbeats 4000000 in
set_option maxRecDepth 100000 in
theorem sh_popm (w0 w : World) (q g c n : Nat) (M : List S82) (h : ShHp w0 w q g c M) (hn : M.length = n + 1) (hl : M.length < 1000000) :
  Calls Try.prog 81 #[.pointer (some ⟨q, 0, none⟩)] w fun e w' => e = .returned (.iface 82 (.agg #[.int .i64 (rd_T82 M (n : Int)).f0, .int .i64 (rd_T82 M (n : Int)).f1])) ∧ ShHp w0 w' q g c (M.take n) ∧ Kept w w' (fun k => k = g ∨ k = q) := by
 have hc := h.cell
 have hz : w.frozen? ⟨q, 0, none⟩ = false := blk_frozen h.a 0
 obtain ⟨ad, e, x0, x1⟩ := at_T82 h.cd (n : Int) (by omega) (by omega)
 cases e
 simp only [add_plain] at x0 x1
 rw [Int.toNat_natCast] at x0 x1
 have hlc := h.lc
 have HH := Aside0.mk h
 rw [hn] at hc hlc
 have hw : wrap64 ((n : Int) + 1 - 1) = (n : Int) := by unfold wrap64; omega
 have hq := blk_lt h.a
 clear h
 go_enter Try.func81, Try.ntmps81
 go_wp2_with fail
 go_ret
 exact ⟨rfl, (HH.out.cut (by omega)).below (below_alloc (Below.refl _ _) _), Kept.alloc (Kept.setCell (p := ⟨q, 0, none⟩) (Kept.refl _ _) (.inl (.inr rfl)) _) _⟩
theorem sh_mthd (K T F q : Nat) (nm : String) (v : Value) (w : World) (h : w.cell? ⟨q, 0, none⟩ = some v)
  (e : ∀ w : World, (method K T (.pointer (some ⟨q, 0, none⟩)) nm).run Try.prog w = (do let v ← load ⟨q, 0, none⟩; pure (F, v) : Sem (FuncId × Value)).run Try.prog w) : (method K T (.pointer (some ⟨q, 0, none⟩)) nm).run Try.prog w = .ok (F, v) w := by
 rw [e]
 go_simp
theorem sh_mLen (q : Nat) (v : Value) (w : World) (h : w.cell? ⟨q, 0, none⟩ = some v) : (method 218 76 (.pointer (some ⟨q, 0, none⟩)) "Len").run Try.prog w = .ok (79, v) w :=
 sh_mthd _ _ _ q _ v w h (fun _ => by kernel_rfl)
theorem sh_mLess (q : Nat) (v : Value) (w : World) (h : w.cell? ⟨q, 0, none⟩ = some v) : (method 218 76 (.pointer (some ⟨q, 0, none⟩)) "Less").run Try.prog w = .ok (80, v) w :=
 sh_mthd _ _ _ q _ v w h (fun _ => by kernel_rfl)
theorem sh_mSwap (q : Nat) (v : Value) (w : World) (h : w.cell? ⟨q, 0, none⟩ = some v) : (method 218 76 (.pointer (some ⟨q, 0, none⟩)) "Swap").run Try.prog w = .ok (82, v) w :=
 sh_mthd _ _ _ q _ v w h (fun _ => by kernel_rfl)
theorem sh_mPop (q : Nat) (w : World) : (method 218 76 (.pointer (some ⟨q, 0, none⟩)) "Pop").run Try.prog w = .ok (81, .pointer (some ⟨q, 0, none⟩)) w := by kernel_rfl
theorem shSwap_len (L : List S82) (i j : Nat) : (shSwap L i j).length = L.length := by unfold shSwap; simp
theorem shDown_len : ∀ (d : Nat) (L : List S82) (i n : Nat), (shDown d L i n).length = L.length
 | 0, _, _, _ => rfl
 | d + 1, L, i, n => by
  unfold shDown
  split
  ·split
   ·rw [shDown_len d, shSwap_len]
   ·rfl
  ·rfl
theorem shInit_len : ∀ (i : Nat) (L : List S82), (shInit i L).length = L.length
 | 0, _ => rfl
 | i + 1, L => by unfold shInit; rw [shInit_len i, shDown_len]
theorem shPop_len (L : List S82) : (shPop L).length = L.length := by unfold shPop; rw [shDown_len, shSwap_len]
theorem shDown_succ (d : Nat) (L : List S82) (i n : Nat) : shDown (d + 1) L i n = if 2 * i + 1 < n then (if shLess (shGet L (shKid L i n)) (shGet L i) = true then shDown d (shSwap L i (shKid L i n)) (shKid L i n) n else L) else L := rfl
theorem sh_len (w0 W : World) (q g c : Nat) (M : List S82) (h : ShHp w0 W q g c M) :
  Calls Try.prog 79 #[.slice (some ⟨g, 0, none⟩) M.length c] W fun e w' => e = .returned (.int .i64 (M.length : Int)) ∧ ShHp w0 w' q g c M ∧ Kept W w' (fun k => k = g) := by
 refine (impl_remainders_Len.calls (some ⟨g, 0, none⟩) c M (M.length : Int) W h.cd h.lc rfl).mono ?_
 rintro e w' ⟨rfl, hd⟩
 exact ⟨rfl, h.drawn hd, Kept.of_below hd.below _⟩
theorem sh_less (w0 W : World) (q g c a b : Nat) (M : List S82) (r : Bool) (h : ShHp w0 W q g c M) (ha : a < M.length) (hb : b < M.length) (hr : shLess (shGet M a) (shGet M b) = r) :
  Calls Try.prog 80 #[.slice (some ⟨g, 0, none⟩) M.length c, .int .i64 (a : Int), .int .i64 (b : Int)] W fun e w' => e = .returned (.bool r) ∧ ShHp w0 w' q g c M ∧ Kept W w' (fun k => k = g) := by
 refine (impl_remainders_Less.calls (some ⟨g, 0, none⟩) c M (a : Int) (b : Int) r W h.cd h.lc ?_).mono ?_
 ·unfold impl_remainders_Less.f
  rw [if_pos (by omega), if_pos (by omega), if_pos (by omega), if_pos (by omega), ← hr]
  have e : ∀ x : Nat, rd_T82 M (x : Int) = shGet M x := fun x => by unfold rd_T82 shGet; rw [Int.toNat_natCast]; rfl
  rw [e, e]
  unfold shLess
  by_cases he : (shGet M a).f1 = (shGet M b).f1
  ·rw [if_pos he, if_neg (fun h => h he)]
  ·rw [if_neg he, if_pos he]
 ·rintro e w' ⟨rfl, hd⟩
  exact ⟨rfl, h.drawn hd, Kept.of_below hd.below _⟩
theorem sh_swap (w0 W : World) (q g c a b : Nat) (M : List S82) (h : ShHp w0 W q g c M) (ha : a < M.length) (hb : b < M.length) :
  Calls Try.prog 82 #[.slice (some ⟨g, 0, none⟩) M.length c, .int .i64 (a : Int), .int .i64 (b : Int)] W fun e w' => e = .returned (.tuple #[]) ∧ ShHp w0 w' q g c (shSwap M a b) ∧ Kept W w' (fun k => k = g) := by
 refine (impl_remainders_Swap.calls (fun k => k = g) _ M (a : Int) (b : Int) (shSwap M a b) w0 W h.b h.r ?_).mono ?_
 ·unfold impl_remainders_Swap.f
  rw [if_pos (by omega), if_pos (by omega), if_pos (by omega), if_pos (by omega)]
  have e : ∀ x : Nat, rd_T82 M (x : Int) = shGet M x := fun x => by unfold rd_T82 shGet; rw [Int.toNat_natCast]; rfl
  rw [e, e, Int.toNat_natCast, Int.toNat_natCast]; rfl
 ·rintro e w' ⟨rfl, hr, hb, hk⟩
  refine ⟨rfl, ⟨?_, ?_, hb, h.q⟩, hk⟩
  ·rw [shSwap_len]; exact (hk.2 q (blk_lt h.a) h.ne).trans h.a
  ·rw [shSwap_len]
   exact Kd.R_mono (Kd.R_tight rfl hr) (fun k hk => by simpa [Value.ownBlock] using hk)
set_option maxHeartbeats 4000000 in
set_option maxRecDepth 100000 in
theorem sh_down (w0 w : World) (q g c i0 n d : Nat) (L : List S82) (h : ShHp w0 w q g c L) (hn : n ≤ L.length) (hd : n ≤ d + i0) (hl : L.length < 1000000) (hi0 : i0 < 1000000) :
  Calls Try.prog 61 #[.iface 76 (.pointer (some ⟨q, 0, none⟩)), .int .i64 (i0 : Int), .int .i64 (n : Int)] w fun e w' => (∃ b, e = .returned (.bool b)) ∧ ShHp w0 w' q g c (shDown d L i0 n) ∧ Kept w w' (fun k => k = g) := by
 have HH0 := Aside0.mk h
 clear h
 go_enter Try.func61, Try.ntmps61
 go_wp2_with fail
 go_loopg [7] d (fun kq v7 wr => ∃ (i : Nat) (M : List S82), v7 = .int .i64 (i : Int) ∧ Aside0 (n ≤ kq + i ∧ i < 4000000) ∧ Aside0 (shDown kq M i n = shDown d L i0 n) ∧ Aside0 (M.length = L.length) ∧ Aside0 (ShHp w0 wr q g c M) ∧ Aside0 (Kept w wr (fun k => k = g)))
 case atStart => exact ⟨i0, L, rfl, ⟨hd, by omega⟩, ⟨rfl⟩, ⟨rfl⟩, HH0, ⟨Kept.refl _ _⟩⟩
 case round =>
  clear HH0 hd
  obtain ⟨i, M, rfl, HI, HS, HL, HH, HK⟩ := hrel
  have hI := HI.out
  obtain ⟨Y, hY⟩ : ∃ Y : Int, Y = 2 * (i : Int) := ⟨_, rfl⟩
  obtain ⟨j1, hj1⟩ : ∃ j : Nat, j = 2 * i + 1 := ⟨_, rfl⟩
  obtain ⟨j2, hj2⟩ : ∃ j : Nat, j = 2 * i + 2 := ⟨_, rfl⟩
  have e1 : IntKind.i64.wrap (2 * (i : Int)) = Y := by rw [IntKind.wrap_i64]; omega
  have e2 : IntKind.i64.wrap (Y + 1) = (j1 : Int) := by rw [IntKind.wrap_i64]; omega
  have e3 : IntKind.i64.wrap ((j1 : Int) + 1) = (j2 : Int) := by rw [IntKind.wrap_i64]; omega
  have e4 : decide ((j1 : Int) < 0) = false := decide_eq_false (by omega)
  have HJ : Aside0 (j1 = 2 * i + 1 ∧ j2 = 2 * i + 2) := ⟨⟨hj1, hj2⟩⟩
  clear hY hj1 hj2
  by_cases c1 : j1 < n
  ·have c1b : decide ((j1 : Int) ≥ (n : Int)) = false := decide_eq_false (by omega)
   cases gk with
   | zero => exfalso; have := HJ.out; omega
   | succ gk =>
    have hs := HS.out
    rw [shDown_succ, if_pos (by have := HJ.out; omega)] at hs
    have mLess := sh_mLess q _ _ HH.out.cell
    have mSwap := sh_mSwap q _ _ HH.out.cell
    by_cases c2 : j2 < n
    ·have c2b : decide ((j2 : Int) < (n : Int)) = true := decide_eq_true (by omega)
     cases hb1 : shLess (shGet M j2) (shGet M j1) with
     | true =>
      have hk : shKid M i n = j2 := by
       unfold shKid
       rw [← HJ.out.1, ← HJ.out.2, if_pos ⟨c2, hb1⟩]
      rw [hk] at hs
      cases hb2 : shLess (shGet M j2) (shGet M i) with
      | false =>
       rw [hb2, if_neg (by simp)] at hs
       have HZ := Aside0.mk hs
       clear hs hk
       go_wp2_with (first | (go_at_call 80; (with_reducible refine (sh_less w0 _ q g c j2 j1 M _ HH.out (by have := HL.out; have := HJ.out; omega) (by have := HL.out; have := HJ.out; omega) hb1).mono ?_); clear mLess mSwap; rintro e w_ ⟨rfl, h_, k_⟩; replace HK := Aside0.mk (HK.out.then_ k_ (fun _ h => .inl h)); replace HH := Aside0.mk h_; clear h_ k_; have mLess := sh_mLess q _ _ HH.out.cell; have mSwap := sh_mSwap q _ _ HH.out.cell; ) | (go_at_call 80; (with_reducible refine (sh_less w0 _ q g c j2 i M _ HH.out (by have := HL.out; have := HJ.out; omega) (by have := HL.out; have := HJ.out; omega) hb2).mono ?_); clear mLess mSwap; rintro e w_ ⟨rfl, h_, k_⟩; replace HK := Aside0.mk (HK.out.then_ k_ (fun _ h => .inl h)); replace HH := Aside0.mk h_; clear h_ k_; have mLess := sh_mLess q _ _ HH.out.cell; have mSwap := sh_mSwap q _ _ HH.out.cell; ))
       go_ret
       rw [← HZ.out]
       exact ⟨⟨_, rfl⟩, HH.out, HK.out⟩
      | true =>
       rw [hb2, if_pos rfl] at hs
       have HZ := Aside0.mk hs
       clear hs hk
       go_wp2_with (first | (go_at_call 80; (with_reducible refine (sh_less w0 _ q g c j2 j1 M _ HH.out (by have := HL.out; have := HJ.out; omega) (by have := HL.out; have := HJ.out; omega) hb1).mono ?_); clear mLess mSwap; rintro e w_ ⟨rfl, h_, k_⟩; replace HK := Aside0.mk (HK.out.then_ k_ (fun _ h => .inl h)); replace HH := Aside0.mk h_; clear h_ k_; have mLess := sh_mLess q _ _ HH.out.cell; have mSwap := sh_mSwap q _ _ HH.out.cell; ) | (go_at_call 80; (with_reducible refine (sh_less w0 _ q g c j2 i M _ HH.out (by have := HL.out; have := HJ.out; omega) (by have := HL.out; have := HJ.out; omega) hb2).mono ?_); clear mLess mSwap; rintro e w_ ⟨rfl, h_, k_⟩; replace HK := Aside0.mk (HK.out.then_ k_ (fun _ h => .inl h)); replace HH := Aside0.mk h_; clear h_ k_; have mLess := sh_mLess q _ _ HH.out.cell; have mSwap := sh_mSwap q _ _ HH.out.cell; ) | (go_at_call 82; (with_reducible refine (sh_swap w0 _ q g c i j2 M HH.out (by have := HL.out; have := HJ.out; omega) (by have := HL.out; have := HJ.out; omega)).mono ?_); clear mLess mSwap; rintro e w_ ⟨rfl, h_, k_⟩; replace HK := Aside0.mk (HK.out.then_ k_ (fun _ h => .inl h)); replace HH := Aside0.mk h_; clear h_ k_))
       go_roundg gk
       case measure => omega
       case rel => exact ⟨j2, shSwap M i j2, rfl, ⟨by have := HJ.out; have := HI.out; omega, by have := HL.out; omega⟩, HZ, ⟨by rw [shSwap_len]; exact HL.out⟩, HH, HK⟩
     | false =>
      have hk : shKid M i n = j1 := by
       unfold shKid
       rw [← HJ.out.1, ← HJ.out.2, hb1, if_neg (fun h => by cases h.2)]
      rw [hk] at hs
      cases hb2 : shLess (shGet M j1) (shGet M i) with
      | false =>
       rw [hb2, if_neg (by simp)] at hs
       have HZ := Aside0.mk hs
       clear hs hk
       go_wp2_with (first | (go_at_call 80; (with_reducible refine (sh_less w0 _ q g c j2 j1 M _ HH.out (by have := HL.out; have := HJ.out; omega) (by have := HL.out; have := HJ.out; omega) hb1).mono ?_); clear mLess mSwap; rintro e w_ ⟨rfl, h_, k_⟩; replace HK := Aside0.mk (HK.out.then_ k_ (fun _ h => .inl h)); replace HH := Aside0.mk h_; clear h_ k_; have mLess := sh_mLess q _ _ HH.out.cell; have mSwap := sh_mSwap q _ _ HH.out.cell; ) | (go_at_call 80; (with_reducible refine (sh_less w0 _ q g c j1 i M _ HH.out (by have := HL.out; have := HJ.out; omega) (by have := HL.out; have := HJ.out; omega) hb2).mono ?_); clear mLess mSwap; rintro e w_ ⟨rfl, h_, k_⟩; replace HK := Aside0.mk (HK.out.then_ k_ (fun _ h => .inl h)); replace HH := Aside0.mk h_; clear h_ k_; have mLess := sh_mLess q _ _ HH.out.cell; have mSwap := sh_mSwap q _ _ HH.out.cell; ))
       go_ret
       rw [← HZ.out]
       exact ⟨⟨_, rfl⟩, HH.out, HK.out⟩
      | true =>
       rw [hb2, if_pos rfl] at hs
       have HZ := Aside0.mk hs
       clear hs hk
       go_wp2_with (first | (go_at_call 80; (with_reducible refine (sh_less w0 _ q g c j2 j1 M _ HH.out (by have := HL.out; have := HJ.out; omega) (by have := HL.out; have := HJ.out; omega) hb1).mono ?_); clear mLess mSwap; rintro e w_ ⟨rfl, h_, k_⟩; replace HK := Aside0.mk (HK.out.then_ k_ (fun _ h => .inl h)); replace HH := Aside0.mk h_; clear h_ k_; have mLess := sh_mLess q _ _ HH.out.cell; have mSwap := sh_mSwap q _ _ HH.out.cell; ) | (go_at_call 80; (with_reducible refine (sh_less w0 _ q g c j1 i M _ HH.out (by have := HL.out; have := HJ.out; omega) (by have := HL.out; have := HJ.out; omega) hb2).mono ?_); clear mLess mSwap; rintro e w_ ⟨rfl, h_, k_⟩; replace HK := Aside0.mk (HK.out.then_ k_ (fun _ h => .inl h)); replace HH := Aside0.mk h_; clear h_ k_; have mLess := sh_mLess q _ _ HH.out.cell; have mSwap := sh_mSwap q _ _ HH.out.cell; ) | (go_at_call 82; (with_reducible refine (sh_swap w0 _ q g c i j1 M HH.out (by have := HL.out; have := HJ.out; omega) (by have := HL.out; have := HJ.out; omega)).mono ?_); clear mLess mSwap; rintro e w_ ⟨rfl, h_, k_⟩; replace HK := Aside0.mk (HK.out.then_ k_ (fun _ h => .inl h)); replace HH := Aside0.mk h_; clear h_ k_))
       go_roundg gk
       case measure => omega
       case rel => exact ⟨j1, shSwap M i j1, rfl, ⟨by have := HJ.out; have := HI.out; omega, by have := HL.out; omega⟩, HZ, ⟨by rw [shSwap_len]; exact HL.out⟩, HH, HK⟩
    ·have c2b : decide ((j2 : Int) < (n : Int)) = false := decide_eq_false (by omega)
     have hk : shKid M i n = j1 := by
      unfold shKid
      rw [← HJ.out.1, ← HJ.out.2, if_neg (fun h => c2 h.1)]
     rw [hk] at hs
     cases hb2 : shLess (shGet M j1) (shGet M i) with
     | false =>
      rw [hb2, if_neg (by simp)] at hs
      have HZ := Aside0.mk hs
      clear hs hk
      go_wp2_with ((go_at_call 80; (with_reducible refine (sh_less w0 _ q g c j1 i M _ HH.out (by have := HL.out; have := HJ.out; omega) (by have := HL.out; have := HJ.out; omega) hb2).mono ?_); clear mLess mSwap; rintro e w_ ⟨rfl, h_, k_⟩; replace HK := Aside0.mk (HK.out.then_ k_ (fun _ h => .inl h)); replace HH := Aside0.mk h_; clear h_ k_; have mLess := sh_mLess q _ _ HH.out.cell; have mSwap := sh_mSwap q _ _ HH.out.cell; ))
      go_ret
      rw [← HZ.out]
      exact ⟨⟨_, rfl⟩, HH.out, HK.out⟩
     | true =>
      rw [hb2, if_pos rfl] at hs
      have HZ := Aside0.mk hs
      clear hs hk
      go_wp2_with (first | (go_at_call 80; (with_reducible refine (sh_less w0 _ q g c j1 i M _ HH.out (by have := HL.out; have := HJ.out; omega) (by have := HL.out; have := HJ.out; omega) hb2).mono ?_); clear mLess mSwap; rintro e w_ ⟨rfl, h_, k_⟩; replace HK := Aside0.mk (HK.out.then_ k_ (fun _ h => .inl h)); replace HH := Aside0.mk h_; clear h_ k_; have mLess := sh_mLess q _ _ HH.out.cell; have mSwap := sh_mSwap q _ _ HH.out.cell; ) | (go_at_call 82; (with_reducible refine (sh_swap w0 _ q g c i j1 M HH.out (by have := HL.out; have := HJ.out; omega) (by have := HL.out; have := HJ.out; omega)).mono ?_); clear mLess mSwap; rintro e w_ ⟨rfl, h_, k_⟩; replace HK := Aside0.mk (HK.out.then_ k_ (fun _ h => .inl h)); replace HH := Aside0.mk h_; clear h_ k_))
      go_roundg gk
      case measure => omega
      case rel => exact ⟨j1, shSwap M i j1, rfl, ⟨by have := HJ.out; have := HI.out; omega, by have := HL.out; omega⟩, HZ, ⟨by rw [shSwap_len]; exact HL.out⟩, HH, HK⟩
  ·have c1b : decide ((j1 : Int) ≥ (n : Int)) = true := decide_eq_true (by omega)
   have hs : shDown gk M i n = M := by
    cases gk with
    | zero => rfl
    | succ gk => rw [shDown_succ, if_neg (by have := HJ.out; omega)]
   rw [HS.out] at hs
   go_wp2_with fail
   go_ret
   rw [hs]
   exact ⟨⟨_, rfl⟩, HH.out, HK.out⟩
theorem sh_swap0 (w0 W : World) (q g c b : Nat) (M : List S82) (h : ShHp w0 W q g c M) (hb : b < M.length) :
  Calls Try.prog 82 #[.slice (some ⟨g, 0, none⟩) M.length c, .int .i64 0, .int .i64 (b : Int)] W fun e w' => e = .returned (.tuple #[]) ∧ ShHp w0 w' q g c (shSwap M 0 b) ∧ Kept W w' (fun k => k = g) := sh_swap w0 W q g c 0 b M h (by omega) hb
theorem sh_down0 (w0 w : World) (q g c n d : Nat) (L : List S82) (h : ShHp w0 w q g c L) (hn : n ≤ L.length) (hd : n ≤ d) (hl : L.length < 1000000) :
  Calls Try.prog 61 #[.iface 76 (.pointer (some ⟨q, 0, none⟩)), .int .i64 0, .int .i64 (n : Int)] w fun e w' => (∃ b, e = .returned (.bool b)) ∧ ShHp w0 w' q g c (shDown d L 0 n) ∧ Kept w w' (fun k => k = g) := sh_down w0 w q g c 0 n d L h hn (by omega) hl (by omega)
set_option maxHeartbeats 4000000 in
set_option maxRecDepth 100000 in
theorem sh_init (w0 w : World) (q g c : Nat) (L : List S82) (h : ShHp w0 w q g c L) (hl : L.length < 1000000) :
  Calls Try.prog 47 #[.iface 76 (.pointer (some ⟨q, 0, none⟩))] w fun e w' => e = .returned (.tuple #[]) ∧ ShHp w0 w' q g c (shInit (L.length / 2) L) ∧ Kept w w' (fun k => k = g) := by
 have HH := Aside0.mk h
 have HK := Aside0.mk (Kept.refl w (fun k => k = g))
 have mLen := sh_mLen q _ _ h.cell
 clear h
 go_enter Try.func47, Try.ntmps47
 go_wp2_with (go_at_call 79; (with_reducible refine (sh_len w0 _ q g c L HH.out).mono ?_); rintro e w_ ⟨rfl, h_, k_⟩; replace HK := Aside0.mk (HK.out.then_ k_ (fun _ h => .inl h)); replace HH := Aside0.mk h_; clear h_ k_ mLen)
 go_loopg [3] (L.length / 2) (fun kq v3 wr => ∃ (p : Int) (M : List S82), v3 = .int .i64 p ∧ Aside0 (p = (kq : Int) - 1 ∧ kq ≤ L.length / 2) ∧ Aside0 (shInit kq M = shInit (L.length / 2) L) ∧ Aside0 (M.length = L.length) ∧ Aside0 (ShHp w0 wr q g c M) ∧ Aside0 (Kept w wr (fun k => k = g)))
 case atStart => exact ⟨_, L, rfl, ⟨by omega, by omega⟩, ⟨rfl⟩, ⟨rfl⟩, HH, HK⟩
 case round =>
  clear HH HK
  obtain ⟨p, M, rfl, HI, HS, HL, HH, HK⟩ := hrel
  cases gk with
  | zero =>
   have c1 : decide (p ≥ 0) = false := decide_eq_false (by have := HI.out; omega)
   have hs : M = shInit (L.length / 2) L := HS.out
   go_wp2_with fail
   go_end0
   rw [← hs]
   exact ⟨rfl, HH.out, HK.out⟩
  | succ gk =>
   obtain rfl : p = (gk : Int) := by have := HI.out; omega
   obtain ⟨p', hp'⟩ : ∃ p' : Int, p' = (gk : Int) - 1 := ⟨_, rfl⟩
   have e3 : IntKind.i64.wrap ((gk : Int) - 1) = p' := by rw [IntKind.wrap_i64]; have := HI.out; omega
   have HP' := Aside0.mk hp'
   clear hp'
   have c1 : decide ((gk : Int) ≥ 0) = true := decide_eq_true (by omega)
   have hs : shInit gk (shDown M.length M gk M.length) = shInit (L.length / 2) L := HS.out
   rw [HL.out] at hs
   have HZ := Aside0.mk hs
   clear hs
   go_wp2_with (go_at_call 61; (with_reducible refine (sh_down w0 _ q g c gk L.length L.length M HH.out (by have := HL.out; omega) (by omega) (by have := HL.out; omega) (by have := HI.out; omega)).mono ?_); rintro e w_ ⟨⟨b, rfl⟩, h_, k_⟩; replace HK := Aside0.mk (HK.out.then_ k_ (fun _ h => .inl h)); replace HH := Aside0.mk h_; clear h_ k_)
   go_roundg gk
   case measure => omega
   case rel => exact ⟨_, _, rfl, ⟨HP'.out, by have := HI.out; omega⟩, HZ, ⟨by rw [shDown_len]; exact HL.out⟩, HH, HK⟩
set_option maxHeartbeats 4000000 in
set_option maxRecDepth 100000 in
theorem sh_pop (w0 w : World) (q g c n : Nat) (L : List S82) (h : ShHp w0 w q g c L) (hn : L.length = n + 1) (hl : L.length < 1000000) :
  Calls Try.prog 48 #[.iface 76 (.pointer (some ⟨q, 0, none⟩))] w fun e w' => e = .returned (.iface 82 (.agg #[.int .i64 (rd_T82 (shPop L) (n : Int)).f0, .int .i64 (rd_T82 (shPop L) (n : Int)).f1])) ∧ ShHp w0 w' q g c ((shPop L).take n) ∧ Kept w w' (fun k => k = g ∨ k = q) := by
 have HH := Aside0.mk h
 have HK := Aside0.mk (Kept.refl w (fun k => k = g ∨ k = q))
 have e1 : IntKind.i64.wrap ((L.length : Int) - 1) = (n : Int) := by rw [IntKind.wrap_i64]; omega
 have HN := Aside0.mk hn
 have mLen := sh_mLen q _ _ h.cell
 have hP : shDown L.length (shSwap L 0 n) 0 n = shPop L := by unfold shPop; rw [hn]; rfl
 have HP := Aside0.mk hP
 clear hn h hP
 go_enter Try.func48, Try.ntmps48
 go_wp2_with (first | (go_at_call 79; (with_reducible refine (sh_len w0 _ q g c L HH.out).mono ?_); rintro e w_ ⟨rfl, h_, k_⟩; replace HK := Aside0.mk (HK.out.then_ k_ (fun _ h => .inl (.inl h))); replace HH := Aside0.mk h_; clear h_ k_ mLen; have mSwap := sh_mSwap q _ _ HH.out.cell) | (go_at_call 82; (with_reducible refine (sh_swap0 w0 _ q g c n L HH.out (by have := HN.out; omega)).mono ?_); rintro e w_ ⟨rfl, h_, k_⟩; replace HK := Aside0.mk (HK.out.then_ k_ (fun _ h => .inl (.inl h))); replace HH := Aside0.mk h_; clear h_ k_ mSwap) | (go_at_call 61; (with_reducible refine (sh_down0 w0 _ q g c n L.length (shSwap L 0 n) HH.out (by have := HN.out; rw [shSwap_len]; omega) (by have := HN.out; omega) (by rw [shSwap_len]; omega)).mono ?_); rintro e w_ ⟨⟨b, rfl⟩, h_, k_⟩; rw [HP.out] at h_; replace HK := Aside0.mk (HK.out.then_ k_ (fun _ h => .inl (.inl h))); replace HH := Aside0.mk h_; clear h_ k_; have mPop := sh_mPop q w_) | (go_at_call 81; (with_reducible refine (sh_popm w0 _ q g c n (shPop L) HH.out (by rw [shPop_len]; exact HN.out) (by rw [shPop_len]; omega)).mono ?_); rintro e w_ ⟨rfl, h_, k_⟩; replace HK := Aside0.mk (HK.out.then_ k_ (fun _ h => .inl h)); replace HH := Aside0.mk h_; clear h_ k_))
 go_ret
 exact ⟨rfl, HH.out, HK.out⟩
structure ShSt (w0 w : World) (q : Nat) (u v : Value) (s : List Int) (L : List S82) : Prop where
 s : Kd.R (Kd.int .i64) 3 w w0.heap.size (fun _ => True) u s
 a : w.heap[q]? = some (.cells #[v] 78 (0, 0))
 r : Kd.R k82 82 w w0.heap.size (fun _ => True) v L
 b : Below w0.heap.size w0 w
 q : w0.heap.size ≤ q
theorem ShSt.below {w0 w w' : World} {q : Nat} {u v : Value} {s : List Int} {L : List S82} (h : ShSt w0 w q u v s L) (hb : Below w.heap.size w w') : ShSt w0 w' q u v s L :=
 ⟨Kd.R_below h.s hb, (hb.block q (blk_lt h.a)).trans h.a, Kd.R_below h.r hb, below_then h.b h.b.size hb, h.q⟩
theorem ShSt.sep {w0 w : World} {q : Nat} {u v : Value} {s : List Int} {L : List S82} (h : ShSt w0 w q u v s L) : Kd.R (Kd.int .i64) 3 w w0.heap.size (fun k => k ≠ q ∧ some k ≠ v.ownBlock) u s := by
 have h1 := Kd.R_bound (Kd.R_types h.s h.a (by decide))
 refine Kd.R_mono h1 (fun k hk => ⟨hk.1.2, fun e => ?_⟩)
 obtain ⟨cells, hc⟩ := Kd.R_typed h.r k e.symm
 obtain ⟨_, _, _, t, ht, cells', hc'⟩ := hk
 rw [hc] at hc'
 injection hc' with hc'
 injection hc' with _ hc'
 subst hc'
 revert ht
 decide
theorem ShSt.kept {w0 w w' : World} {q : Nat} {u v v' : Value} {s : List Int} {L L' : List S82} (h : ShSt w0 w q u v s L) (hk : Kept w w' (fun k => some k = v.ownBlock ∨ k = q))
  (ha : w'.heap[q]? = some (.cells #[v'] 78 (0, 0))) (hr : Kd.R k82 82 w' w0.heap.size (fun _ => True) v' L') (hb : Below w0.heap.size w0 w') : ShSt w0 w' q u v' s L' :=
 ⟨Kd.R_mono (Kd.R_kept h.sep hk (fun k hk hs => by rcases hs with hs | hs; exact hk.2 hs; exact hk.1 hs)) (fun _ _ => trivial), ha, hr, hb, h.q⟩
theorem ShSt.hp {w0 w : World} {q g c : Nat} {u : Value} {s : List Int} {L : List S82} (h : ShSt w0 w q u (.slice (some ⟨g, 0, none⟩) L.length c) s L) : ShHp w0 w q g c L :=
 ⟨h.a, Kd.R_mono (Kd.R_tight rfl h.r) (fun k hk => by simpa [Value.ownBlock] using hk), h.b, h.q⟩
theorem ShSt.of_hp {w0 w w' : World} {q g c : Nat} {u : Value} {s : List Int} {L L' : List S82} (h : ShSt w0 w q u (.slice (some ⟨g, 0, none⟩) L.length c) s L) (h' : ShHp w0 w' q g c L') (hk : Kept w w' (fun k => k = g ∨ k = q)) : ShSt w0 w' q u (.slice (some ⟨g, 0, none⟩) L'.length c) s L' :=
 h.kept (hk.mono (fun k hk => by rcases hk with rfl | hk; exact .inl rfl; exact .inr hk)) h'.a (Kd.R_mono h'.r (fun _ _ => trivial)) h'.b
theorem ShSt.put {w0 w : World} {q g c : Nat} {v : Value} {s : List Int} {L : List S82} (h : ShSt w0 w q (.slice (some ⟨g, 0, none⟩) s.length c) v s L) (i : Int) (h0 : 0 ≤ i) (h1 : i < s.length) (x : Int) :
  ShSt w0 (w.setCell ⟨g, i.toNat, none⟩ (.int .i64 x)) q (.slice (some ⟨g, 0, none⟩) s.length c) v (s.set i.toNat x) L := by
 have hp := (Kd.R_putg h.s i x).1
 obtain ⟨cells, ht⟩ := Kd.R_typed h.s g rfl
 have hne : q ≠ g := fun e => by
  have := h.a
  rw [e, ht] at this
  injection this with this
  injection this with _ this
  revert this
  decide
 have hv : ∀ k, v.ownBlock = some k → k ≠ g := fun k hk e => by
  obtain ⟨cells', h2⟩ := Kd.R_typed h.r k hk
  rw [e, ht] at h2
  injection h2 with h2
  injection h2 with _ h2
  revert h2
  decide
 refine ⟨hp, (Below.heap_setCell w ⟨g, i.toNat, none⟩ _ q hne).trans h.a, ?_, h.b.setCell (p := ⟨g, i.toNat, none⟩) (Kd.R_base h.s g rfl) _, h.q⟩
 exact Kd.R_mono (Kd.R_far (p := ⟨g, i.toNat, none⟩) (Kd.R_tight rfl h.r) (fun k hk => hv k hk.symm) _) (fun _ _ => trivial)
theorem ShSt.store {w0 w : World} {q : Nat} {u v v' : Value} {s : List Int} {L : List S82} (hs : Kd.R (Kd.int .i64) 3 w w0.heap.size (fun _ => True) u s) (ha : w.heap[q]? = some (.cells #[v] 78 (0, 0)))
  (hr : Kd.R k82 82 w w0.heap.size (fun _ => True) v' L) (hb : Below w0.heap.size w0 w) (hq : w0.heap.size ≤ q) : ShSt w0 (w.setCell ⟨q, 0, none⟩ v') q u v' s L :=
 ⟨Kd.R_set hs ha (by decide) 0 v', blk_put ha 0 v' rfl, Kd.R_set hr ha (by decide) 0 v', hb.setCell (p := ⟨q, 0, none⟩) hq _, hq⟩
theorem sh_ta (I : Nat) (v : Value) (w : World) : (Instr.typeAssert (.iface 82 v) I 82 false).run Try.prog w = .ok v w := by kernel_rfl
theorem sh_info : (Try.prog.info? 82).map (fun i => (i.zero, i.size, i.bytes)) = some (some (.agg #[.int .i64 0, .int .i64 0]), 2, 16) := by kernel_rfl
def shParts (amount sum : Int) : Int → List Int → List Int → Int → List S82 → Option (List Int × Int × List S82)
 | _, [], s, m, L => some (s, m, L)
 | i, x :: xs, s, m, L => (impl_floorParts.f (wrap64 (amount * x)) sum).bind fun p => shParts amount sum (i + 1) xs (s.set i.toNat p.1) (wrap64 (m - p.1)) (L ++ [⟨i, p.2⟩])
def impl_ShareOf.f (k : Nat) (l0 : List Int) (a1 : Int) : Option (List Int × Bool) :=
 (impl_lengthsSum.f k l0).bind fun t => if t.2 = true then (impl_within.f a1 10000000).bind (fun b => if b = true then (if 0 < l0.length then if l0.length < 1000000 then (shParts a1 t.1 0 l0 (List.replicate l0.length 0) a1 []).bind (fun p => (shServe p.2.1.toNat p.1 (shInit (p.2.2.length / 2) p.2.2)).bind fun s => some (s, true)) else none else none) else some ([], false)) else some ([], false)
theorem impl_ShareOf.mono : ∀ a0 a1 k, LeO (impl_ShareOf.f k a0 a1) (impl_ShareOf.f (k + 1) a0 a1) := by
 intro a0 a1 k
 unfold impl_ShareOf.f
 exact LeO.bind (impl_lengthsSum.mono _ _) (fun _ => LeO.refl _)
set_option maxHeartbeats 8000000 in
set_option maxRecDepth 100000 in
theorem impl_ShareOf.calls (k : Nat) (A0 : Option Addr) (c0 : Nat) (l0 : List Int) (a1 : Int) (r1 : List Int) (r2 : Bool) (w : World) (hr0 : Kd.C (Kd.int .i64) w A0 l0.length l0) (hc0 : l0.length ≤ c0) (h : impl_ShareOf.f k l0 a1 = some (r1, r2)) :
  Calls Try.prog 25 #[.slice A0 l0.length c0, .int .i64 a1] w fun e w' => ∃ v0_ : Value, e = .returned (.tuple #[v0_, .bool r2]) ∧ Kd.R (Kd.int .i64) 3 w' w.heap.size (fun _ => True) v0_ r1 ∧ Below w.heap.size w w' := by
 have HR := Aside0.mk hr0
 have HC := Aside0.mk hc0
 have HD := Aside0.mk (Below.refl w.heap.size w)
 clear hr0 hc0
 unfold impl_ShareOf.f at h
 obtain ⟨⟨sum, ok⟩, hA, h⟩ := Option.bind_eq_some_iff.1 h
 have HA := Aside0.mk hA
 clear hA
 cases ok with
 | false =>
  simp only [Bool.false_eq_true, if_false, Option.some.injEq, Prod.mk.injEq] at h
  obtain ⟨rfl, rfl⟩ := h
  go_enter Try.func25, Try.ntmps25
  go_wp2_with (first | (go_at_call 32; (with_reducible refine (impl_lengthsSum.calls k A0 c0 l0 sum false _ HR.out HC.out HA.out).mono ?_); rintro e w1 ⟨rfl, hd⟩; replace HD := Aside0.mk (below_step HD.out hd.below); clear hd) | ((with_reducible refine gate_dst (N := 28) rfl ?_); refine Kd.R_lit (Kd.int .i64) _ 3 ?hg (N := 28) ?hd (xs := ([] : List Int)) (inner := []) (ok := fun _ => True) (okp := fun _ => True) ?hr ?hp (fun _ hk => hk) trivial (Below.refl _ _) (Nat.le_refl _) (by simp) ?_; (case hd => rfl); (case hg => rfl); (case hr => first | (go_simp; done) | (go_simp; rfl)); (case hp => exact (Reps.none _ _)); intro v w2 ho hb hg_ hnew_; have HO := Aside0.mk (Kd.R_lower ho HD.out.size); replace HD := Aside0.mk (below_step HD.out hb); clear ho hb hg_ hnew_))
  go_ret2
  exact ⟨_, rfl, HO.out, HD.out⟩
 | true =>
  simp only [if_true] at h
  obtain ⟨b, hB, h⟩ := Option.bind_eq_some_iff.1 h
  have HBW := Aside0.mk hB
  clear hB
  cases b with
  | false =>
   simp only [Bool.false_eq_true, if_false, Option.some.injEq, Prod.mk.injEq] at h
   obtain ⟨rfl, rfl⟩ := h
   go_enter Try.func25, Try.ntmps25
   go_wp2_with (first | (go_at_call 32; (with_reducible refine (impl_lengthsSum.calls k A0 c0 l0 sum true _ HR.out HC.out HA.out).mono ?_); rintro e w1 ⟨rfl, hd⟩; replace HD := Aside0.mk (below_step HD.out hd.below); clear hd) | (go_at_call 33; (with_reducible refine (impl_within.calls a1 10000000 false _ HBW.out).mono ?_); rintro e w1 ⟨rfl, hd⟩; replace HD := Aside0.mk (below_step HD.out hd.below); clear hd) | ((with_reducible refine gate_dst (N := 28) rfl ?_); refine Kd.R_lit (Kd.int .i64) _ 3 ?hg (N := 28) ?hd (xs := ([] : List Int)) (inner := []) (ok := fun _ => True) (okp := fun _ => True) ?hr ?hp (fun _ hk => hk) trivial (Below.refl _ _) (Nat.le_refl _) (by simp) ?_; (case hd => rfl); (case hg => rfl); (case hr => first | (go_simp; done) | (go_simp; rfl)); (case hp => exact (Reps.none _ _)); intro v w2 ho hb hg_ hnew_; have HO := Aside0.mk (Kd.R_lower ho HD.out.size); replace HD := Aside0.mk (below_step HD.out hb); clear ho hb hg_ hnew_))
   go_ret2
   exact ⟨_, rfl, HO.out, HD.out⟩
  | true =>
   simp only [if_true] at h
   split at h
   case isFalse => cases h
   rename_i hpos
   split at h
   case isFalse => cases h
   rename_i hlen
   obtain ⟨⟨p1, p2, p3⟩, hP, h⟩ := Option.bind_eq_some_iff.1 h
   obtain ⟨rs, hS, h⟩ := Option.bind_eq_some_iff.1 h
   simp only [Option.some.injEq, Prod.mk.injEq] at h
   obtain ⟨rfl, rfl⟩ := h
   have HP := Aside0.mk hP
   have HS := Aside0.mk hS
   clear hP hS
   go_enter Try.func25, Try.ntmps25
   go_wp2_with (first | (go_at_call 32; (with_reducible refine (impl_lengthsSum.calls k A0 c0 l0 sum true _ HR.out HC.out HA.out).mono ?_); rintro e w1 ⟨rfl, hd⟩; replace HD := Aside0.mk (below_step HD.out hd.below); clear hd) | (go_at_call 33; (with_reducible refine (impl_within.calls a1 10000000 true _ HBW.out).mono ?_); rintro e w1 ⟨rfl, hd⟩; replace HD := Aside0.mk (below_step HD.out hd.below); clear hd) | ((with_reducible refine gate_dst (N := 31) rfl ?_); refine Kd.R_make (Kd.int .i64) w.heap.size 3 rfl (N := 31) rfl 37 _ _ rfl (l0.length : Int) rfl rfl Try.underlying37 (.int .i64 0) 8 info3 rfl (by decide) (by omega) (0 : Int) (ok := fun _ => True) (okp := fun _ => False) rfl (fun _ h => h.elim) trivial (by omega) (by omega) HD.out HD.out.size ?_; intro u w2 ho hb hg_ hnew_; have HU := Aside0.mk ho; replace HD := Aside0.mk hb; clear ho hb hg_ hnew_) | ((with_reducible refine gate_dst (N := 32) rfl ?_); refine Kd.R_lit k82 _ 82 ?hg (N := 32) ?hd (xs := ([] : List S82)) (inner := []) (ok := fun _ => True) (okp := fun _ => True) ?hr ?hp (fun _ hk => hk) trivial (Below.refl _ _) (Nat.le_refl _) (by simp) ?_; (case hd => rfl); (case hg => rfl); (case hr => first | (go_simp; done) | (go_simp; rfl)); (case hp => exact (Reps.none _ _)); intro v w3 ho hb hg_ hnew_; replace HU := Aside0.mk (Kd.R_below HU.out hb); have HV := Aside0.mk (Kd.R_lower ho HD.out.size); replace HD := Aside0.mk (below_step HD.out hb); clear ho hb hg_ hnew_) | ((with_reducible refine gate_dst (N := 33) rfl ?_); refine box_event ?hg (N := 33) ?hd (cs := #[v]) (t := 78) ?hr ?_; (case hd => rfl); (case hg => rfl); (case hr => first | (go_simp; done) | (obtain ⟨Av, cv, ev⟩ := Kd.R_slice HV.out; subst ev; first | (go_simp; done) | (go_simp; rfl))); intro q hq w4 hbox hb; have HQ : Aside0 (ShSt w w4 q u v (List.replicate l0.length 0) []) := ⟨Kd.R_below HU.out hb, hbox, Kd.R_below HV.out hb, below_step HD.out hb, by rw [hq]; exact HD.out.size⟩; clear HU HV HD hbox hb hq))
   go_loopg [10, 37] l0.length (fun kq v10 v37 wr => ∃ (i : Nat) (ms : Int) (s : List Int) (L : List S82) (v : Value), v10 = .int .i64 ms ∧ v37 = .int .i64 (i : Int) ∧ Aside0 (i + kq = l0.length) ∧ Aside0 (s.length = l0.length) ∧ Aside0 (L.length = i ∧ (i = 0 ∨ ms ≤ 9223372036854775807)) ∧ Aside0 (shParts a1 sum (i : Int) (l0.drop i) s ms L = some (p1, p2, p3)) ∧ Aside0 (ShSt w wr q u v s L))
   case atStart => exact ⟨0, a1, _, [], v, rfl, rfl, ⟨by omega⟩, ⟨by simp⟩, ⟨rfl, .inl rfl⟩, HP, HQ⟩
   case round =>
    clear HP HQ
    obtain ⟨i, ms, s, L, v, rfl, rfl, HI, HSL, HLL, HP, HQ⟩ := hrel
    have HN := Aside0.mk hpos
    by_cases hlt : i < l0.length
    ·cases gk with
     | zero => exfalso; have := HI.out; omega
     | succ gk =>
      obtain ⟨ad, e, hx⟩ := Kd.at_int HR.out (i : Int) (by omega) (by omega)
      cases e
      replace hx := (HQ.out.b.cell (World.block_lt_of_cell? w _ hx)).trans hx
      have hrd : rd l0 (i : Int) = l0[i] := by unfold rd; simp [List.getD_eq_getElem?_getD, hlt]
      rw [hrd, Int.toNat_natCast] at hx
      have hP := HP.out
      rw [List.drop_eq_getElem_cons hlt] at hP
      generalize l0[i] = x at hx hP
      unfold shParts at hP
      obtain ⟨⟨f1, f2⟩, hF, hP⟩ := Option.bind_eq_some_iff.1 hP
      have HF := Aside0.mk hF
      replace HP := Aside0.mk hP
      clear hP hF hrd
      obtain ⟨gs, cs, eu, _, _, _⟩ := Kd.R_form HQ.out.s (by have := HSL.out; omega)
      subst eu
      have hd1 : decide ((i : Int) < (l0.length : Int)) = true := decide_eq_true (by omega)
      have hd2 : ((i : Int) < (l0.length : Int)) = True := eq_true (by omega)
      have hd3 : ((0 : Int) ≤ (i : Int)) = True := eq_true (by omega)
      have hwr : IntKind.i64.wrap ((i : Int) + 1) = ((i + 1 : Nat) : Int) := by rw [IntKind.wrap_i64]; push_cast; omega
      go_wp2_with (first | (go_at_call 46; (with_reducible refine (impl_floorParts.calls (wrap64 (a1 * x)) sum f1 f2 _ HF.out).mono ?_); rintro e w5 ⟨rfl, hd⟩; replace HQ := Aside0.mk (HQ.out.below hd.below); clear hd hx; obtain ⟨hy0, hz0⟩ := Kd.R_celln 0 HQ.out.s (i : Int) (by omega) (by have := HSL.out; omega); rw [Int.toNat_natCast] at hy0 hz0; have hsl0 : (i : Int) < (s.length : Int) := by have := HSL.out; omega) | ((with_reducible refine gate_store (t := 3) (p := 53) rfl ?_); refine store_event (t := 3) (p := 53) (v := ?vo_) (w1 := w5.setCell ⟨gs, i, none⟩ (.int .i64 f1)) ?hg ?ho ?hn ?hr ?_; (case ho => rfl); (case hg => rfl); (case hn => rfl); (case hr => first | (go_simp; done) | (go_simp; rfl)); intro w6 hw; have HQ2 := Aside0.mk (HQ.out.put (i : Int) (by omega) hsl0 f1); rw [Int.toNat_natCast, ← hw] at HQ2; clear hw hy0 hz0 hsl0 HQ; have hq0 : w6.cell? ⟨q, 0, none⟩ = some v := (blk_cell HQ2.out.a 0).trans rfl; have hqz : w6.frozen? ⟨q, 0, none⟩ = false := blk_frozen HQ2.out.a 0) | ((with_reducible refine gate_builtin (b := .append) (xs := #[.tmp 60, .tmp 64]) rfl ?_); at_builtin; refine Kd.R_append k82 (w0 := w) w.heap.size rfl (.tmp 60) (.tmp 64) 78 82 (.agg #[.int .i64 0, .int .i64 0]) 16 rfl Try.underlying78 sh_info rfl (by decide) (by omega) v L ⟨(i : Int), f2⟩ [.int .i64 (i : Int), .int .i64 f2] (fun _ => True) (fun _ => False) rfl rfl (k82_mkM _ _ _ ⟨(i : Int), f2⟩) (fun _ hk => hk.elim) (fun _ _ => trivial) HQ2.out.r HQ2.out.b HQ2.out.b.size (by have := HLL.out; omega) ?_; intro v2 w7 ho hb hg hat; have HS7 := Aside0.mk (Kd.R_over HQ2.out.s HQ2.out.r (by decide) hg); have HA7 := Aside0.mk ((hg.block q (blk_lt HQ2.out.a) (Kd.R_ne HQ2.out.r HQ2.out.a (by decide))).trans HQ2.out.a); obtain ⟨A2, c2, e2⟩ := Kd.R_slice ho; rw [List.length_append, List.length_singleton] at e2; subst e2; have HO7 := Aside0.mk ho; have HB7 := Aside0.mk hb; have HQ7 := Aside0.mk HQ2.out.q; clear ho hb hg hat HQ2 hq0 hqz; have hq0 : w7.cell? ⟨q, 0, none⟩ = some v := (blk_cell HA7.out 0).trans rfl; have hqz : w7.frozen? ⟨q, 0, none⟩ = false := blk_frozen HA7.out 0))
      go_roundg gk
      case measure => omega
      case rel => exact ⟨i + 1, _, _, _, _, rfl, by first | rfl | rw [hwr], ⟨by have := HI.out; omega⟩, ⟨by rw [List.length_set]; exact HSL.out⟩, ⟨by rw [List.length_append, HLL.out.1]; rfl, .inr (by unfold wrap64; omega)⟩, HP, ⟨ShSt.store HS7.out HA7.out HO7.out HB7.out HQ7.out⟩⟩
    ·have hie : i = l0.length := by have := HI.out; omega
     have hd1 : decide ((i : Int) < (l0.length : Int)) = false := decide_eq_false (by omega)
     have hP := HP.out
     rw [hie, List.drop_length] at hP
     have hP2 : some (s, ms, L) = some (p1, p2, p3) := hP
     simp only [Option.some.injEq, Prod.mk.injEq] at hP2
     obtain ⟨rfl, rfl, rfl⟩ := hP2
     have HIE := Aside0.mk hie
     clear hP HP hie hpos
     obtain ⟨g, c, ev, _, _, _⟩ := Kd.R_form HQ.out.r (by have := HLL.out; have := HIE.out; have := HN.out; omega)
     subst ev
     go_upto_region 16 with (go_at_call 47; (with_reducible refine (sh_init w _ q g c L HQ.out.hp (by have := HLL.out; have := HIE.out; omega)).mono ?_); rintro e w5 ⟨rfl, h_, k_⟩; have HQ2 := Aside0.mk (HQ.out.of_hp h_ (k_.mono (fun _ h => .inl h))); clear h_ k_ HQ)
     go_wp2_with fail
     go_loopg [72] ms.toNat (fun kq v72 wr => ∃ (t : Int) (s : List Int) (L : List S82), v72 = .int .i64 t ∧ Aside0 (0 ≤ t ∧ (kq : Int) = max (ms - t) 0) ∧ Aside0 (L.length < 1000000) ∧ Aside0 (s.length = l0.length) ∧ Aside0 (shServe kq s L = some rs) ∧ Aside0 (ShSt w wr q u (.slice (some ⟨g, 0, none⟩) L.length c) s L))
     case atStart => exact ⟨0, s, _, rfl, ⟨by omega, by omega⟩, ⟨by rw [shInit_len]; have := HLL.out; have := HIE.out; omega⟩, HSL, HS, HQ2⟩
     case round =>
      clear HQ2 HS h hd1 hlt
      obtain ⟨t, s, L, rfl, HT, HLM, HSL2, HS, HQ⟩ := hrel
      cases gk with
      | zero =>
       have c1 : decide (t < ms) = false := decide_eq_false (by have := HT.out; omega)
       have hS : some s = some rs := HS.out
       obtain rfl := Option.some.inj hS
       go_wp2_with fail
       go_ret2
       exact ⟨_, rfl, HQ.out.s, HQ.out.b⟩
      | succ gk =>
       have c1 : decide (t < ms) = true := decide_eq_true (by have := HT.out; omega)
       have hS := HS.out
       unfold shServe at hS
       split at hS
       case isTrue => cases hS
       rename_i hne
       obtain ⟨n, hn⟩ : ∃ n, L.length = n + 1 := ⟨L.length - 1, by have := List.length_pos_iff.2 hne; omega⟩
       rw [hn, Nat.add_sub_cancel] at hS
       obtain ⟨x, hx⟩ : ∃ x, x = rd_T82 (shPop L) (n : Int) := ⟨_, rfl⟩
       have hxg : shGet (shPop L) n = x := by rw [hx]; unfold rd_T82 shGet; rw [Int.toNat_natCast]; rfl
       rw [hxg] at hS
       split at hS
       case isFalse => cases hS
       rename_i h0
       split at hS
       case isFalse => cases hS
       rename_i h1
       have HP := Aside0.mk (sh_pop w wr q g c n L HQ.out.hp hn HLM.out)
       rw [← hx] at HP
       have HN2 := Aside0.mk hn
       have HS2 := Aside0.mk hS
       have ta := sh_ta
       obtain ⟨gs, cs, eu, hgb, hgl, _⟩ := Kd.R_form HQ.out.s (by have := HSL2.out; have := HN.out; omega)
       subst eu
       have hwt : IntKind.i64.wrap (t + 1) = t + 1 := by rw [IntKind.wrap_i64]; have := HLL.out.2; have := HT.out; have := HIE.out; have := HN.out; omega
       clear hS hx hxg hn hne
       have h0b := eq_true h0
       have h1b := eq_true h1
       go_wp2_with (first | (go_at_call 48; (with_reducible refine HP.out.mono ?_); rintro e w6 ⟨rfl, h_, k_⟩; have HQ2 := Aside0.mk (HQ.out.of_hp h_ k_); clear h_ k_ HQ HP; replace HQ2 := Aside0.mk (HQ2.out.below (below_alloc (Below.refl _ _) (.cells #[.int .i64 x.f0, .int .i64 x.f1] 82 (0, 0)))); obtain ⟨hy0, hz0⟩ := Kd.R_celln 0 HQ2.out.s x.f0 h0 h1))
       have HQ3 := Aside0.mk (HQ2.out.put x.f0 h0 h1 (wrap64 (rd s x.f0 + 1)))
       go_roundg gk
       case measure => omega
       case rel => exact ⟨t + 1, _, (shPop L).take n, by first | rfl | rw [hwt], ⟨by have := HT.out; omega, by have := HT.out; omega⟩, ⟨by rw [List.length_take, shPop_len]; have := HLM.out; omega⟩, ⟨by rw [List.length_set]; exact HSL2.out⟩, HS2, HQ3⟩
end Go.Proofs.Ytolkcbnolbkgmaa.P
-- squeezed

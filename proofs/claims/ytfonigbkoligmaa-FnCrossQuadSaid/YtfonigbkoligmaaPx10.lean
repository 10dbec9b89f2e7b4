import Derived.Test.YtfonigbkoligmaaPx0
import Derived.Test.YtfonigbkoligmaaPx2
import Derived.Test.YtfonigbkoligmaaPx3
namespace Go.Proofs.Ytfonigbkoligmaa.P
open Go.RowKit Go.Proofs.YtfonigbkoligmaaW.PrintWords Go.Proofs.YtfonigbkoligmaaW.PrintLast Go.Proofs.YtfonigbkoligmaaW.PrintMore
attribute [local go_sem] max2_int min2_int max_two min_two max_three min_three max_four min_four
set_option linter.unusedVariables false
set_option linter.unusedSimpArgs false
def cvT (X Y : Nat → Int) (n : Nat) (rd : Int) (i : Nat) : Bool := (sdP (X i) (Y i) (X ((i + 1) % n)) (Y ((i + 1) % n)) (X ((i + 2) % n)) (Y ((i + 2) % n))).1 == wrap64 (-rd)
def cvB (X Y : Nat → Int) (n : Nat) : Bool := (List.range n).all fun i => !cvT X Y n (sgI (arN X Y n n)) i
theorem cvB_yes {X Y : Nat → Int} {n : Nat} (h : ∀ i, i < n → cvT X Y n (sgI (arN X Y n n)) i = false) : cvB X Y n = true := by
 rw [cvB, List.all_eq_true]
 intro i hi
 rw [h i (List.mem_range.1 hi)]; rfl
theorem cvB_no {X Y : Nat → Int} {n i : Nat} (hi : i < n) (h : cvT X Y n (sgI (arN X Y n n)) i = true) : cvB X Y n = false := by
 rw [cvB, List.all_eq_false]
 exact ⟨i, List.mem_range.2 hi, by rw [h]; simp⟩
def impl_PolyConvex.v (l0 : List (S33)) : Bool := okB l0 && cvB (plX l0) (plY l0) l0.length
def impl_PolyConvex.f (l0 : List (S33)) : Option Bool := some (impl_PolyConvex.v l0)
def plCv7.T : Bool × List (List Nat × List Nat) := (true,[([],[]),([0],[0]),([1],[1]),([2],[2]),([],[]),([4],[4]),([5],[5]),([6],[6]),([7],[7]),([8],[8]),([9],[9]),([],[]),([11],[11]),([12],[12]),([13],[13]),([14],[14]),([15],[15]),([16],[16]),([17],[17]),([18],[18]),([19],[19]),([3,10,20],[3,10,20]),([21],[21]),([22],[22]),([22],[22]),([23,21,0,1,2,3,4,5,6,7,8,9,10,11,12,13,14,15,16,17,18,19,20,21,22,23],[23]),([24,25,0,1,2,3,4,5,6,7,8,9,10,11,12,13,14,15,16,17,18,19,20,21,22,23,24,25],[24])])
def plCv7.B : List Nat := [0,1,3,7,0,16,48,112,240,496,1008,0,2048,6144,14336,30720,63488,129024,260096,522240,1046528,2097151,4194303,8388607,8388607,16777215,67108863]
theorem plCv7.tab : rtab .any (opsOf Try.f32 7) = plCv7.T := by kernel_rfl
theorem plCv7.bits : waitsOk plCv7.T.2 plCv7.B = true := by kernel_rfl
theorem plCv7.both : rtab .any (opsOf Try.f32 7) = plCv7.T ∧ waitsOk plCv7.T.2 plCv7.B = true := ⟨plCv7.tab, plCv7.bits⟩
set_option maxHeartbeats 4000000 in
theorem convex_no (A0 : Option Addr) (c0 : Nat) (l0 : List (S33)) (w : World) (hr0 : Kd.C k33 w A0 l0.length l0) (hc0 : l0.length ≤ c0) (hv : okB l0 = false) :
  Calls Try.prog 32 #[.slice A0 l0.length c0] w fun e w' => e = .returned (.bool false) ∧ Below w.heap.size w w' := by
 have HR := Aside0.mk hr0
 have HC := Aside0.mk hc0
 have HM := Aside0.mk (Hd.nil w)
 have HV := Aside0.mk hv
 clear hr0 hv
 go_enter Try.func32, Try.ntmps32
 go_upto_region 1 with fail
 replace HM := Aside0.mk (HM.out.alloc #[.bool false] 4)
 generalize w.alloc (.cells #[.bool false] 4) = w1 at *
 generalize w.heap.size = g2 at *
 go_upto_region 2 with (go_at_call 43; have hbel := HM.out.1; (with_reducible refine (simpleOf_no A0 c0 l0 _ (Kd.C_below HR.out hbel) HC.out HV.out).mono ?_); rintro e w3 ⟨rfl, hb⟩; clear hbel; replace HM := Aside0.mk (HM.out.keep hb); clear hb)
 replace HM := Aside0.mk (HM.out.alloc #[.pointer none, .int .i64 0] 58)
 generalize w3.alloc (.cells #[.pointer none, .int .i64 0] 58) = w5 at *
 generalize w3.heap.size = g4 at *
 have r0 : w5.cell? ⟨g2, 0, none⟩ = some (.bool false) := blk_cell HM.out.a1 0
 have rf := blk_frozen HM.out.a1 0
 go_wp2_with fail
 have HZ : Hd w (w5.setCell ⟨g2, 0, none⟩ (.bool false)) _ := Hd.put (pre := [(g4, #[.pointer none, .int .i64 0], 58)]) HM.out 0 (.bool false)
 have hc := blk_cell HZ.a1 0
 refine bodyPost_ret (v := .bool false) ?_ rfl ⟨rfl, HZ.1⟩
 simp [results, (rfl : Try.f32.results = #[.cell 2 4]), go_sem, hc]
section
attribute [local go_sem] Oper.semAt_some
set_option maxHeartbeats 8000000 in
set_option maxRecDepth 100000 in
theorem convex_yes (A0 : Option Addr) (c0 : Nat) (l0 : List (S33)) (w : World) (hr0 : Kd.C k33 w A0 l0.length l0) (hc0 : l0.length ≤ c0) (hv : okB l0 = true) (b : Bool) (hb : cvB (plX l0) (plY l0) l0.length = b) :
  Calls Try.prog 32 #[.slice A0 l0.length c0] w fun e w' => e = .returned (.bool b) ∧ Below w.heap.size w w' := by
 have HR := Aside0.mk hr0
 have HC := Aside0.mk hc0
 have HM := Aside0.mk (Hd.nil w)
 have HV := Aside0.mk hv
 have HBB := Aside0.mk hb
 have hvi := vdB_iff.1 (okB_vd hv)
 have hpos : 0 < l0.length := by omega
 clear hr0 hv hb
 refine pl_enter Try.func32 rfl ?_
 simp only [Try.ntmps32, List.size_toArray, List.length_cons, List.length_nil, Nat.reduceAdd, Nat.reduceSub, Array.replicate_succ, Array.replicate_zero, List.push_toArray, List.append_toArray, List.nil_append, List.cons_append]
 go_upto_region 1 with fail
 replace HM := Aside0.mk (HM.out.alloc #[.bool false] 4)
 generalize w.alloc (.cells #[.bool false] 4) = w1 at *
 have hg2 : w.heap.size ≤ w.heap.size := Nat.le_refl _
 generalize hG2 : w.heap.size = g2 at HM hg2 ⊢
 rw [← hG2] at hg2
 go_upto_region 2 with (go_at_call 43; have hbel := HM.out.1; (with_reducible refine (simpleOf_yes A0 c0 l0 _ (Kd.C_below HR.out hbel) HC.out HV.out).mono ?_); rintro e w3 ⟨bs, rfl, hrg, hb⟩; clear hbel; replace HM := Aside0.mk (HM.out.keep hb); have HRG := Aside0.mk hrg; clear hb hrg)
 replace HM := Aside0.mk (HM.out.alloc #[.pointer (some ⟨bs 0, 0, none⟩), .int .i64 (l0.length : Int)] 58)
 replace HRG := Aside0.mk (HRG.out.nextAlloc (.cells #[.pointer (some ⟨bs 0, 0, none⟩), .int .i64 (l0.length : Int)] 58))
 generalize w3.alloc (.cells #[.pointer (some ⟨bs 0, 0, none⟩), .int .i64 (l0.length : Int)] 58) = w5 at *
 generalize w3.heap.size = g4 at *
 have k0 : w5.cell? ⟨g4, 0, none⟩ = some (.pointer (some ⟨bs 0, 0, none⟩)) := blk_cell HM.out.a0 0
 have k1 : w5.cell? ⟨g4, 1, none⟩ = some (.int .i64 (l0.length : Int)) := blk_cell HM.out.a0 1
 go_upto_region 5 with (first | (go_at_call 38; (with_reducible refine (area_calls l0.length bs (plX l0) (plY l0) _ (by omega) HRG.out).mono ?_); rintro e w6 ⟨rfl, hb⟩; replace HRG := Aside0.mk (HRG.out.next hb); replace HM := Aside0.mk (HM.out.keep hb); clear hb k0 k1; have k0 : w6.cell? ⟨g4, 0, none⟩ = some (.pointer (some ⟨bs 0, 0, none⟩)) := blk_cell HM.out.a0 0; have k1 : w6.cell? ⟨g4, 1, none⟩ = some (.int .i64 (l0.length : Int)) := blk_cell HM.out.a0 1) | (go_at_call 64; (with_reducible refine (impl_signInt.calls _ _ _ (sgI_f _)).mono ?_); rintro e w7 ⟨rfl, hd⟩; have hb := hd.below; clear hd; replace HRG := Aside0.mk (HRG.out.next hb); replace HM := Aside0.mk (HM.out.keep hb); clear hb k0 k1))
 generalize hwd : w7 = wb at *
 have HB := Aside0.mk HM.out.1
 have hb0 := HB.out.size
 have h4a := HM.out.a0
 have h2a := HM.out.a1
 have HB4 := Aside0.mk h4a
 have HB2 := Aside0.mk h2a
 clear HM hwd h4a h2a
 have hrd : Aside0 (sgI (arN (plX l0) (plY l0) l0.length l0.length) = sgI (arN (plX l0) (plY l0) l0.length l0.length)) := ⟨rfl⟩
 generalize hrdd : sgI (arN (plX l0) (plY l0) l0.length l0.length) = rd at *
 have HRD := Aside0.mk hrdd
 clear hrdd hrd
 have HM := Aside0.mk ((Hd.nil wb).alloc #[.int .i64 rd] 3)
 generalize hgs0 : wb.heap.size = gs at *
 generalize wb.alloc (.cells #[.int .i64 rd] 3) = w2 at *
 have hM1 := HM.out.1
 rw [hgs0] at hM1
 have HP := HRG
 clear HRG
 have HRP := Aside0.mk (HP.out.below hM1)
 have hlt2 := blk_lt HB2.out
 have hlt4 := blk_lt HB4.out
 rw [hgs0] at hlt2 hlt4
 have x0 : w2.cell? ⟨g4, 0, none⟩ = some (.pointer (some ⟨bs 0, 0, none⟩)) := blk_cell ((hM1.block _ hlt4).trans HB4.out) 0
 have x1 : w2.cell? ⟨g4, 1, none⟩ = some (.int .i64 (l0.length : Int)) := blk_cell ((hM1.block _ hlt4).trans HB4.out) 1
 go_wp2_with fail
 clear x0 x1
 have hw2 : gs ≤ w2.heap.size := by have := hM1.size; omega
 have hgs2 : gs < w2.heap.size := blk_lt HM.out.a0
 refine pl_range (gf := 46) rfl (fun args w => enters_ Try.func46 (by kernel_rfl) rfl args w) gs l0.length hw2 _ (corners_walks gs l0.length bs (plX l0) (plY l0) w2 (by omega) hw2 HRP.out)
  (fun i W => (W.heap[gs]? = some (.cells #[.int .i64 rd] 3 (0, 0)) ∧ W.heap[g2]? = some (.cells #[.bool false] 4 (0, 0))) ∧ Below gs wb W ∧ ∀ i', i' < i → cvT (plX l0) (plY l0) l0.length rd i' = false)
  (fun i W => W.heap[g2]? = some (.cells #[.bool false] 4 (0, 0)) ∧ Below w.heap.size w W ∧ b = false)
  (OwnFrom.and (OwnFrom.and (own_block (fun _ => rfl)) (own_block (fun _ => rfl))) (OwnFrom.and (ownFrom_below (by omega) hw2) (ownFrom_pure _ _)))
  (OwnFrom.and (own_block (fun _ => rfl)) (OwnFrom.and (ownFrom_below (Nat.le_refl _) (by omega)) (ownFrom_pure _ _))) ⟨⟨HM.out.a0, (hM1.block _ hlt2).trans HB2.out⟩, hM1, fun _ h => absurd h (Nat.not_lt_zero _)⟩ (fun i => { tmps := #[.slice A0 l0.length c0, undef, .pointer (some ⟨g2, 0, none⟩), .pointer (some ⟨g4, 0, none⟩), .bool true, .pointer (some ⟨gs, 0, none⟩), .pointer (some ⟨bs i, 0, none⟩), undef, undef, .tuple #[.agg #[.pointer (some ⟨bs 0, 0, none⟩), .int .i64 (l0.length : Int)], .bool true], .slice A0 l0.length c0, .tuple #[.agg #[.pointer (some ⟨bs 0, 0, none⟩), .int .i64 (l0.length : Int)], .bool true], .agg #[.pointer (some ⟨bs 0, 0, none⟩), .int .i64 (l0.length : Int)], .bool true, .bool true, .bool false, .agg #[.pointer (some ⟨bs 0, 0, none⟩), .int .i64 (l0.length : Int)], .int .i64 (arN (plX l0) (plY l0) l0.length l0.length), .int .i64 rd, .agg #[.pointer (some ⟨bs 0, 0, none⟩), .int .i64 (l0.length : Int)], .func (.func 46) #[.agg #[.pointer (some ⟨bs 0, 0, none⟩), .int .i64 (l0.length : Int)]] #[], .pointer (some ⟨bs i, 0, none⟩), undef, undef, undef, undef, undef, undef, undef, undef, undef, undef, undef, undef, undef, undef, undef, undef, undef, undef, undef, undef, undef, undef, undef, undef, undef, undef, undef, undef, undef], defers := [] }) ?_ ?_ ?_ ?_
 ·intro l i W K hK
  exact pl_assign hK
 ·rintro l i W hi ⟨⟨hS, hS2⟩, hBW, hP⟩
  have HPP := Aside0.mk hP
  have hi1 : (i + 1) % l0.length < l0.length := Nat.mod_lt _ hpos
  have hi2 : (i + 2) % l0.length < l0.length := Nat.mod_lt _ hpos
  have HRW := Aside0.mk (HP.out.below hBW)
  have H2 := Aside0.mk hS2
  have HK : Aside0 (Rd wb W W w2.heap.size gs (.cells #[.int .i64 rd] 3 (0, 0))) := ⟨⟨hS, by rw [hgs0]; exact hBW, Below.refl _ _, KeepsFrom.refl _ _⟩⟩
  have hWs := hBW.size
  clear hS hS2 hBW hP HM hM1
  gi_wp2
  have hdb : Below gs W W.drew := (below_drew1 (Below.refl _ W)).mono (Nat.le_trans (Nat.le_of_eq hgs0.symm) hWs)
  replace HRW := Aside0.mk (HRW.out.below hdb)
  replace H2 := Aside0.mk (blk_drew H2.out)
  replace HK := Aside0.mk HK.out.drew
  clear hdb
  refine pl_start (S := fun w' => w'.cell? ⟨bs i, 0, none⟩ = some (.int .i64 (plX l0 i)) ∧ w'.cell? ⟨bs i, 1, none⟩ = some (.int .i64 (plY l0 i)) ∧ w'.cell? ⟨bs i, 2, none⟩ = some (.pointer (some ⟨bs ((i + 1) % l0.length), 0, none⟩)) ∧ w'.cell? ⟨bs ((i + 1) % l0.length), 0, none⟩ = some (.int .i64 (plX l0 ((i + 1) % l0.length))) ∧ w'.cell? ⟨bs ((i + 1) % l0.length), 1, none⟩ = some (.int .i64 (plY l0 ((i + 1) % l0.length))) ∧ w'.cell? ⟨bs ((i + 1) % l0.length), 2, none⟩ = some (.pointer (some ⟨bs ((i + 2) % l0.length), 0, none⟩)) ∧ w'.cell? ⟨bs ((i + 2) % l0.length), 0, none⟩ = some (.int .i64 (plX l0 ((i + 2) % l0.length))) ∧ w'.cell? ⟨bs ((i + 2) % l0.length), 1, none⟩ = some (.int .i64 (plY l0 ((i + 2) % l0.length)))) (ds := []) #[false,false,false,false,false,false,false,false,false,false,false,false,false,false,false,false,false,false,false,false,false,false,false,false,false,false,false] (by kernel_rfl) (noDefer_all (by kernel_rfl)) (fun ⟨_, _, h⟩ => h) rfl rfl ⟨(blk_cell (HRW.out.cell _ hi) 0).trans rfl, (blk_cell (HRW.out.cell _ hi) 1).trans rfl, (blk_cell (HRW.out.cell _ hi) 2).trans rfl, (blk_cell (HRW.out.cell _ hi1) 0).trans rfl, (blk_cell (HRW.out.cell _ hi1) 1).trans rfl, (blk_cell (HRW.out.cell _ hi1) 2).trans (by rw [next_mod]; rfl), (blk_cell (HRW.out.cell _ hi2) 0).trans rfl, (blk_cell (HRW.out.cell _ hi2) 1).trans rfl⟩ (fun hHeld => ?_)
  refine with_tabW plCv7.both.1 plCv7.both.2 (fun HT_ HW_ => ?_)
  generalize W.drew = wd at HK HRW H2 hHeld ⊢
  refine pure_ (i := 0) (N := some 23) (v := ?_) (a' := ?_) #[true,false,false,false,false,false,false,false,false,false,false,false,false,false,false,false,false,false,false,false,false,false,false,false,false,false,false] rfl rfl (any_of HT_.out (by kernel_rfl)) (fun _ _ _ h => h) (Or.inl ⟨by rfl, ?_⟩) ?_ ?_
  rotate_left
  ·intro w'
   go_simp
   with_reducible rfl
  rotate_left
  ·simp only [Act.put, List.setIfInBounds_toArray, List.set_cons_zero, List.set_cons_succ, i64_w, i32_w]
   rfl
  refine pure_ (i := 1) (N := some 24) (v := ?_) (a' := ?_) #[true,true,false,false,false,false,false,false,false,false,false,false,false,false,false,false,false,false,false,false,false,false,false,false,false,false,false] rfl rfl (any_of HT_.out (by kernel_rfl)) (fun _ _ _ h => h) (Or.inl ⟨by rfl, ?_⟩) ?_ ?_
  rotate_left
  ·intro w'
   go_simp
   with_reducible rfl
  rotate_left
  ·simp only [Act.put, List.setIfInBounds_toArray, List.set_cons_zero, List.set_cons_succ, i64_w, i32_w]
   rfl
  refine pure_ (i := 2) (N := some 25) (v := ?_) (a' := ?_) #[true,true,true,false,false,false,false,false,false,false,false,false,false,false,false,false,false,false,false,false,false,false,false,false,false,false,false] rfl rfl (any_of HT_.out (by kernel_rfl)) (fun _ _ _ h => h) (Or.inl ⟨by rfl, ?_⟩) ?_ ?_
  rotate_left
  ·intro w'
   go_simp
   with_reducible rfl
  rotate_left
  ·simp only [Act.put, List.setIfInBounds_toArray, List.set_cons_zero, List.set_cons_succ, i64_w, i32_w]
   rfl
  refine take_ (i := 3) (N := some 26) (v := ?_) (a' := ?_) #[true,true,true,true,false,false,false,false,false,false,false,false,false,false,false,false,false,false,false,false,false,false,false,false,false,false,false] rfl rfl (take_ofW HT_.out HW_.out (by kernel_rfl)) (fun _ _ _ h => h) (Or.inl ⟨by rfl, ?_⟩) hHeld ?_ ?_
  rotate_left
  ·rintro w' ⟨s0, s1, s2, s3, s4, s5, s6, s7⟩
   go_simp
   with_reducible rfl
  rotate_left
  ·simp only [Act.put, List.setIfInBounds_toArray, List.set_cons_zero, List.set_cons_succ, i64_w, i32_w]
   rfl
  refine pure_ (i := 4) (N := some 27) (v := ?_) (a' := ?_) #[true,true,true,true,true,false,false,false,false,false,false,false,false,false,false,false,false,false,false,false,false,false,false,false,false,false,false] rfl rfl (any_of HT_.out (by kernel_rfl)) (fun _ _ _ h => h) (Or.inl ⟨by rfl, ?_⟩) ?_ ?_
  rotate_left
  ·intro w'
   go_simp
   with_reducible rfl
  rotate_left
  ·simp only [Act.put, List.setIfInBounds_toArray, List.set_cons_zero, List.set_cons_succ, i64_w, i32_w]
   rfl
  refine pure_ (i := 5) (N := some 28) (v := ?_) (a' := ?_) #[true,true,true,true,true,true,false,false,false,false,false,false,false,false,false,false,false,false,false,false,false,false,false,false,false,false,false] rfl rfl (any_of HT_.out (by kernel_rfl)) (fun _ _ _ h => h) (Or.inl ⟨by rfl, ?_⟩) ?_ ?_
  rotate_left
  ·intro w'
   go_simp
   with_reducible rfl
  rotate_left
  ·simp only [Act.put, List.setIfInBounds_toArray, List.set_cons_zero, List.set_cons_succ, i64_w, i32_w]
   rfl
  refine pure_ (i := 6) (N := some 29) (v := ?_) (a' := ?_) #[true,true,true,true,true,true,true,false,false,false,false,false,false,false,false,false,false,false,false,false,false,false,false,false,false,false,false] rfl rfl (any_of HT_.out (by kernel_rfl)) (fun _ _ _ h => h) (Or.inl ⟨by rfl, ?_⟩) ?_ ?_
  rotate_left
  ·intro w'
   go_simp
   with_reducible rfl
  rotate_left
  ·simp only [Act.put, List.setIfInBounds_toArray, List.set_cons_zero, List.set_cons_succ, i64_w, i32_w]
   rfl
  refine take_ (i := 7) (N := some 30) (v := ?_) (a' := ?_) #[true,true,true,true,true,true,true,true,false,false,false,false,false,false,false,false,false,false,false,false,false,false,false,false,false,false,false] rfl rfl (take_ofW HT_.out HW_.out (by kernel_rfl)) (fun _ _ _ h => h) (Or.inl ⟨by rfl, ?_⟩) hHeld ?_ ?_
  rotate_left
  ·rintro w' ⟨s0, s1, s2, s3, s4, s5, s6, s7⟩
   go_simp
   with_reducible rfl
  rotate_left
  ·simp only [Act.put, List.setIfInBounds_toArray, List.set_cons_zero, List.set_cons_succ, i64_w, i32_w]
   rfl
  refine pure_ (i := 8) (N := some 31) (v := ?_) (a' := ?_) #[true,true,true,true,true,true,true,true,true,false,false,false,false,false,false,false,false,false,false,false,false,false,false,false,false,false,false] rfl rfl (any_of HT_.out (by kernel_rfl)) (fun _ _ _ h => h) (Or.inl ⟨by rfl, ?_⟩) ?_ ?_
  rotate_left
  ·intro w'
   go_simp
   with_reducible rfl
  rotate_left
  ·simp only [Act.put, List.setIfInBounds_toArray, List.set_cons_zero, List.set_cons_succ, i64_w, i32_w]
   rfl
  refine pure_ (i := 9) (N := some 32) (v := ?_) (a' := ?_) #[true,true,true,true,true,true,true,true,true,true,false,false,false,false,false,false,false,false,false,false,false,false,false,false,false,false,false] rfl rfl (any_of HT_.out (by kernel_rfl)) (fun _ _ _ h => h) (Or.inl ⟨by rfl, ?_⟩) ?_ ?_
  rotate_left
  ·intro w'
   go_simp
   with_reducible rfl
  rotate_left
  ·simp only [Act.put, List.setIfInBounds_toArray, List.set_cons_zero, List.set_cons_succ, i64_w, i32_w]
   rfl
  refine take_ (i := 10) (N := some 33) (v := ?_) (a' := ?_) #[true,true,true,true,true,true,true,true,true,true,true,false,false,false,false,false,false,false,false,false,false,false,false,false,false,false,false] rfl rfl (take_ofW HT_.out HW_.out (by kernel_rfl)) (fun _ _ _ h => h) (Or.inl ⟨by rfl, ?_⟩) hHeld ?_ ?_
  rotate_left
  ·rintro w' ⟨s0, s1, s2, s3, s4, s5, s6, s7⟩
   go_simp
   with_reducible rfl
  rotate_left
  ·simp only [Act.put, List.setIfInBounds_toArray, List.set_cons_zero, List.set_cons_succ, i64_w, i32_w]
   rfl
  refine pure_ (i := 11) (N := some 34) (v := ?_) (a' := ?_) #[true,true,true,true,true,true,true,true,true,true,true,true,false,false,false,false,false,false,false,false,false,false,false,false,false,false,false] rfl rfl (any_of HT_.out (by kernel_rfl)) (fun _ _ _ h => h) (Or.inl ⟨by rfl, ?_⟩) ?_ ?_
  rotate_left
  ·intro w'
   go_simp
   with_reducible rfl
  rotate_left
  ·simp only [Act.put, List.setIfInBounds_toArray, List.set_cons_zero, List.set_cons_succ, i64_w, i32_w]
   rfl
  refine pure_ (i := 12) (N := some 35) (v := ?_) (a' := ?_) #[true,true,true,true,true,true,true,true,true,true,true,true,true,false,false,false,false,false,false,false,false,false,false,false,false,false,false] rfl rfl (any_of HT_.out (by kernel_rfl)) (fun _ _ _ h => h) (Or.inl ⟨by rfl, ?_⟩) ?_ ?_
  rotate_left
  ·intro w'
   go_simp
   with_reducible rfl
  rotate_left
  ·simp only [Act.put, List.setIfInBounds_toArray, List.set_cons_zero, List.set_cons_succ, i64_w, i32_w]
   rfl
  refine pure_ (i := 13) (N := some 36) (v := ?_) (a' := ?_) #[true,true,true,true,true,true,true,true,true,true,true,true,true,true,false,false,false,false,false,false,false,false,false,false,false,false,false] rfl rfl (any_of HT_.out (by kernel_rfl)) (fun _ _ _ h => h) (Or.inl ⟨by rfl, ?_⟩) ?_ ?_
  rotate_left
  ·intro w'
   go_simp
   with_reducible rfl
  rotate_left
  ·simp only [Act.put, List.setIfInBounds_toArray, List.set_cons_zero, List.set_cons_succ, i64_w, i32_w]
   rfl
  refine take_ (i := 14) (N := some 37) (v := ?_) (a' := ?_) #[true,true,true,true,true,true,true,true,true,true,true,true,true,true,true,false,false,false,false,false,false,false,false,false,false,false,false] rfl rfl (take_ofW HT_.out HW_.out (by kernel_rfl)) (fun _ _ _ h => h) (Or.inl ⟨by rfl, ?_⟩) hHeld ?_ ?_
  rotate_left
  ·rintro w' ⟨s0, s1, s2, s3, s4, s5, s6, s7⟩
   go_simp
   with_reducible rfl
  rotate_left
  ·simp only [Act.put, List.setIfInBounds_toArray, List.set_cons_zero, List.set_cons_succ, i64_w, i32_w]
   rfl
  refine pure_ (i := 15) (N := some 38) (v := ?_) (a' := ?_) #[true,true,true,true,true,true,true,true,true,true,true,true,true,true,true,true,false,false,false,false,false,false,false,false,false,false,false] rfl rfl (any_of HT_.out (by kernel_rfl)) (fun _ _ _ h => h) (Or.inl ⟨by rfl, ?_⟩) ?_ ?_
  rotate_left
  ·intro w'
   go_simp
   with_reducible rfl
  rotate_left
  ·simp only [Act.put, List.setIfInBounds_toArray, List.set_cons_zero, List.set_cons_succ, i64_w, i32_w]
   rfl
  refine pure_ (i := 16) (N := some 39) (v := ?_) (a' := ?_) #[true,true,true,true,true,true,true,true,true,true,true,true,true,true,true,true,true,false,false,false,false,false,false,false,false,false,false] rfl rfl (any_of HT_.out (by kernel_rfl)) (fun _ _ _ h => h) (Or.inl ⟨by rfl, ?_⟩) ?_ ?_
  rotate_left
  ·intro w'
   go_simp
   with_reducible rfl
  rotate_left
  ·simp only [Act.put, List.setIfInBounds_toArray, List.set_cons_zero, List.set_cons_succ, i64_w, i32_w]
   rfl
  refine take_ (i := 17) (N := some 40) (v := ?_) (a' := ?_) #[true,true,true,true,true,true,true,true,true,true,true,true,true,true,true,true,true,true,false,false,false,false,false,false,false,false,false] rfl rfl (take_ofW HT_.out HW_.out (by kernel_rfl)) (fun _ _ _ h => h) (Or.inl ⟨by rfl, ?_⟩) hHeld ?_ ?_
  rotate_left
  ·rintro w' ⟨s0, s1, s2, s3, s4, s5, s6, s7⟩
   go_simp
   with_reducible rfl
  rotate_left
  ·simp only [Act.put, List.setIfInBounds_toArray, List.set_cons_zero, List.set_cons_succ, i64_w, i32_w]
   rfl
  refine pure_ (i := 18) (N := some 41) (v := ?_) (a' := ?_) #[true,true,true,true,true,true,true,true,true,true,true,true,true,true,true,true,true,true,true,false,false,false,false,false,false,false,false] rfl rfl (any_of HT_.out (by kernel_rfl)) (fun _ _ _ h => h) (Or.inl ⟨by rfl, ?_⟩) ?_ ?_
  rotate_left
  ·intro w'
   go_simp
   with_reducible rfl
  rotate_left
  ·simp only [Act.put, List.setIfInBounds_toArray, List.set_cons_zero, List.set_cons_succ, i64_w, i32_w]
   rfl
  refine pure_ (i := 19) (N := some 42) (v := ?_) (a' := ?_) #[true,true,true,true,true,true,true,true,true,true,true,true,true,true,true,true,true,true,true,true,false,false,false,false,false,false,false] rfl rfl (any_of HT_.out (by kernel_rfl)) (fun _ _ _ h => h) (Or.inl ⟨by rfl, ?_⟩) ?_ ?_
  rotate_left
  ·intro w'
   go_simp
   with_reducible rfl
  rotate_left
  ·simp only [Act.put, List.setIfInBounds_toArray, List.set_cons_zero, List.set_cons_succ, i64_w, i32_w]
   rfl
  refine take_ (i := 20) (N := some 43) (v := ?_) (a' := ?_) #[true,true,true,true,true,true,true,true,true,true,true,true,true,true,true,true,true,true,true,true,true,false,false,false,false,false,false] rfl rfl (take_ofW HT_.out HW_.out (by kernel_rfl)) (fun _ _ _ h => h) (Or.inl ⟨by rfl, ?_⟩) hHeld ?_ ?_
  rotate_left
  ·rintro w' ⟨s0, s1, s2, s3, s4, s5, s6, s7⟩
   go_simp
   with_reducible rfl
  rotate_left
  ·simp only [Act.put, List.setIfInBounds_toArray, List.set_cons_zero, List.set_cons_succ, i64_w, i32_w]
   rfl
  refine one_ (i := 21) (N := some 44) #[true,true,true,true,true,true,true,true,true,true,true,true,true,true,true,true,true,true,true,true,true,true,false,false,false,false,false] rfl rfl (one_of HT_.out (by kernel_rfl)) (by decide) (fun K hK => ?_)
  refine goes_ Try.func54 (by kernel_rfl) rfl #[.agg #[.int .i64 (plX l0 i), .int .i64 (plY l0 i)], .agg #[.int .i64 (plX l0 ((i + 1) % l0.length)), .int .i64 (plY l0 ((i + 1) % l0.length))], .agg #[.int .i64 (plX l0 ((i + 2) % l0.length)), .int .i64 (plY l0 ((i + 2) % l0.length))]] (by rfl) rfl rfl al ?_
  have hsz : gs ≤ wd.heap.size := by have := HK.out.2.1.size; omega
  with_reducible refine (impl_PointSide.calls (plX l0 i) (plY l0 i) (plX l0 ((i + 1) % l0.length)) (plY l0 ((i + 1) % l0.length)) (plX l0 ((i + 2) % l0.length)) (plY l0 ((i + 2) % l0.length)) (sdP (plX l0 i) (plY l0 i) (plX l0 ((i + 1) % l0.length)) (plY l0 ((i + 1) % l0.length)) (plX l0 ((i + 2) % l0.length)) (plY l0 ((i + 2) % l0.length))).1 (sdP (plX l0 i) (plY l0 i) (plX l0 ((i + 1) % l0.length)) (plY l0 ((i + 1) % l0.length)) (plX l0 ((i + 2) % l0.length)) (plY l0 ((i + 2) % l0.length))).2 _ rfl).mono ?_
  rintro e w_ ⟨rfl, hb⟩
  refine ⟨_, rfl, ?_⟩
  replace HRW := Aside0.mk (HRW.out.below (hb.mono hsz))
  replace H2 := Aside0.mk (blk_below H2.out hb)
  replace HK := Aside0.mk (HK.out.keep hb)
  clear hb hsz
  refine hK.out _ _ ⟨(blk_cell (HRW.out.cell _ hi) 0).trans rfl, (blk_cell (HRW.out.cell _ hi) 1).trans rfl, (blk_cell (HRW.out.cell _ hi) 2).trans rfl, (blk_cell (HRW.out.cell _ hi1) 0).trans rfl, (blk_cell (HRW.out.cell _ hi1) 1).trans rfl, (blk_cell (HRW.out.cell _ hi1) 2).trans (by rw [next_mod]; rfl), (blk_cell (HRW.out.cell _ hi2) 0).trans rfl, (blk_cell (HRW.out.cell _ hi2) 1).trans rfl⟩ (fun hHeld => ?_)
  clear hK K
  refine norm_ (a' := ?_) ?_ ?_
  rotate_left
  ·show Act.put _ (some 44) _ = _
   simp only [Act.put, List.setIfInBounds_toArray, List.set_cons_zero, List.set_cons_succ, i64_w, i32_w]
   rfl
  refine pure_ (i := 22) (N := some 22) (v := ?_) (a' := ?_) #[true,true,true,true,true,true,true,true,true,true,true,true,true,true,true,true,true,true,true,true,true,true,true,false,false,false,false] rfl rfl (any_of HT_.out (by kernel_rfl)) (fun _ _ _ h => h) (Or.inl ⟨by rfl, ?_⟩) ?_ ?_
  rotate_left
  ·intro w'
   go_simp
   with_reducible rfl
  rotate_left
  ·simp only [Act.put, List.setIfInBounds_toArray, List.set_cons_zero, List.set_cons_succ, i64_w, i32_w]
   rfl
  refine pure_ (i := 23) (N := some 45) (v := ?_) (a' := ?_) #[true,true,true,true,true,true,true,true,true,true,true,true,true,true,true,true,true,true,true,true,true,true,true,true,false,false,false] rfl rfl (any_of HT_.out (by kernel_rfl)) (fun _ _ _ h => h) (Or.inl ⟨by rfl, ?_⟩) ?_ ?_
  rotate_left
  ·intro w'
   go_simp
   with_reducible rfl
  rotate_left
  ·simp only [Act.put, List.setIfInBounds_toArray, List.set_cons_zero, List.set_cons_succ, i64_w, i32_w]
   rfl
  refine pure_ (i := 24) (N := some 46) (v := ?_) (a' := ?_) #[true,true,true,true,true,true,true,true,true,true,true,true,true,true,true,true,true,true,true,true,true,true,true,true,true,false,false] rfl rfl (any_of HT_.out (by kernel_rfl)) (fun _ _ _ h => h) (Or.inl ⟨by rfl, ?_⟩) ?_ ?_
  rotate_left
  ·intro w'
   go_simp
   with_reducible rfl
  rotate_left
  ·simp only [Act.put, List.setIfInBounds_toArray, List.set_cons_zero, List.set_cons_succ, i64_w, i32_w]
   rfl
  refine pure_ (i := 25) (N := some 7) (v := ?_) (a' := ?_) #[true,true,true,true,true,true,true,true,true,true,true,true,true,true,true,true,true,true,true,true,true,true,true,true,true,true,false] rfl rfl (any_of HT_.out (by kernel_rfl)) (fun _ _ _ h => h) (Or.inl ⟨by rfl, ?_⟩) ?_ ?_
  rotate_left
  ·intro w'
   go_simp
   with_reducible rfl
  rotate_left
  ·simp only [Act.put, List.setIfInBounds_toArray, List.set_cons_zero, List.set_cons_succ, i64_w, i32_w]
   rfl
  refine pure_ (i := 26) (N := some 8) (v := ?_) (a' := ?_) #[true,true,true,true,true,true,true,true,true,true,true,true,true,true,true,true,true,true,true,true,true,true,true,true,true,true,true] rfl rfl (any_of HT_.out (by kernel_rfl)) (fun _ _ _ h => h) (Or.inl ⟨by rfl, ?_⟩) ?_ ?_
  rotate_left
  ·intro w'
   go_simp
   with_reducible rfl
  rotate_left
  ·simp only [Act.put, List.setIfInBounds_toArray, List.set_cons_zero, List.set_cons_succ, i64_w, i32_w]
   rfl
  refine done_ (done_of HT_.out (by kernel_rfl)) ?_
  have HCT : Aside0 (((sdP (plX l0 i) (plY l0 i) (plX l0 ((i + 1) % l0.length)) (plY l0 ((i + 1) % l0.length)) (plX l0 ((i + 2) % l0.length)) (plY l0 ((i + 2) % l0.length))).1 == wrap64 (-rd)) = cvT (plX l0) (plY l0) l0.length rd i) := ⟨rfl⟩
  generalize sdP (plX l0 i) (plY l0 i) (plX l0 ((i + 1) % l0.length)) (plY l0 ((i + 1) % l0.length)) (plX l0 ((i + 2) % l0.length)) (plY l0 ((i + 2) % l0.length)) = sd at HCT ⊢
  obtain ⟨sd, okk⟩ := sd
  have q0 : w_.cell? ⟨gs, 0, none⟩ = some (.int .i64 rd) := blk_cell HK.out.1 0
  have r0 : w_.cell? ⟨g2, 0, none⟩ = some (.bool false) := blk_cell H2.out 0
  have rf := blk_frozen H2.out 0
  cases hcm : cvT (plX l0) (plY l0) l0.length rd i with
  | true =>
   rw [hcm] at HCT
   have hq1 : sd = wrap64 (-rd) := by simpa using HCT.out
   subst hq1
   gi_wp2
   have h1 := HK.out.2.1
   refine ⟨keeps_put HK.out.2.2.2 H2.out 0 _, blk_put H2.out 0 (.bool false) rfl, by rw [← hG2]; exact (HB.out.trans (h1.mono (by omega))).setCell (p := ⟨w.heap.size, 0, none⟩) (Nat.le_refl _) _, ?_⟩
   rw [← HBB.out]
   exact cvB_no hi (by rw [HRD.out]; exact hcm)
  | false =>
   rw [hcm] at HCT
   have hq1 : (sd == wrap64 (-rd)) = false := HCT.out
   have hq2 : ¬ sd = wrap64 (-rd) := by simpa using hq1
   gi_wp2
   have h1 := HK.out.2.1
   have h2 := HK.out.2.2.1
   rw [hgs0] at h1 h2
   refine ⟨HK.out.2.2.2, h2, ⟨HK.out.1, H2.out⟩, h1, fun i' h3 => ?_⟩
   by_cases e : i' = i
   ·subst e; exact hcm
   ·exact HPP.out i' (by omega)
 ·rintro D W hD ⟨⟨hS, hS2⟩, hBW, hP⟩ hdef
  have r0 : W.cell? ⟨g2, 0, none⟩ = some (.bool false) := blk_cell hS2 0
  have rf := blk_frozen hS2 0
  have hbt : b = true := by rw [← HBB.out]; exact cvB_yes (fun i hi => by rw [HRD.out]; exact hP i hi)
  have HS2 := Aside0.mk hS2
  have HB2 := Aside0.mk (HB.out.trans (hBW.mono hb0))
  have HD2 := Aside0.mk hdef
  clear hS hS2 hBW hP hdef
  go_wp2_with fail
  have hne2 : g2 ≠ D := by omega
  have e1 := blk_put HS2.out 0 (.bool true) rfl
  have e3 := (Below.heap_setCell W ⟨g2, 0, none⟩ (.bool true) D (show D ≠ g2 by omega)).trans HD2.out
  refine pl_leave e3 ?_
  have hput := (World.putObj_heap_other (o := .deferred none) hne2).trans e1
  have hc := blk_cell hput 0
  have f1 := belowK_b (w := w) (Nat.le_refl _) _ D _ (.deferred none) (by omega) e3 rfl rfl
  refine ⟨.bool true, ?_, ?_, (HB2.out.setCell (p := ⟨g2, 0, none⟩) (by show w.heap.size ≤ g2; omega) _).trans f1⟩
  ·simp [results, (rfl : Try.f32.results = #[.cell 2 4]), go_sem, hc]
  ·rw [hbt]
 ·rintro D i W hD hi ⟨hS, hB, hf⟩ hdef
  have hne2 : g2 ≠ D := by omega
  refine pl_leave hdef ?_
  have hput := (World.putObj_heap_other (o := .deferred none) hne2).trans hS
  have hc := blk_cell hput 0
  have f1 := belowK_b (w := w) (Nat.le_refl _) _ D _ (.deferred none) (by omega) hdef rfl rfl
  refine ⟨.bool false, ?_, ?_, hB.trans f1⟩
  ·simp [results, (rfl : Try.f32.results = #[.cell 2 4]), go_sem, hc]
  ·rw [hf]
end
theorem impl_PolyConvex.calls (A0 : Option Addr) (c0 : Nat) (l0 : List (S33)) (r : Bool) (w : World) (hr0 : Kd.C k33 w A0 l0.length l0) (hc0 : l0.length ≤ c0) (h : impl_PolyConvex.f l0 = some r) :
  Calls Try.prog 32 #[.slice A0 l0.length c0] w fun e w' => e = .returned (.bool r) ∧ Below w.heap.size w w' := by
 have h := Option.some.inj h
 unfold impl_PolyConvex.v at h
 cases hv : okB l0 with
 | false =>
  rw [hv, Bool.false_and] at h
  subst h
  exact convex_no A0 c0 l0 w hr0 hc0 hv
 | true =>
  rw [hv, Bool.true_and] at h
  exact convex_yes A0 c0 l0 w hr0 hc0 hv r h
end Go.Proofs.Ytfonigbkoligmaa.P
-- squeezed

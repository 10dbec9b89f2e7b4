import Derived.Test.YtfonigbkoligmaaPx0
import Derived.Test.YtfonigbkoligmaaPx1
import Derived.Test.YtfonigbkoligmaaPx4
import Derived.Test.YtfonigbkoligmaaPx5
namespace Go.Proofs.Ytfonigbkoligmaa.P
open Go.RowKit Go.Proofs.YtfonigbkoligmaaW.PrintWords Go.Proofs.YtfonigbkoligmaaW.PrintLast Go.Proofs.YtfonigbkoligmaaW.PrintMore
attribute [local go_sem] max2_int min2_int max_two min_two max_three min_three max_four min_four
set_option linter.unusedVariables false
set_option linter.unusedSimpArgs false
def meetB (ax ay bx by_ cx cy dx dy : Int) : Bool := onB ax ay bx by_ cx cy || (onB ax ay bx by_ dx dy || (onB cx cy dx dy ax ay || (onB cx cy dx dy bx by_ || (decide (wrap64 ((sdP ax ay bx by_ cx cy).1 * (sdP ax ay bx by_ dx dy).1) < 0) && decide (wrap64 ((sdP cx cy dx dy ax ay).1 * (sdP cx cy dx dy bx by_).1) < 0)))))
theorem meetB_f (ax ay bx by_ cx cy dx dy : Int) : impl_sidesMeet.f 1 ax ay bx by_ cx cy dx dy = some (meetB ax ay bx by_ cx cy dx dy) := by
 unfold impl_sidesMeet.f meetB
 simp only [onB_f, Option.bind_some, impl_sidesMeet.j0, impl_PointSide.f]
 generalize onB ax ay bx by_ cx cy = o1
 generalize onB ax ay bx by_ dx dy = o2
 generalize onB cx cy dx dy ax ay = o3
 generalize onB cx cy dx dy bx by_ = o4
 cases o1 <;> cases o2 <;> cases o3 <;> cases o4 <;> simp
 split
 ·next h => simp [h]
 ·next h => simp [h]
def sameP (X Y : Nat → Int) (i j : Nat) : Prop := X i = X j ∧ Y i = Y j
def foldB (X Y : Nat → Int) (n i : Nat) : Bool := onB (X i) (Y i) (X ((i + 1) % n)) (Y ((i + 1) % n)) (X ((i + 2) % n)) (Y ((i + 2) % n)) || onB (X ((i + 1) % n)) (Y ((i + 1) % n)) (X ((i + 2) % n)) (Y ((i + 2) % n)) (X i) (Y i)
def sideB (X Y : Nat → Int) (n i j : Nat) : Bool := meetB (X i) (Y i) (X ((i + 1) % n)) (Y ((i + 1) % n)) (X j) (Y j) (X ((j + 1) % n)) (Y ((j + 1) % n))
def Simp (X Y : Nat → Int) (n : Nat) : Prop := (∀ i, i < n → ∀ j, 0 < j → j < n → ¬ sameP X Y ((i + j) % n) i) ∧ ∀ i, i < n → foldB X Y n i = false ∧ ∀ j, 2 ≤ j → j + 1 < n → sideB X Y n i ((i + j) % n) = false
theorem next_mod (i n : Nat) : (i % n + 1) % n = (i + 1) % n := by rw [Nat.mod_add_mod]
theorem add_ne_mod {i j n : Nat} (hi : i < n) (h0 : 0 < j) (hj : j < n) : (i + j) % n ≠ i := by
 intro h
 by_cases hlt : i + j < n
 ·rw [Nat.mod_eq_of_lt hlt] at h; omega
 ·rw [Nat.mod_eq_sub_mod (by omega), Nat.mod_eq_of_lt (by omega)] at h; omega
def plSimple15.T : Bool × List (List Nat × List Nat) := (true,[([],[]),([0],[0]),([1],[1]),([2],[2]),([],[]),([4],[4]),([5],[5]),([6],[6]),([7],[7]),([8],[8]),([9],[9]),([],[]),([11],[11]),([12],[12]),([13],[13]),([],[]),([15],[15]),([16],[16]),([17],[17]),([18],[18]),([19],[19]),([20],[20]),([3,10,14,21],[3,10,14,21])])
def plSimple15.B : List Nat := [0,1,3,7,0,16,48,112,240,496,1008,0,2048,6144,14336,0,32768,98304,229376,491520,1015808,2064384,4194303]
theorem plSimple15.tab : rtab .any (opsOf Try.f72 15) = plSimple15.T := by kernel_rfl
theorem plSimple15.bits : waitsOk plSimple15.T.2 plSimple15.B = true := by kernel_rfl
theorem plSimple15.both : rtab .any (opsOf Try.f72 15) = plSimple15.T ∧ waitsOk plSimple15.T.2 plSimple15.B = true := ⟨plSimple15.tab, plSimple15.bits⟩
def plSimple6.T : Bool × List (List Nat × List Nat) := (true,[([],[]),([0],[0]),([1],[1]),([2],[2]),([],[]),([4],[4]),([5],[5]),([6],[6]),([3,7],[3,7])])
def plSimple6.B : List Nat := [0,1,3,7,0,16,48,112,255]
theorem plSimple6.tab : rtab .any (opsOf Try.f72 6) = plSimple6.T := by kernel_rfl
theorem plSimple6.bits : waitsOk plSimple6.T.2 plSimple6.B = true := by kernel_rfl
theorem plSimple6.both : rtab .any (opsOf Try.f72 6) = plSimple6.T ∧ waitsOk plSimple6.T.2 plSimple6.B = true := ⟨plSimple6.tab, plSimple6.bits⟩
section
attribute [local go_sem] Oper.semAt_some
attribute [local go_sem high] eqA33
set_option maxHeartbeats 16000000 in
set_option maxRecDepth 100000 in
theorem simple_calls (n : Nat) (bs : Nat → Nat) (X Y : Nat → Int) (w : World) (hn : n ≤ 1000) (hn3 : 3 ≤ n) (hR : Ring w w.heap.size n bs X Y) (b : Bool) (hb : b = true ↔ Simp X Y n) :
  Calls Try.prog 72 #[.agg #[.pointer (some ⟨bs 0, 0, none⟩), .int .i64 (n : Int)]] w fun e w' => e = .returned (.bool b) ∧ Below w.heap.size w w' := by
 have HR := Aside0.mk hR
 have HM := Aside0.mk (Hd.nil w)
 have HB0 := Aside0.mk hb
 have hpos := hR.pos
 clear hR hb
 refine pl_enter Try.func72 rfl ?_
 simp only [Try.ntmps72, List.size_toArray, List.length_cons, List.length_nil, Nat.reduceAdd, Nat.reduceSub, Array.replicate_succ, Array.replicate_zero, List.push_toArray, List.append_toArray, List.nil_append, List.cons_append]
 go_upto_region 1 with ((with_reducible refine gate_dst (N := 1) rfl ?_); refine bx_ 1 (cs := #[.pointer (some ⟨bs 0, 0, none⟩), .int .i64 (n : Int)]) (t := 58) ?_; intro g1 e_ w1 b_ hb; replace HM := Aside0.mk (HM.out.box hb b_ e_); clear e_ b_ hb)
 replace HM := Aside0.mk (HM.out.alloc #[.bool false] 4)
 generalize w1.alloc (.cells #[.bool false] 4) = w2 at *
 generalize w1.heap.size = gr at *
 have c0 : w2.cell? ⟨g1, 0, none⟩ = some (.pointer (some ⟨bs 0, 0, none⟩)) := blk_cell HM.out.a1 0
 have c1 : w2.cell? ⟨g1, 1, none⟩ = some (.int .i64 (n : Int)) := blk_cell HM.out.a1 1
 go_wp2_with fail
 clear c0 c1
 have hgs : w.heap.size ≤ gr := (HM.out.2.1 (gr, #[.bool false], 4) (by simp)).1
 have hgs2 : gr < w2.heap.size := blk_lt HM.out.a0
 have hg1 : w.heap.size ≤ g1 := (HM.out.2.1 (g1, #[.pointer (some ⟨bs 0, 0, none⟩), .int .i64 (n : Int)], 58) (by simp)).1
 have hg1r : g1 < gr := HM.out.below (e := (g1, #[.pointer (some ⟨bs 0, 0, none⟩), .int .i64 (n : Int)], 58)) (by simp)
 have hw2 := HM.out.1.size
 have hR2 := HR.out.below HM.out.1
 refine pl_range (gf := 46) rfl (fun args w => enters_ Try.func46 (by kernel_rfl) rfl args w) w.heap.size n hw2 _ (corners_walks w.heap.size n bs X Y w2 hn hw2 hR2)
  (fun i W => (W.heap[gr]? = some (.cells #[.bool false] 4 (0, 0)) ∧ W.heap[g1]? = some (.cells #[.pointer (some ⟨bs 0, 0, none⟩), .int .i64 (n : Int)] 58 (0, 0))) ∧ Below w.heap.size w W ∧ ∀ i' j, i' < i → 0 < j → j < n → ¬ sameP X Y ((i' + j) % n) i')
  (fun i W => W.heap[gr]? = some (.cells #[.bool false] 4 (0, 0)) ∧ Below w.heap.size w W ∧ b = false)
  (OwnFrom.and (OwnFrom.and (own_block (fun _ => rfl)) (own_block (fun _ => rfl))) (OwnFrom.and (ownFrom_below (Nat.le_refl _) hw2) (ownFrom_pure _ _)))
  (OwnFrom.and (own_block (fun _ => rfl)) (OwnFrom.and (ownFrom_below (Nat.le_refl _) hw2) (ownFrom_pure _ _))) ⟨⟨HM.out.a0, HM.out.a1⟩, HM.out.1, fun _ _ h => absurd h (Nat.not_lt_zero _)⟩
  (fun i => { tmps := #[.agg #[.pointer (some ⟨bs 0, 0, none⟩), .int .i64 (n : Int)], .pointer (some ⟨g1, 0, none⟩), .pointer (some ⟨gr, 0, none⟩), .pointer (some ⟨bs i, 0, none⟩), undef, undef, undef, .agg #[.pointer (some ⟨bs 0, 0, none⟩), .int .i64 (n : Int)], .func (.func 46) #[.agg #[.pointer (some ⟨bs 0, 0, none⟩), .int .i64 (n : Int)]] #[], .pointer (some ⟨bs i, 0, none⟩), undef, undef, undef, undef, undef, undef, undef, undef, undef, undef, undef, undef, undef, undef, undef, undef, undef, undef, undef, undef, undef, undef, undef, undef, undef, undef, undef, undef, undef, undef, undef, undef, undef, undef, undef, undef, undef, undef, undef, undef, undef, undef, undef, undef, undef, undef, undef, undef, undef, undef, undef, undef, undef, undef, undef, undef, undef, undef, undef, undef, undef, undef, undef, undef, undef], defers := [] }) ?_ ?_ ?_ ?_
 ·intro l i W K hK
  exact pl_assign hK
 ·rintro l i W hi ⟨⟨hS, hS1⟩, hB, hP⟩
  have HPP := Aside0.mk hP
  have HRW := Aside0.mk (HR.out.below hB)
  have hi1 : (i + 1) % n < n := Nat.mod_lt _ hpos
  have HK : Aside0 (Rd w W W w2.heap.size gr (.cells #[.bool false] 4 (0, 0))) := ⟨⟨hS, hB, Below.refl _ _, KeepsFrom.refl _ _⟩⟩
  have HS1 := Aside0.mk hS1
  have n2 : W.cell? ⟨bs i, 2, none⟩ = some (.pointer (some ⟨bs ((i + 1) % n), 0, none⟩)) := (blk_cell (HRW.out.cell i hi) 2).trans rfl
  clear hS hS1 hB hP HM hR2
  gi_wp2
  gi_loopg [4] (n - 1) (fun kq v4 wr => ∃ j : Nat, v4 = .pointer (some ⟨bs ((i + j) % n), 0, none⟩) ∧ 0 < j ∧ Aside0 (j + kq = n) ∧ Aside0 (Rd w W wr w2.heap.size gr (.cells #[.bool false] 4 (0, 0))) ∧ Aside0 (Ring wr w.heap.size n bs X Y) ∧ Aside0 (wr.heap[g1]? = some (.cells #[.pointer (some ⟨bs 0, 0, none⟩), .int .i64 (n : Int)] 58 (0, 0))) ∧ Aside0 (∀ j', 0 < j' → j' < j → ¬ sameP X Y ((i + j') % n) i))
  case atStart => exact ⟨1, rfl, by omega, ⟨by omega⟩, HK, HRW, HS1, ⟨fun j' h1 h2 => by omega⟩⟩
  case round =>
   clear HK HRW HS1 n2
   obtain ⟨j, rfl, hj0, HJ, HK, HRW, HS1, HN⟩ := hrel
   have hjk := HJ.out
   have hq : (i + j) % n < n := Nat.mod_lt _ hpos
   by_cases hjn : j < n
   ·have hne : bs ((i + j) % n) ≠ bs i := fun e => add_ne_mod hi hj0 hjn (HRW.out.inj _ _ hq hi e)
    have hne' : (bs ((i + j) % n) = bs i) = False := eq_false hne
    cases gk with
    | zero => exfalso; omega
    | succ gk =>
     have hop := ptr_neq (bs ((i + j) % n)) (bs i) wr _ _ _ _ (HRW.out.cell _ hq) (HRW.out.cell i hi)
     rw [decide_eq_false hne] at hop
     gi_wp2
     clear hop
     replace HRW := Aside0.mk (HRW.out.below ((below_drew1 (Below.refl _ wr)).mono HK.out.2.1.size))
     replace HK := Aside0.mk HK.out.drew
     refine pl_start (S := fun w' => w'.cell? ⟨bs ((i + j) % n), 0, none⟩ = some (.int .i64 (X ((i + j) % n))) ∧ w'.cell? ⟨bs ((i + j) % n), 1, none⟩ = some (.int .i64 (Y ((i + j) % n))) ∧ w'.cell? ⟨bs i, 0, none⟩ = some (.int .i64 (X i)) ∧ w'.cell? ⟨bs i, 1, none⟩ = some (.int .i64 (Y i))) (ds := []) #[false,false,false,false,false,false,false,false,false] (by kernel_rfl) (noDefer_all (by kernel_rfl)) (fun ⟨_, _, h⟩ => h) rfl rfl ⟨(blk_cell (HRW.out.cell _ hq) 0).trans rfl, (blk_cell (HRW.out.cell _ hq) 1).trans rfl, (blk_cell (HRW.out.cell i hi) 0).trans rfl, (blk_cell (HRW.out.cell i hi) 1).trans rfl⟩ (fun hHeld => ?_)
     refine with_tabW plSimple6.both.1 plSimple6.both.2 (fun HT_ HW_ => ?_)
     refine pq_ 0 (some 21) ?_
     refine pq_ 1 (some 22) ?_
     refine pq_ 2 (some 23) ?_
     refine tq_ 3 (some 24) ?_
     refine pq_ 4 (some 25) ?_
     refine pq_ 5 (some 26) ?_
     refine pq_ 6 (some 27) ?_
     refine tq_ 7 (some 28) ?_
     refine pq_ 8 (some 29) ?_
     refine done_ (done_of HT_.out (by kernel_rfl)) ?_
     have hmb : b = false ∨ (X ((i + j) % n) == X i && (Y ((i + j) % n) == Y i)) = false := by
      cases hsb : (X ((i + j) % n) == X i && (Y ((i + j) % n) == Y i)) with
      | false => exact .inr rfl
      | true =>
       refine .inl ?_
       rw [Bool.and_eq_true, beq_iff_eq, beq_iff_eq] at hsb
       cases hbb : b with
       | false => rfl
       | true => exact absurd hsb ((HB0.out.1 hbb).1 i hi j hj0 hjn)
     have hms : (X ((i + j) % n) == X i && (Y ((i + j) % n) == Y i)) = false → ¬ sameP X Y ((i + j) % n) i := by
      intro h hs
      rw [hs.1, hs.2] at h
      simp at h
     have HMS := Aside0.mk hms
     clear hms
     replace HS1 := Aside0.mk (blk_drew HS1.out)
     generalize (X ((i + j) % n) == X i && (Y ((i + j) % n) == Y i)) = sb at hmb HMS ⊢
     generalize wr.drew = wd at HK HRW HS1 ⊢
     have n2 : wd.cell? ⟨bs ((i + j) % n), 2, none⟩ = some (.pointer (some ⟨bs (((i + j) % n + 1) % n), 0, none⟩)) := (blk_cell (HRW.out.cell _ hq) 2).trans rfl
     have r0 : wd.cell? ⟨gr, 0, none⟩ = some (.bool false) := blk_cell HK.out.1 0
     have rf := blk_frozen HK.out.1 0
     cases sb with
     | true =>
      gi_wp2
      have HK2 := HK.out.put hgs 0 (.bool false) rfl
      exact ⟨HK2.2.2.2, HK2.1, HK2.2.1, by rcases hmb with h | h; exact h; cases h⟩
     | false =>
      gi_wp2
      gi_roundg gk
      case measure => omega
      case rel =>
       exact ⟨j + 1, by first | rfl | rw [next_mod, Nat.add_assoc], by omega, ⟨by omega⟩, HK, HRW, HS1, ⟨fun j' h1 h2 => by
        by_cases e : j' = j
        ·subst e; first | exact HMS.out rfl | exact HMS.out trivial
        ·exact HN.out j' h1 (by omega)⟩⟩
   ·have e1 : (i + j) % n = i := by rw [show j = n by omega, Nat.add_mod_right, Nat.mod_eq_of_lt hi]
    rw [e1]
    have hop := ptr_neq (bs i) (bs i) wr _ _ _ _ (HRW.out.cell i hi) (HRW.out.cell i hi)
    rw [decide_eq_true rfl] at hop
    gi_wp2
    refine ⟨HK.out.2.2.2, HK.out.2.2.1, ⟨HK.out.1, HS1.out⟩, HK.out.2.1, fun i' j' h1 h2 h3 => ?_⟩
    by_cases e : i' = i
    ·subst e; exact HN.out j' h2 (by omega)
    ·exact HPP.out i' j' (by omega) h2 h3
 ·rintro D W hD ⟨⟨hS, hS1⟩, hB, hP⟩ hdef
  have HDIF := Aside0.mk hP
  have HRB := Aside0.mk (HR.out.below hB)
  have c0 : W.cell? ⟨g1, 0, none⟩ = some (.pointer (some ⟨bs 0, 0, none⟩)) := blk_cell hS1 0
  have c1 : W.cell? ⟨g1, 1, none⟩ = some (.int .i64 (n : Int)) := blk_cell hS1 1
  have HSX := Aside0.mk hS
  have HBX := Aside0.mk hB
  have HDX := Aside0.mk hdef
  clear hS hS1 hB hP HM hR2 hdef
  go_wp2_with fail
  clear c0 c1
  have hWw := HBX.out.size
  have hDW : D < W.heap.size := (Array.getElem?_eq_some_iff.1 HDX.out).1
  have hWw2 : w2.heap.size ≤ W.heap.size := by omega
  refine pl_range (gf := 46) rfl (fun args w => enters_ Try.func46 (by kernel_rfl) rfl args w) w.heap.size n hWw _ (corners_walks w.heap.size n bs X Y W hn hWw HRB.out)
   (fun i W => W.heap[gr]? = some (.cells #[.bool false] 4 (0, 0)) ∧ W.heap[D]? = some (.deferred (some [])) ∧ Below w.heap.size w W ∧ ∀ i', i' < i → foldB X Y n i' = false ∧ ∀ j, 2 ≤ j → j + 1 < n → sideB X Y n i' ((i' + j) % n) = false)
   (fun i W => W.heap[gr]? = some (.cells #[.bool false] 4 (0, 0)) ∧ W.heap[D]? = some (.deferred (some [])) ∧ Below w.heap.size w W ∧ b = false)
   (OwnFrom.and (own_block (fun _ => rfl)) (OwnFrom.and (own_low hDW) (OwnFrom.and (ownFrom_below (Nat.le_refl _) hWw) (ownFrom_pure _ _))))
   (OwnFrom.and (own_block (fun _ => rfl)) (OwnFrom.and (own_low hDW) (OwnFrom.and (ownFrom_below (Nat.le_refl _) hWw) (ownFrom_pure _ _)))) ⟨HSX.out, HDX.out, HBX.out, fun _ h => absurd h (Nat.not_lt_zero _)⟩
   (fun i => { tmps := #[.agg #[.pointer (some ⟨bs 0, 0, none⟩), .int .i64 (n : Int)], .pointer (some ⟨g1, 0, none⟩), .pointer (some ⟨gr, 0, none⟩), undef, undef, .pointer (some ⟨bs i, 0, none⟩), undef, .agg #[.pointer (some ⟨bs 0, 0, none⟩), .int .i64 (n : Int)], .func (.func 46) #[.agg #[.pointer (some ⟨bs 0, 0, none⟩), .int .i64 (n : Int)]] #[], undef, undef, undef, undef, undef, undef, undef, undef, undef, undef, undef, undef, undef, undef, undef, undef, undef, undef, undef, undef, undef, .agg #[.pointer (some ⟨bs 0, 0, none⟩), .int .i64 (n : Int)], .func (.func 46) #[.agg #[.pointer (some ⟨bs 0, 0, none⟩), .int .i64 (n : Int)]] #[], .pointer (some ⟨bs i, 0, none⟩), undef, undef, undef, undef, undef, undef, undef, undef, undef, undef, undef, undef, undef, undef, undef, undef, undef, undef, undef, undef, undef, undef, undef, undef, undef, undef, undef, undef, undef, undef, undef, undef, undef, undef, undef, undef, undef, undef, undef, undef, undef, undef], defers := [] }) ?_ ?_ ?_ ?_
  ·intro l i W K hK
   exact pl_assign hK
  ·rintro l i Wr hi ⟨hS, hDf, hB, hP⟩
   have HPP := Aside0.mk hP
   have HRW := Aside0.mk (HR.out.below hB)
   have hi1 : (i + 1) % n < n := Nat.mod_lt _ hpos
   have hi2 : (i + 2) % n < n := Nat.mod_lt _ hpos
   have HK : Aside0 (Rd w Wr Wr w2.heap.size gr (.cells #[.bool false] 4 (0, 0))) := ⟨⟨hS, hB, Below.refl _ _, KeepsFrom.refl _ _⟩⟩
   have HDR := Aside0.mk hDf
   have HDR0 := Aside0.mk hDf
   clear hS hDf hB hP
   have HFC := Aside0.mk (fun (w3 : World) (hrg : Ring w3 w.heap.size n bs X Y) => foldsBack_calls (bs i) (bs ((i + 1) % n)) (bs ((i + 2) % n)) (X i) (Y i) (X ((i + 1) % n)) (Y ((i + 1) % n)) (X ((i + 2) % n)) (Y ((i + 2) % n)) (.pointer (some ⟨bs (((i + 2) % n + 1) % n), 0, none⟩)) w3 (hrg.cell i hi) (by have := hrg.cell _ hi1; rw [next_mod] at this; exact this) (hrg.cell _ hi2))
   gi_wp2
   refine ⟨trivial, rfl, (CallsIn.inRound l (callsIn_wide.2 (HFC.out _ HRW.out))).mono ?_⟩
   rintro e w3 ⟨rfl, hb3⟩
   clear HFC
   replace HRW := Aside0.mk (HRW.out.below (hb3.mono HK.out.2.1.size))
   replace HDR := Aside0.mk (show w3.heap[D]? = some (.deferred (some [])) from (hb3.block _ (Array.getElem?_eq_some_iff.1 HDR.out).1).trans HDR.out)
   replace HK := Aside0.mk (HK.out.keep hb3)
   clear hb3
   have HFO : Aside0 ((onB (X i) (Y i) (X ((i + 1) % n)) (Y ((i + 1) % n)) (X ((i + 2) % n)) (Y ((i + 2) % n)) || onB (X ((i + 1) % n)) (Y ((i + 1) % n)) (X ((i + 2) % n)) (Y ((i + 2) % n)) (X i) (Y i)) = foldB X Y n i) := ⟨rfl⟩
   rw [HFO.out]
   clear HFO
   have r0 : w3.cell? ⟨gr, 0, none⟩ = some (.bool false) := blk_cell HK.out.1 0
   have rf := blk_frozen HK.out.1 0
   have HFL := Aside0.mk (show foldB X Y n i = true → b = false from fun h => by
    cases hbb : b with
    | false => rfl
    | true => have := ((HB0.out.1 hbb).2 i hi).1; rw [h] at this; cases this)
   have n2 : w3.cell? ⟨bs i, 2, none⟩ = some (.pointer (some ⟨bs ((i + 1) % n), 0, none⟩)) := (blk_cell (HRW.out.cell i hi) 2).trans rfl
   have n3 : w3.cell? ⟨bs ((i + 1) % n), 2, none⟩ = some (.pointer (some ⟨bs ((i + 2) % n), 0, none⟩)) := by
    have := blk_cell (HRW.out.cell _ hi1) 2; rw [next_mod] at this; exact this.trans rfl
   cases hfo : foldB X Y n i with
   | true =>
    gi_wp2
    have HK2 := HK.out.put hgs 0 (.bool false) rfl
    exact ⟨keeps_mono HK2.2.2.2 hWw2, HK2.1, HK2.2.2.2.same D _ hD HDR0.out rfl, HK2.2.1, HFL.out hfo⟩
   | false =>
    gi_wp2
    clear n2 n3 r0 rf HFL
    gi_loopg [6] (n - 3) (fun kq v6 wr => ∃ j : Nat, v6 = .pointer (some ⟨bs ((i + j) % n), 0, none⟩) ∧ 2 ≤ j ∧ Aside0 (j + 1 + kq = n) ∧ Aside0 (Rd w Wr wr w2.heap.size gr (.cells #[.bool false] 4 (0, 0))) ∧ Aside0 (Ring wr w.heap.size n bs X Y) ∧ Aside0 (∀ j', 2 ≤ j' → j' < j → sideB X Y n i ((i + j') % n) = false))
    case atStart => exact ⟨2, rfl, by omega, ⟨by omega⟩, HK, HRW, ⟨fun j' h1 h2 => by omega⟩⟩
    case round =>
     clear HK HRW HDR
     obtain ⟨j, rfl, hj0, HJ, HK, HRW, HN⟩ := hrel
     have hjk := HJ.out
     have hq : (i + j) % n < n := Nat.mod_lt _ hpos
     have hq1 : (i + j + 1) % n < n := Nat.mod_lt _ hpos
     have n2 : wr.cell? ⟨bs ((i + j) % n), 2, none⟩ = some (.pointer (some ⟨bs ((i + j + 1) % n), 0, none⟩)) := by
      have := blk_cell (HRW.out.cell _ hq) 2; rw [next_mod] at this; exact this.trans rfl
     by_cases hjn : j + 1 < n
     ·have hne : bs ((i + j + 1) % n) ≠ bs i := fun e => add_ne_mod hi (show 0 < j + 1 by omega) hjn (HRW.out.inj _ _ hq1 hi e)
      cases gk with
      | zero => exfalso; omega
      | succ gk =>
       have hop := ptr_neq (bs ((i + j + 1) % n)) (bs i) wr _ _ _ _ (HRW.out.cell _ hq1) (HRW.out.cell i hi)
       rw [decide_eq_false hne] at hop
       gi_wp2
       clear hop n2
       replace HRW := Aside0.mk (HRW.out.below ((below_drew1 (Below.refl _ wr)).mono HK.out.2.1.size))
       replace HK := Aside0.mk HK.out.drew
       refine pl_start (S := fun w' => w'.cell? ⟨bs i, 0, none⟩ = some (.int .i64 (X i)) ∧ w'.cell? ⟨bs i, 1, none⟩ = some (.int .i64 (Y i)) ∧ w'.cell? ⟨bs ((i + 1) % n), 0, none⟩ = some (.int .i64 (X ((i + 1) % n))) ∧ w'.cell? ⟨bs ((i + 1) % n), 1, none⟩ = some (.int .i64 (Y ((i + 1) % n))) ∧ w'.cell? ⟨bs ((i + j) % n), 0, none⟩ = some (.int .i64 (X ((i + j) % n))) ∧ w'.cell? ⟨bs ((i + j) % n), 1, none⟩ = some (.int .i64 (Y ((i + j) % n))) ∧ w'.cell? ⟨bs ((i + j + 1) % n), 0, none⟩ = some (.int .i64 (X ((i + j + 1) % n))) ∧ w'.cell? ⟨bs ((i + j + 1) % n), 1, none⟩ = some (.int .i64 (Y ((i + j + 1) % n))) ∧ w'.cell? ⟨bs i, 2, none⟩ = some (.pointer (some ⟨bs ((i + 1) % n), 0, none⟩)) ∧ w'.cell? ⟨bs ((i + j) % n), 2, none⟩ = some (.pointer (some ⟨bs ((i + j + 1) % n), 0, none⟩))) (ds := []) #[false,false,false,false,false,false,false,false,false,false,false,false,false,false,false,false,false,false,false,false,false,false,false] (by kernel_rfl) (noDefer_all (by kernel_rfl)) (fun ⟨_, _, h⟩ => h) rfl rfl ⟨(blk_cell (HRW.out.cell _ hi) 0).trans rfl, (blk_cell (HRW.out.cell _ hi) 1).trans rfl, (blk_cell (HRW.out.cell _ hi1) 0).trans rfl, (blk_cell (HRW.out.cell _ hi1) 1).trans rfl, (blk_cell (HRW.out.cell _ hq) 0).trans rfl, (blk_cell (HRW.out.cell _ hq) 1).trans rfl, (blk_cell (HRW.out.cell _ hq1) 0).trans rfl, (blk_cell (HRW.out.cell _ hq1) 1).trans rfl, (blk_cell (HRW.out.cell _ hi) 2).trans rfl, (blk_cell (HRW.out.cell _ hq) 2).trans (by rw [next_mod]; rfl)⟩ (fun hHeld => ?_)
       refine with_tabW plSimple15.both.1 plSimple15.both.2 (fun HT_ HW_ => ?_)
       generalize wr.drew = wd at HK HRW hHeld ⊢
       refine pq_ 0 (some 52) ?_
       refine pq_ 1 (some 53) ?_
       refine pq_ 2 (some 54) ?_
       refine tq_ 3 (some 55) ?_
       refine pq_ 4 (some 56) ?_
       refine pq_ 5 (some 57) ?_
       refine pq_ 6 (some 58) ?_
       refine tq_ 7 (some 59) ?_
       refine pq_ 8 (some 60) ?_
       refine pq_ 9 (some 61) ?_
       refine tq_ 10 (some 62) ?_
       refine pq_ 11 (some 63) ?_
       refine pq_ 12 (some 64) ?_
       refine pq_ 13 (some 65) ?_
       refine tq_ 14 (some 66) ?_
       refine pq_ 15 (some 67) ?_
       refine pq_ 16 (some 68) ?_
       refine pq_ 17 (some 69) ?_
       refine tq_ 18 (some 70) ?_
       refine pq_ 19 (some 71) ?_
       refine pq_ 20 (some 72) ?_
       refine tq_ 21 (some 73) ?_
       refine one_ (i := 22) (N := some 74) #[true,true,true,true,true,true,true,true,true,true,true,true,true,true,true,true,true,true,true,true,true,true,true] rfl rfl (one_of HT_.out (by kernel_rfl)) (by decide) (fun K hK => ?_)
       refine goes_ Try.func91 (by kernel_rfl) rfl #[.agg #[.int .i64 (X i), .int .i64 (Y i)], .agg #[.int .i64 (X ((i + 1) % n)), .int .i64 (Y ((i + 1) % n))], .agg #[.int .i64 (X ((i + j) % n)), .int .i64 (Y ((i + j) % n))], .agg #[.int .i64 (X ((i + j + 1) % n)), .int .i64 (Y ((i + j + 1) % n))]] (by rfl) rfl rfl al ?_
       have hsmv : meetB (X i) (Y i) (X ((i + 1) % n)) (Y ((i + 1) % n)) (X ((i + j) % n)) (Y ((i + j) % n)) (X ((i + j + 1) % n)) (Y ((i + j + 1) % n)) = sideB X Y n i ((i + j) % n) := by unfold sideB; rw [next_mod]
       with_reducible refine (impl_sidesMeet.calls 1 _ _ _ _ _ _ _ _ _ _ (meetB_f (X i) (Y i) (X ((i + 1) % n)) (Y ((i + 1) % n)) (X ((i + j) % n)) (Y ((i + j) % n)) (X ((i + j + 1) % n)) (Y ((i + j + 1) % n)))).mono ?_
       rintro e w_ ⟨rfl, hb⟩
       rw [hsmv]
       clear hsmv
       refine ⟨_, rfl, ?_⟩
       replace HRW := Aside0.mk (HRW.out.below (hb.mono HK.out.2.1.size))
       replace HK := Aside0.mk (HK.out.keep hb)
       clear hb
       refine hK.out _ _ ⟨(blk_cell (HRW.out.cell _ hi) 0).trans rfl, (blk_cell (HRW.out.cell _ hi) 1).trans rfl, (blk_cell (HRW.out.cell _ hi1) 0).trans rfl, (blk_cell (HRW.out.cell _ hi1) 1).trans rfl, (blk_cell (HRW.out.cell _ hq) 0).trans rfl, (blk_cell (HRW.out.cell _ hq) 1).trans rfl, (blk_cell (HRW.out.cell _ hq1) 0).trans rfl, (blk_cell (HRW.out.cell _ hq1) 1).trans rfl, (blk_cell (HRW.out.cell _ hi) 2).trans rfl, (blk_cell (HRW.out.cell _ hq) 2).trans (by rw [next_mod]; rfl)⟩ (fun hHeld => ?_)
       clear hK K
       refine norm_ (a' := ?_) ?_ ?_
       rotate_left
       ·show Act.put _ (some 74) _ = _
        simp only [Act.put, List.setIfInBounds_toArray, List.set_cons_zero, List.set_cons_succ, i64_w, i32_w]
        rfl
       refine done_ (done_of HT_.out (by kernel_rfl)) ?_
       have hmb := fun (h : sideB X Y n i ((i + j) % n) = true) => show b = false from by
        cases hbb : b with
        | false => rfl
        | true => have := ((HB0.out.1 hbb).2 i hi).2 j hj0 hjn; rw [h] at this; cases this
       have HMB := Aside0.mk hmb
       clear hmb
       have n2 : w_.cell? ⟨bs ((i + j) % n), 2, none⟩ = some (.pointer (some ⟨bs ((i + j + 1) % n), 0, none⟩)) := by
        have := blk_cell (HRW.out.cell _ hq) 2; rw [next_mod] at this; exact this.trans rfl
       have r0 : w_.cell? ⟨gr, 0, none⟩ = some (.bool false) := blk_cell HK.out.1 0
       have rf := blk_frozen HK.out.1 0
       cases hsb : sideB X Y n i ((i + j) % n) with
       | true =>
        gi_wp2
        have HK2 := HK.out.put hgs 0 (.bool false) rfl
        exact ⟨keeps_mono HK2.2.2.2 hWw2, HK2.1, HK2.2.2.2.same D _ hD HDR0.out rfl, HK2.2.1, HMB.out hsb⟩
       | false =>
        gi_wp2
        gi_roundg gk
        case measure => omega
        case rel =>
         exact ⟨j + 1, rfl, by omega, ⟨by omega⟩, HK, HRW, ⟨fun j' h1 h2 => by
          by_cases e : j' = j
          ·subst e; exact hsb
          ·exact HN.out j' h1 (by omega)⟩⟩
     ·have e1 : (i + j + 1) % n = i := by rw [show i + j + 1 = i + n by omega, Nat.add_mod_right, Nat.mod_eq_of_lt hi]
      rw [e1] at n2
      have hop := ptr_neq (bs i) (bs i) wr _ _ _ _ (HRW.out.cell i hi) (HRW.out.cell i hi)
      rw [decide_eq_true rfl] at hop
      gi_wp2
      refine ⟨keeps_mono HK.out.2.2.2 hWw2, HK.out.2.2.1, HK.out.1, HK.out.2.2.2.same D _ hD HDR0.out rfl, HK.out.2.1, fun i' h1 => ?_⟩
      by_cases e : i' = i
      ·subst e; exact ⟨hfo, fun j' h2 h3 => HN.out j' h2 (by omega)⟩
      ·exact HPP.out i' (by omega)
  ·rintro D2 W2 hD2 ⟨hS, hDf, hB, hP⟩ hdef2
   have r0 : W2.cell? ⟨gr, 0, none⟩ = some (.bool false) := blk_cell hS 0
   have rf := blk_frozen hS 0
   have hbt : b = true := HB0.out.2 ⟨fun i hi j h0 hj => HDIF.out i j hi h0 hj, fun i hi => hP i hi⟩
   have HS2 := Aside0.mk hS
   have HX2 := Aside0.mk hDf
   have HB2 := Aside0.mk hB
   have HD2 := Aside0.mk hdef2
   clear hS hDf hB hP hdef2
   go_wp2_with fail
   have hne2 : gr ≠ D2 := by omega
   have hne1 : gr ≠ D := by omega
   have hD12 : D ≠ D2 := by omega
   have e1 := blk_put HS2.out 0 (.bool true) rfl
   have e2 := (Below.heap_setCell W2 ⟨gr, 0, none⟩ (.bool true) D (show D ≠ gr by omega)).trans HX2.out
   have e3 := (Below.heap_setCell W2 ⟨gr, 0, none⟩ (.bool true) D2 (show D2 ≠ gr by omega)).trans HD2.out
   refine pl_leave e3 (pl_leave ((World.putObj_heap_other (o := .deferred none) hD12).trans e2) ?_)
   have hput := (World.putObj_heap_other (o := .deferred none) hne1).trans ((World.putObj_heap_other (o := .deferred none) hne2).trans e1)
   have hc := blk_cell hput 0
   have f1 := belowK_b (w := w) (Nat.le_refl _) _ D2 _ (.deferred none) (by omega) e3 rfl rfl
   have f2 := belowK_b (w := w) (Nat.le_refl _) _ D _ (.deferred none) (by omega) ((World.putObj_heap_other (o := .deferred none) hD12).trans e2) rfl rfl
   refine ⟨.bool true, ?_, ?_, ((HB2.out.setCell (p := ⟨gr, 0, none⟩) hgs _).trans f1).trans f2⟩
   ·simp [results, (rfl : Try.f72.results = #[.cell 2 4]), go_sem, hc]
   ·rw [hbt]
  ·rintro D2 i W2 hD2 hi ⟨hS, hDf, hB, hf⟩ hdef2
   have hne2 : gr ≠ D2 := by omega
   have hne1 : gr ≠ D := by omega
   have hD12 : D ≠ D2 := by omega
   refine pl_leave hdef2 (pl_leave ((World.putObj_heap_other (o := .deferred none) hD12).trans hDf) ?_)
   have hput := (World.putObj_heap_other (o := .deferred none) hne1).trans ((World.putObj_heap_other (o := .deferred none) hne2).trans hS)
   have hc := blk_cell hput 0
   have f1 := belowK_b (w := w) (Nat.le_refl _) _ D2 _ (.deferred none) (by omega) hdef2 rfl rfl
   have f2 := belowK_b (w := w) (Nat.le_refl _) _ D _ (.deferred none) (by omega) ((World.putObj_heap_other (o := .deferred none) hD12).trans hDf) rfl rfl
   refine ⟨.bool false, ?_, ?_, (hB.trans f1).trans f2⟩
   ·simp [results, (rfl : Try.f72.results = #[.cell 2 4]), go_sem, hc]
   ·rw [hf]
 ·rintro D i W hD hi ⟨hS, hB, hf⟩ hdef
  refine pl_leave hdef ?_
  have hput := (World.putObj_heap_other (o := .deferred none) (show gr ≠ D by omega)).trans hS
  have hc := blk_cell hput 0
  refine ⟨.bool false, ?_, ?_, hB.trans (belowK_b (w := w) (Nat.le_refl _) W D _ _ (Nat.le_trans hw2 hD) hdef rfl rfl)⟩
  ·simp [results, (rfl : Try.f72.results = #[.cell 2 4]), go_sem, hc]
  ·rw [hf]
end
def smB (X Y : Nat → Int) (n : Nat) : Bool := ((List.range n).all fun i => (List.range n).all fun j => !(decide (0 < j) && (X ((i + j) % n) == X i && Y ((i + j) % n) == Y i))) && (List.range n).all fun i => !foldB X Y n i && (List.range n).all fun j => !(decide (2 ≤ j ∧ j + 1 < n) && sideB X Y n i ((i + j) % n))
theorem smB_iff {X Y : Nat → Int} {n : Nat} : smB X Y n = true ↔ Simp X Y n := by
 unfold smB Simp sameP
 rw [Bool.and_eq_true, List.all_eq_true, List.all_eq_true]
 simp only [List.mem_range, List.all_eq_true, Bool.and_eq_true, Bool.not_eq_true', Bool.and_eq_false_iff, decide_eq_false_iff_not, beq_eq_false_iff_ne]
 constructor
 ·rintro ⟨h1, h2⟩
  refine ⟨fun i hi j h0 hj hs => ?_, fun i hi => ⟨(h2 i hi).1, fun j h0 hj => ?_⟩⟩
  ·rcases h1 i hi j hj with h | h | h
   ·exact h h0
   ·exact h hs.1
   ·exact h hs.2
  ·rcases (h2 i hi).2 j (by omega) with h | h
   ·exact absurd ⟨h0, hj⟩ h
   ·exact h
 ·rintro ⟨h1, h2⟩
  refine ⟨fun i hi j hj => ?_, fun i hi => ⟨(h2 i hi).1, fun j hj => ?_⟩⟩
  ·by_cases h0 : 0 < j
   ·by_cases hx : X ((i + j) % n) = X i
    ·exact .inr (.inr fun hy => h1 i hi j h0 hj ⟨hx, hy⟩)
    ·exact .inr (.inl hx)
   ·exact .inl h0
  ·by_cases h0 : 2 ≤ j ∧ j + 1 < n
   ·exact .inr ((h2 i hi).2 j h0.1 h0.2)
   ·exact .inl h0
def okB (l : List S33) : Bool := vdB l && smB (plX l) (plY l) l.length
theorem okB_vd {l : List S33} (h : okB l = true) : vdB l = true := by
 unfold okB at h
 rw [Bool.and_eq_true] at h
 exact h.1
set_option maxHeartbeats 4000000 in
theorem simpleOf_no (A : Option Addr) (c : Nat) (l : List S33) (w : World) (hr0 : Kd.C k33 w A l.length l) (hc0 : l.length ≤ c) (hv : okB l = false) :
  Calls Try.prog 43 #[.slice A l.length c] w fun e w' => e = .returned (.tuple #[.agg #[.pointer none, .int .i64 0], .bool false]) ∧ Below w.heap.size w w' := by
 obtain ⟨k, hk⟩ := vd_f l
 have HR := Aside0.mk hr0
 have HC := Aside0.mk hc0
 have HM := Aside0.mk (Hd.nil w)
 have HV := Aside0.mk hk
 have HS := Aside0.mk (smB_iff (X := plX l) (Y := plY l) (n := l.length))
 clear hr0 hk
 cases hvd : vdB l with
 | false =>
  rw [hvd] at HV
  go_enter Try.func43, Try.ntmps43
  go_upto_region 1 with fail
  replace HM := Aside0.mk (HM.out.alloc #[.pointer none, .int .i64 0] 58)
  generalize w.alloc (.cells #[.pointer none, .int .i64 0] 58) = w1 at *
  generalize w.heap.size = g2 at *
  go_upto_region 2 with (go_at_call 37; have hbel := HM.out.1; (with_reducible refine (outlineOf_no k A c l _ (Kd.C_below HR.out hbel) HC.out HV.out).mono ?_); rintro e w3 ⟨rfl, hb⟩; clear hbel; replace HM := Aside0.mk (HM.out.keep hb); clear hb)
  replace HM := Aside0.mk (HM.out.alloc #[.pointer none, .int .i64 0] 58)
  generalize w3.alloc (.cells #[.pointer none, .int .i64 0] 58) = w5 at *
  generalize w3.heap.size = g4 at *
  have c0 : w5.cell? ⟨g4, 0, none⟩ = some (.pointer none) := blk_cell HM.out.a0 0
  have c1 : w5.cell? ⟨g4, 1, none⟩ = some (.int .i64 0) := blk_cell HM.out.a0 1
  have d0 : w5.cell? ⟨g2, 0, none⟩ = some (.pointer none) := blk_cell HM.out.a1 0
  have d1 : w5.cell? ⟨g2, 1, none⟩ = some (.int .i64 0) := blk_cell HM.out.a1 1
  have f0 := blk_frozen HM.out.a1 0
  have f1 := blk_frozen HM.out.a1 1
  go_wp2_with fail
  have HZ := HM.out.put2_1 (.pointer none) (.int .i64 0)
  exact bodyPost_ret (results_ct rfl _ _ g2 58 #[.pointer none, .int .i64 0] (0, 0) _ rfl HZ.a1 Try.underlying58 rfl (by kernel_rfl)) rfl ⟨rfl, HZ.1⟩
 | true =>
  rw [hvd] at HV
  have hvi := vdB_iff.1 hvd
  have hs : smB (plX l) (plY l) l.length = false := by unfold okB at hv; rw [hvd, Bool.true_and] at hv; exact hv
  rw [hs] at HS
  clear hs hv hvd
  go_enter Try.func43, Try.ntmps43
  go_upto_region 1 with fail
  replace HM := Aside0.mk (HM.out.alloc #[.pointer none, .int .i64 0] 58)
  generalize w.alloc (.cells #[.pointer none, .int .i64 0] 58) = w1 at *
  generalize w.heap.size = g2 at *
  go_upto_region 2 with (go_at_call 37; have hbel := HM.out.1; (with_reducible refine (outlineOf_yes k A c l _ (Kd.C_below HR.out hbel) HC.out HV.out hvi.1 hvi.2.1).mono ?_); rintro e w3 ⟨bs, rfl, hrg, hb⟩; clear hbel; replace HM := Aside0.mk (HM.out.keep hb); have HRG := Aside0.mk hrg; clear hb hrg)
  replace HM := Aside0.mk (HM.out.alloc #[.pointer (some ⟨bs 0, 0, none⟩), .int .i64 (l.length : Int)] 58)
  replace HRG := Aside0.mk (HRG.out.nextAlloc (.cells #[.pointer (some ⟨bs 0, 0, none⟩), .int .i64 (l.length : Int)] 58))
  generalize w3.alloc (.cells #[.pointer (some ⟨bs 0, 0, none⟩), .int .i64 (l.length : Int)] 58) = w5 at *
  generalize w3.heap.size = g4 at *
  have c0 : w5.cell? ⟨g4, 0, none⟩ = some (.pointer (some ⟨bs 0, 0, none⟩)) := blk_cell HM.out.a0 0
  have c1 : w5.cell? ⟨g4, 1, none⟩ = some (.int .i64 (l.length : Int)) := blk_cell HM.out.a0 1
  have d0 : w5.cell? ⟨g2, 0, none⟩ = some (.pointer none) := blk_cell HM.out.a1 0
  have d1 : w5.cell? ⟨g2, 1, none⟩ = some (.int .i64 0) := blk_cell HM.out.a1 1
  have f0 := blk_frozen HM.out.a1 0
  have f1 := blk_frozen HM.out.a1 1
  go_wp2_with (go_at_call 72; (with_reducible refine (simple_calls l.length bs (plX l) (plY l) _ (by omega) hvi.1 HRG.out _ HS.out).mono ?_); rintro e w6 ⟨rfl, hb⟩; replace HRG := Aside0.mk (HRG.out.next hb); replace HM := Aside0.mk (HM.out.keep hb); clear hb c0 c1 d0 d1 f0 f1; have c0 : w6.cell? ⟨g4, 0, none⟩ = some (.pointer (some ⟨bs 0, 0, none⟩)) := blk_cell HM.out.a0 0; have c1 : w6.cell? ⟨g4, 1, none⟩ = some (.int .i64 (l.length : Int)) := blk_cell HM.out.a0 1; have d0 : w6.cell? ⟨g2, 0, none⟩ = some (.pointer none) := blk_cell HM.out.a1 0; have d1 : w6.cell? ⟨g2, 1, none⟩ = some (.int .i64 0) := blk_cell HM.out.a1 1; have f0 := blk_frozen HM.out.a1 0; have f1 := blk_frozen HM.out.a1 1)
  have HZ := HM.out.put2_1 (.pointer none) (.int .i64 0)
  exact bodyPost_ret (results_ct rfl _ _ g2 58 #[.pointer none, .int .i64 0] (0, 0) _ rfl HZ.a1 Try.underlying58 rfl (by kernel_rfl)) rfl ⟨rfl, HZ.1⟩
set_option maxHeartbeats 4000000 in
theorem simpleOf_yes (A : Option Addr) (c : Nat) (l : List S33) (w : World) (hr0 : Kd.C k33 w A l.length l) (hc0 : l.length ≤ c) (hv : okB l = true) :
  Calls Try.prog 43 #[.slice A l.length c] w fun e w' => ∃ bs, e = .returned (.tuple #[.agg #[.pointer (some ⟨bs 0, 0, none⟩), .int .i64 (l.length : Int)], .bool true]) ∧ Ring w' w'.heap.size l.length bs (plX l) (plY l) ∧ Below w.heap.size w w' := by
 obtain ⟨k, hk⟩ := vd_f l
 have HR := Aside0.mk hr0
 have HC := Aside0.mk hc0
 have HM := Aside0.mk (Hd.nil w)
 have HV := Aside0.mk hk
 have HS := Aside0.mk (smB_iff (X := plX l) (Y := plY l) (n := l.length))
 clear hr0 hk
 obtain ⟨hvd, hs⟩ : vdB l = true ∧ smB (plX l) (plY l) l.length = true := by unfold okB at hv; rw [Bool.and_eq_true] at hv; exact hv
 rw [hvd] at HV
 have hvi := vdB_iff.1 hvd
 replace HS : Aside0 (Simp (plX l) (plY l) l.length) := ⟨smB_iff.1 hs⟩
 clear hs hv hvd
 go_enter Try.func43, Try.ntmps43
 go_upto_region 1 with fail
 replace HM := Aside0.mk (HM.out.alloc #[.pointer none, .int .i64 0] 58)
 generalize w.alloc (.cells #[.pointer none, .int .i64 0] 58) = w1 at *
 generalize w.heap.size = g2 at *
 go_upto_region 2 with (go_at_call 37; have hbel := HM.out.1; (with_reducible refine (outlineOf_yes k A c l _ (Kd.C_below HR.out hbel) HC.out HV.out hvi.1 hvi.2.1).mono ?_); rintro e w3 ⟨bs, rfl, hrg, hb⟩; clear hbel; replace HM := Aside0.mk (HM.out.keep hb); have HRG := Aside0.mk hrg; clear hb hrg)
 replace HM := Aside0.mk (HM.out.alloc #[.pointer (some ⟨bs 0, 0, none⟩), .int .i64 (l.length : Int)] 58)
 replace HRG := Aside0.mk (HRG.out.nextAlloc (.cells #[.pointer (some ⟨bs 0, 0, none⟩), .int .i64 (l.length : Int)] 58))
 generalize w3.alloc (.cells #[.pointer (some ⟨bs 0, 0, none⟩), .int .i64 (l.length : Int)] 58) = w5 at *
 generalize w3.heap.size = g4 at *
 have c0 : w5.cell? ⟨g4, 0, none⟩ = some (.pointer (some ⟨bs 0, 0, none⟩)) := blk_cell HM.out.a0 0
 have c1 : w5.cell? ⟨g4, 1, none⟩ = some (.int .i64 (l.length : Int)) := blk_cell HM.out.a0 1
 have d0 : w5.cell? ⟨g2, 0, none⟩ = some (.pointer none) := blk_cell HM.out.a1 0
 have d1 : w5.cell? ⟨g2, 1, none⟩ = some (.int .i64 0) := blk_cell HM.out.a1 1
 have f0 := blk_frozen HM.out.a1 0
 have f1 := blk_frozen HM.out.a1 1
 go_wp2_with (go_at_call 72; (with_reducible refine (simple_calls l.length bs (plX l) (plY l) _ (by omega) hvi.1 HRG.out true ⟨fun _ => HS.out, fun _ => rfl⟩).mono ?_); rintro e w6 ⟨rfl, hb⟩; replace HRG := Aside0.mk (HRG.out.next hb); replace HM := Aside0.mk (HM.out.keep hb); clear hb c0 c1 d0 d1 f0 f1; have c0 : w6.cell? ⟨g4, 0, none⟩ = some (.pointer (some ⟨bs 0, 0, none⟩)) := blk_cell HM.out.a0 0; have c1 : w6.cell? ⟨g4, 1, none⟩ = some (.int .i64 (l.length : Int)) := blk_cell HM.out.a0 1; have d0 : w6.cell? ⟨g2, 0, none⟩ = some (.pointer none) := blk_cell HM.out.a1 0; have d1 : w6.cell? ⟨g2, 1, none⟩ = some (.int .i64 0) := blk_cell HM.out.a1 1; have f0 := blk_frozen HM.out.a1 0; have f1 := blk_frozen HM.out.a1 1)
 have HZ := HM.out.put2_1 (.pointer (some ⟨bs 0, 0, none⟩)) (.int .i64 (l.length : Int))
 have hne := HRG.out.ne HM.out.a1 (by decide)
 have hR2 := (HRG.out.farS (g := g2) hne 0 (.pointer (some ⟨bs 0, 0, none⟩))).farS (g := g2) hne 1 (.int .i64 (l.length : Int))
 exact bodyPost_ret (results_ct rfl _ _ g2 58 #[.pointer (some ⟨bs 0, 0, none⟩), .int .i64 (l.length : Int)] (0, 0) _ rfl HZ.a1 Try.underlying58 rfl (by kernel_rfl)) rfl ⟨bs, rfl, hR2, HZ.1⟩
def prB (l : List S33) : Bool := okB l && decide (0 < arN (plX l) (plY l) l.length l.length)
theorem prB_ok {l : List S33} (h : prB l = true) : okB l = true := by
 unfold prB at h
 rw [Bool.and_eq_true] at h
 exact h.1
set_option maxHeartbeats 4000000 in
theorem parcelOf_no (A : Option Addr) (c : Nat) (l : List S33) (w : World) (hr0 : Kd.C k33 w A l.length l) (hc0 : l.length ≤ c) (hv : prB l = false) :
  Calls Try.prog 42 #[.slice A l.length c] w fun e w' => e = .returned (.tuple #[.agg #[.pointer none, .int .i64 0], .bool false]) ∧ Below w.heap.size w w' := by
 have HR := Aside0.mk hr0
 have HC := Aside0.mk hc0
 have HM := Aside0.mk (Hd.nil w)
 clear hr0
 cases hok : okB l with
 | false =>
  have HV := Aside0.mk hok
  clear hok hv
  go_enter Try.func42, Try.ntmps42
  go_upto_region 1 with fail
  replace HM := Aside0.mk (HM.out.alloc #[.pointer none, .int .i64 0] 68)
  generalize w.alloc (.cells #[.pointer none, .int .i64 0] 68) = w1 at *
  generalize w.heap.size = g2 at *
  go_upto_region 2 with (go_at_call 43; have hbel := HM.out.1; (with_reducible refine (simpleOf_no A c l _ (Kd.C_below HR.out hbel) HC.out HV.out).mono ?_); rintro e w3 ⟨rfl, hb⟩; clear hbel; replace HM := Aside0.mk (HM.out.keep hb); clear hb)
  replace HM := Aside0.mk (HM.out.alloc #[.pointer none, .int .i64 0] 58)
  generalize w3.alloc (.cells #[.pointer none, .int .i64 0] 58) = w5 at *
  generalize w3.heap.size = g4 at *
  have c0 : w5.cell? ⟨g4, 0, none⟩ = some (.pointer none) := blk_cell HM.out.a0 0
  have c1 : w5.cell? ⟨g4, 1, none⟩ = some (.int .i64 0) := blk_cell HM.out.a0 1
  have d0 : w5.cell? ⟨g2, 0, none⟩ = some (.pointer none) := blk_cell HM.out.a1 0
  have d1 : w5.cell? ⟨g2, 1, none⟩ = some (.int .i64 0) := blk_cell HM.out.a1 1
  have f0 := blk_frozen HM.out.a1 0
  have f1 := blk_frozen HM.out.a1 1
  go_wp2_with fail
  have HZ := HM.out.put2_1 (.pointer none) (.int .i64 0)
  exact bodyPost_ret (results_ct rfl _ _ g2 68 #[.pointer none, .int .i64 0] (0, 0) _ rfl HZ.a1 Try.underlying68 rfl (by kernel_rfl)) rfl ⟨rfl, HZ.1⟩
 | true =>
  have HV := Aside0.mk hok
  have hvi := vdB_iff.1 (okB_vd hok)
  have hs : arN (plX l) (plY l) l.length l.length ≤ 0 := by unfold prB at hv; rw [hok, Bool.true_and, decide_eq_false_iff_not] at hv; omega
  have hs1 := decide_eq_true hs
  clear hok hv hs
  go_enter Try.func42, Try.ntmps42
  go_upto_region 1 with fail
  replace HM := Aside0.mk (HM.out.alloc #[.pointer none, .int .i64 0] 68)
  generalize w.alloc (.cells #[.pointer none, .int .i64 0] 68) = w1 at *
  generalize w.heap.size = g2 at *
  go_upto_region 2 with (go_at_call 43; have hbel := HM.out.1; (with_reducible refine (simpleOf_yes A c l _ (Kd.C_below HR.out hbel) HC.out HV.out).mono ?_); rintro e w3 ⟨bs, rfl, hrg, hb⟩; clear hbel; replace HM := Aside0.mk (HM.out.keep hb); have HRG := Aside0.mk hrg; clear hb hrg)
  replace HM := Aside0.mk (HM.out.alloc #[.pointer (some ⟨bs 0, 0, none⟩), .int .i64 (l.length : Int)] 58)
  replace HRG := Aside0.mk (HRG.out.nextAlloc (.cells #[.pointer (some ⟨bs 0, 0, none⟩), .int .i64 (l.length : Int)] 58))
  generalize w3.alloc (.cells #[.pointer (some ⟨bs 0, 0, none⟩), .int .i64 (l.length : Int)] 58) = w5 at *
  generalize w3.heap.size = g4 at *
  have c0 : w5.cell? ⟨g4, 0, none⟩ = some (.pointer (some ⟨bs 0, 0, none⟩)) := blk_cell HM.out.a0 0
  have c1 : w5.cell? ⟨g4, 1, none⟩ = some (.int .i64 (l.length : Int)) := blk_cell HM.out.a0 1
  have d0 : w5.cell? ⟨g2, 0, none⟩ = some (.pointer none) := blk_cell HM.out.a1 0
  have d1 : w5.cell? ⟨g2, 1, none⟩ = some (.int .i64 0) := blk_cell HM.out.a1 1
  have f0 := blk_frozen HM.out.a1 0
  have f1 := blk_frozen HM.out.a1 1
  go_wp2_with (go_at_call 38; (with_reducible refine (area_calls l.length bs (plX l) (plY l) _ (by omega) HRG.out).mono ?_); rintro e w6 ⟨rfl, hb⟩; replace HRG := Aside0.mk (HRG.out.next hb); replace HM := Aside0.mk (HM.out.keep hb); clear hb c0 c1 d0 d1 f0 f1; have c0 : w6.cell? ⟨g4, 0, none⟩ = some (.pointer (some ⟨bs 0, 0, none⟩)) := blk_cell HM.out.a0 0; have c1 : w6.cell? ⟨g4, 1, none⟩ = some (.int .i64 (l.length : Int)) := blk_cell HM.out.a0 1; have d0 : w6.cell? ⟨g2, 0, none⟩ = some (.pointer none) := blk_cell HM.out.a1 0; have d1 : w6.cell? ⟨g2, 1, none⟩ = some (.int .i64 0) := blk_cell HM.out.a1 1; have f0 := blk_frozen HM.out.a1 0; have f1 := blk_frozen HM.out.a1 1)
  have HZ := HM.out.put2_1 (.pointer none) (.int .i64 0)
  exact bodyPost_ret (results_ct rfl _ _ g2 68 #[.pointer none, .int .i64 0] (0, 0) _ rfl HZ.a1 Try.underlying68 rfl (by kernel_rfl)) rfl ⟨rfl, HZ.1⟩
set_option maxHeartbeats 4000000 in
theorem parcelOf_yes (A : Option Addr) (c : Nat) (l : List S33) (w : World) (hr0 : Kd.C k33 w A l.length l) (hc0 : l.length ≤ c) (hv : prB l = true) :
  Calls Try.prog 42 #[.slice A l.length c] w fun e w' => ∃ bs, e = .returned (.tuple #[.agg #[.pointer (some ⟨bs 0, 0, none⟩), .int .i64 (l.length : Int)], .bool true]) ∧ Ring w' w'.heap.size l.length bs (plX l) (plY l) ∧ Below w.heap.size w w' := by
 have HR := Aside0.mk hr0
 have HC := Aside0.mk hc0
 have HM := Aside0.mk (Hd.nil w)
 clear hr0
 obtain ⟨hok, hs⟩ : okB l = true ∧ 0 < arN (plX l) (plY l) l.length l.length := by unfold prB at hv; rw [Bool.and_eq_true, decide_eq_true_iff] at hv; exact hv
 have HV := Aside0.mk hok
 have hvi := vdB_iff.1 (okB_vd hok)
 have hs1 : decide (arN (plX l) (plY l) l.length l.length ≤ 0) = false := decide_eq_false (by omega)
 clear hok hv hs
 go_enter Try.func42, Try.ntmps42
 go_upto_region 1 with fail
 replace HM := Aside0.mk (HM.out.alloc #[.pointer none, .int .i64 0] 68)
 generalize w.alloc (.cells #[.pointer none, .int .i64 0] 68) = w1 at *
 generalize w.heap.size = g2 at *
 go_upto_region 2 with (go_at_call 43; have hbel := HM.out.1; (with_reducible refine (simpleOf_yes A c l _ (Kd.C_below HR.out hbel) HC.out HV.out).mono ?_); rintro e w3 ⟨bs, rfl, hrg, hb⟩; clear hbel; replace HM := Aside0.mk (HM.out.keep hb); have HRG := Aside0.mk hrg; clear hb hrg)
 replace HM := Aside0.mk (HM.out.alloc #[.pointer (some ⟨bs 0, 0, none⟩), .int .i64 (l.length : Int)] 58)
 replace HRG := Aside0.mk (HRG.out.nextAlloc (.cells #[.pointer (some ⟨bs 0, 0, none⟩), .int .i64 (l.length : Int)] 58))
 generalize w3.alloc (.cells #[.pointer (some ⟨bs 0, 0, none⟩), .int .i64 (l.length : Int)] 58) = w5 at *
 generalize w3.heap.size = g4 at *
 have c0 : w5.cell? ⟨g4, 0, none⟩ = some (.pointer (some ⟨bs 0, 0, none⟩)) := blk_cell HM.out.a0 0
 have c1 : w5.cell? ⟨g4, 1, none⟩ = some (.int .i64 (l.length : Int)) := blk_cell HM.out.a0 1
 have d0 : w5.cell? ⟨g2, 0, none⟩ = some (.pointer none) := blk_cell HM.out.a1 0
 have d1 : w5.cell? ⟨g2, 1, none⟩ = some (.int .i64 0) := blk_cell HM.out.a1 1
 have f0 := blk_frozen HM.out.a1 0
 have f1 := blk_frozen HM.out.a1 1
 go_wp2_with (go_at_call 38; (with_reducible refine (area_calls l.length bs (plX l) (plY l) _ (by omega) HRG.out).mono ?_); rintro e w6 ⟨rfl, hb⟩; replace HRG := Aside0.mk (HRG.out.next hb); replace HM := Aside0.mk (HM.out.keep hb); clear hb c0 c1 d0 d1 f0 f1; have c0 : w6.cell? ⟨g4, 0, none⟩ = some (.pointer (some ⟨bs 0, 0, none⟩)) := blk_cell HM.out.a0 0; have c1 : w6.cell? ⟨g4, 1, none⟩ = some (.int .i64 (l.length : Int)) := blk_cell HM.out.a0 1; have d0 : w6.cell? ⟨g2, 0, none⟩ = some (.pointer none) := blk_cell HM.out.a1 0; have d1 : w6.cell? ⟨g2, 1, none⟩ = some (.int .i64 0) := blk_cell HM.out.a1 1; have f0 := blk_frozen HM.out.a1 0; have f1 := blk_frozen HM.out.a1 1)
 have HZ := HM.out.put2_1 (.pointer (some ⟨bs 0, 0, none⟩)) (.int .i64 (l.length : Int))
 have hne := HRG.out.ne HM.out.a1 (by decide)
 have hR2 := (HRG.out.farS (g := g2) hne 0 (.pointer (some ⟨bs 0, 0, none⟩))).farS (g := g2) hne 1 (.int .i64 (l.length : Int))
 exact bodyPost_ret (results_ct rfl _ _ g2 68 #[.pointer (some ⟨bs 0, 0, none⟩), .int .i64 (l.length : Int)] (0, 0) _ rfl HZ.a1 Try.underlying68 rfl (by kernel_rfl)) rfl ⟨bs, rfl, hR2, HZ.1⟩
def impl_ParcelValid.v (l0 : List (S33)) : Bool := prB l0
def impl_ParcelValid.f (l0 : List (S33)) : Option Bool := some (impl_ParcelValid.v l0)
set_option maxHeartbeats 4000000 in
theorem impl_ParcelValid.calls (A0 : Option Addr) (c0 : Nat) (l0 : List (S33)) (r : Bool) (w : World) (hr0 : Kd.C k33 w A0 l0.length l0) (hc0 : l0.length ≤ c0) (h : impl_ParcelValid.f l0 = some r) :
  Calls Try.prog 13 #[.slice A0 l0.length c0] w fun e w' => e = .returned (.bool r) ∧ Below w.heap.size w w' := by
 have HR := Aside0.mk hr0
 have HC := Aside0.mk hc0
 have HM := Aside0.mk (Hd.nil w)
 have h := Option.some.inj h
 clear hr0
 cases hv : prB l0 with
 | false =>
  have HV := Aside0.mk hv
  unfold impl_ParcelValid.v at h
  rw [hv] at h
  obtain rfl := h
  clear hv
  go_enter Try.func13, Try.ntmps13
  go_upto_region 2 with (go_at_call 42; have hbel := HM.out.1; (with_reducible refine (parcelOf_no A0 c0 l0 _ (Kd.C_below HR.out hbel) HC.out HV.out).mono ?_); rintro e w3 ⟨rfl, hb⟩; clear hbel; replace HM := Aside0.mk (HM.out.keep hb); clear hb)
  replace HM := Aside0.mk (HM.out.alloc #[.pointer none, .int .i64 0] 68)
  generalize w3.alloc (.cells #[.pointer none, .int .i64 0] 68) = w5 at *
  generalize w3.heap.size = g4 at *
  have c0 : w5.cell? ⟨g4, 0, none⟩ = some (.pointer none) := blk_cell HM.out.a0 0
  have c1 : w5.cell? ⟨g4, 1, none⟩ = some (.int .i64 0) := blk_cell HM.out.a0 1
  go_wp2_with fail
  go_ret
  exact ⟨rfl, HM.out.1⟩
 | true =>
  have HV := Aside0.mk hv
  unfold impl_ParcelValid.v at h
  rw [hv] at h
  obtain rfl := h
  have hvi := vdB_iff.1 (okB_vd (prB_ok hv))
  clear hv
  go_enter Try.func13, Try.ntmps13
  go_upto_region 2 with (go_at_call 42; have hbel := HM.out.1; (with_reducible refine (parcelOf_yes A0 c0 l0 _ (Kd.C_below HR.out hbel) HC.out HV.out).mono ?_); rintro e w3 ⟨bs, rfl, hrg, hb⟩; clear hbel; replace HM := Aside0.mk (HM.out.keep hb); have HRG := Aside0.mk hrg; clear hb hrg)
  replace HM := Aside0.mk (HM.out.alloc #[.pointer (some ⟨bs 0, 0, none⟩), .int .i64 (l0.length : Int)] 68)
  replace HRG := Aside0.mk (HRG.out.nextAlloc (.cells #[.pointer (some ⟨bs 0, 0, none⟩), .int .i64 (l0.length : Int)] 68))
  generalize w3.alloc (.cells #[.pointer (some ⟨bs 0, 0, none⟩), .int .i64 (l0.length : Int)] 68) = w5 at *
  generalize w3.heap.size = g4 at *
  have c0 : w5.cell? ⟨g4, 0, none⟩ = some (.pointer (some ⟨bs 0, 0, none⟩)) := blk_cell HM.out.a0 0
  have c1 : w5.cell? ⟨g4, 1, none⟩ = some (.int .i64 (l0.length : Int)) := blk_cell HM.out.a0 1
  go_wp2_with fail
  go_ret
  exact ⟨rfl, HM.out.1⟩
def impl_ParcelSplit.j0 : Nat → List (S33) → Int → Int → Bool → Option ((List (S33)) × (List (S33)) × Bool)
 | 0, _, _, _, _ => none
 | k + 1, x0, x1, x2, x28 => if x28 = true then (some ((([] : List (S33))), (([] : List (S33))), false)) else ((some (([] : List (S33)) : List (S33))).bind fun y256 => (if 0 ≤ x1 then (if x1 ≤ (wrap64 (x2 + 1)) then (if (wrap64 (x2 + 1)) ≤ (x0.length : Int) then ((some ((x0.take ((wrap64 (x2 + 1)) : Int).toNat).drop (x1 : Int).toNat : List (S33))).bind fun y259 => (if y256.length + y259.length < 8796093022208 then ((some (y256 ++ y259 : List (S33))).bind fun y263 => ((some (([] : List (S33)) : List (S33))).bind fun y266 => (if 0 ≤ x2 then (if x2 ≤ (x0.length : Int) then ((some (x0.drop (x2 : Int).toNat : List (S33))).bind fun y269 => (if y266.length + y269.length < 8796093022208 then ((some (y266 ++ y269 : List (S33))).bind fun y273 => (if 0 ≤ (wrap64 (x1 + 1)) then (if (wrap64 (x1 + 1)) ≤ (x0.length : Int) then ((some (x0.take ((wrap64 (x1 + 1)) : Int).toNat : List (S33))).bind fun y276 => (if y273.length + y276.length < 8796093022208 then ((some (y273 ++ y276 : List (S33))).bind fun y280 => ((impl_ParcelValid.f y263).bind fun t283 => (if t283 = true then ((impl_ParcelValid.f y280).bind fun t284 => (if t284 = true then (some (y263, y280, true)) else (some ((([] : List (S33))), (([] : List (S33))), false)))) else (some ((([] : List (S33))), (([] : List (S33))), false))))) else (none))) else (none)) else (none))) else (none))) else (none)) else (none)))) else (none))) else (none)) else (none)) else (none)))
def impl_ParcelSplit.f (k : Nat) (l0 : List (S33)) (a1 : Int) (a2 : Int) : Option ((List (S33)) × (List (S33)) × Bool) := (impl_ParcelValid.f l0).bind fun t249 => (if t249 = true then (if a1 < 0 then (impl_ParcelSplit.j0 k l0 a1 a2 true) else (if a1 ≥ a2 then (impl_ParcelSplit.j0 k l0 a1 a2 true) else (impl_ParcelSplit.j0 k l0 a1 a2 (decide (a2 ≥ (l0.length : Int)))))) else (impl_ParcelSplit.j0 k l0 a1 a2 true))
theorem impl_ParcelSplit.mono_l : ∀ k, (∀ y0 y1 y2 y3, LeO (impl_ParcelSplit.j0 k y0 y1 y2 y3) (impl_ParcelSplit.j0 (k + 1) y0 y1 y2 y3))
 | 0 => fun _ _ _ _ r h => by simp [impl_ParcelSplit.j0] at h
 | k + 1 => by
  have ih0 := impl_ParcelSplit.mono_l k
  ·intro y0 y1 y2 y3
   unfold impl_ParcelSplit.j0
   repeat' first
   | (with_reducible exact ih0 _ _ _ _)
   | (with_reducible exact LeO.refl _)
   | (with_reducible exact LeO.none _)
   | (with_reducible refine LeO.ite ?_ ?_)
   | (with_reducible refine LeO.bind ?_ (fun _ => ?_))
   | exact ih0 _ _ _ _
   | exact LeO.none _
   | refine LeO.ite ?_ ?_
   | refine LeO.bind ?_ (fun _ => ?_)
theorem impl_ParcelSplit.mono : ∀ a0 a1 a2 k, LeO (impl_ParcelSplit.f k a0 a1 a2) (impl_ParcelSplit.f (k + 1) a0 a1 a2) := by
 intro a0 a1 a2 k
 have ih0 := impl_ParcelSplit.mono_l k
 unfold impl_ParcelSplit.f
 repeat' first
   | (with_reducible exact ih0 _ _ _ _)
   | (with_reducible exact LeO.refl _)
   | (with_reducible exact LeO.none _)
   | (with_reducible refine LeO.ite ?_ ?_)
   | (with_reducible refine LeO.bind ?_ (fun _ => ?_))
   | exact ih0 _ _ _ _
   | exact LeO.none _
   | refine LeO.ite ?_ ?_
   | refine LeO.bind ?_ (fun _ => ?_)
set_option maxHeartbeats 8000000 in
set_option maxRecDepth 100000 in
theorem impl_ParcelSplit.calls (k : Nat) (A0 : Option Addr) (c0 : Nat) (l0 : List (S33)) (a1 : Int) (a2 : Int) (r1 : List (S33)) (r2 : List (S33)) (r3 : Bool) (w : World) (hr0 : Kd.C k33 w A0 l0.length l0) (hc0 : l0.length ≤ c0) (h : impl_ParcelSplit.f k l0 a1 a2 = some (r1, r2, r3)) :
  Calls Try.prog 8 #[.slice A0 l0.length c0, .int .i64 a1, .int .i64 a2] w fun e w' => ∃ v0_ v1_ : Value, e = .returned (.tuple #[v0_, v1_, .bool r3]) ∧ Kd.R k33 33 w' w.heap.size (fun k_ => some k_ ≠ (v1_ : Value).ownBlock) v0_ r1 ∧ Kd.R k33 33 w' w.heap.size (fun k_ => some k_ ≠ (v0_ : Value).ownBlock) v1_ r2 ∧ Below w.heap.size w w' := by
 have HR0 := Aside0.mk hr0
 have HC0 := Aside0.mk hc0
 clear hr0 hc0
 have HB := Aside0.mk (Below.refl w.heap.size w)
 have H : ((impl_ParcelValid.f l0).bind fun t249 => (if t249 = true then (if a1 < 0 then (impl_ParcelSplit.j0 k l0 a1 a2 true) else (if a1 ≥ a2 then (impl_ParcelSplit.j0 k l0 a1 a2 true) else (impl_ParcelSplit.j0 k l0 a1 a2 (decide (a2 ≥ (l0.length : Int)))))) else (impl_ParcelSplit.j0 k l0 a1 a2 true))) = some (r1, r2, r3) := h
 clear h
 have HC4 := Aside0.mk H
 clear H
 go_enter Try.func8, Try.ntmps8
 go_upto_region 1 with (fail)
 go_cut [28] (fun v28 wc => ∃ (kq : Nat) (x28_3 : Bool), v28 = .bool x28_3 ∧ Aside0 (impl_ParcelSplit.j0 kq l0 a1 a2 x28_3 = some (r1, r2, r3)) ∧ Aside0 (kq ≤ k) ∧ Aside0 (Below w.heap.size w wc))
 case first =>
  have H := HC4.out
  clear HC4
  replace H := Option.bind_eq_some_iff.mp H
  obtain ⟨t249, A50, H⟩ := H
  replace H : (if t249 = true then (if a1 < 0 then (impl_ParcelSplit.j0 k l0 a1 a2 true) else (if a1 ≥ a2 then (impl_ParcelSplit.j0 k l0 a1 a2 true) else (impl_ParcelSplit.j0 k l0 a1 a2 (decide (a2 ≥ (l0.length : Int)))))) else (impl_ParcelSplit.j0 k l0 a1 a2 true)) = some (r1, r2, r3) := H
  have A5 := Aside0.mk A50
  clear A50
  by_cases c6 : t249 = true
  ·subst c6
   have H1 : (if a1 < 0 then (impl_ParcelSplit.j0 k l0 a1 a2 true) else (if a1 ≥ a2 then (impl_ParcelSplit.j0 k l0 a1 a2 true) else (impl_ParcelSplit.j0 k l0 a1 a2 (decide (a2 ≥ (l0.length : Int)))))) = some (r1, r2, r3) := by rw [if_pos rfl] at H; exact H
   clear H
   have H := H1
   clear H1
   by_cases c7 : a1 < 0
   ·rw [if_pos c7] at H
    have c7b0 : decide (a1 < 0) = true := decide_eq_true c7
    clear c7
    (first | rw [c7b0] | (simp only [i64_w, i32_w]; rw [c7b0]) | skip)
    have H' := Aside0.mk H
    clear H
    go_wp2_with (first | ((with_reducible refine gate_callee (f := 13) rfl ?_); refine goesL_ (some 12) rfl rfl Try.func13 (by kernel_rfl) rfl #[.slice A0 l0.length c0] rfl al ?_; (with_reducible refine (impl_ParcelValid.calls _ _ l0 true _ ?side1 ?side2 A5.out).mono ?_); (case side1 => exact cm (Kd.C_below HR0.out HB.out)); (case side2 => exact HC0.out); rintro e w8 ⟨rfl, hb⟩; refine ⟨_, rfl, ?_⟩; have n0_ := Aside0.mk (below_step (lb HB.out) hb); clear HB; have HB := n0_; clear n0_; (try clear hb); (try clear hb2); (try clear hk); (try clear hi)))
    go_meet
    case rel => exact ⟨_, (true), (by first | rfl | (simp; done) | (simp [*]; done)), H', ⟨by first | omega | exact Nat.le_refl _⟩, ⟨lb HB.out⟩⟩
   ·rw [if_neg c7] at H
    have c7b0 : decide (a1 < 0) = false := decide_eq_false c7
    clear c7
    (first | rw [c7b0] | (simp only [i64_w, i32_w]; rw [c7b0]) | skip)
    by_cases c9 : a1 ≥ a2
    ·rw [if_pos c9] at H
     have c9b0 : decide (a2 ≤ a1) = true := decide_eq_true c9
     clear c9
     have H' := Aside0.mk H
     clear H
     go_wp2_with (first | ((with_reducible refine gate_callee (f := 13) rfl ?_); refine goesL_ (some 12) rfl rfl Try.func13 (by kernel_rfl) rfl #[.slice A0 l0.length c0] rfl al ?_; (with_reducible refine (impl_ParcelValid.calls _ _ l0 true _ ?side1 ?side2 A5.out).mono ?_); (case side1 => exact cm (Kd.C_below HR0.out HB.out)); (case side2 => exact HC0.out); rintro e w10 ⟨rfl, hb⟩; refine ⟨_, rfl, ?_⟩; have n0_ := Aside0.mk (below_step (lb HB.out) hb); clear HB; have HB := n0_; clear n0_; (try clear hb); (try clear hb2); (try clear hk); (try clear hi)))
     go_meet
     case rel => exact ⟨_, (true), (by first | rfl | (simp; done) | (simp [*]; done)), H', ⟨by first | omega | exact Nat.le_refl _⟩, ⟨lb HB.out⟩⟩
    ·rw [if_neg c9] at H
     have c9b0 : decide (a2 ≤ a1) = false := decide_eq_false c9
     clear c9
     have H' := Aside0.mk H
     clear H
     go_wp2_with (first | ((with_reducible refine gate_callee (f := 13) rfl ?_); refine goesL_ (some 12) rfl rfl Try.func13 (by kernel_rfl) rfl #[.slice A0 l0.length c0] rfl al ?_; (with_reducible refine (impl_ParcelValid.calls _ _ l0 true _ ?side1 ?side2 A5.out).mono ?_); (case side1 => exact cm (Kd.C_below HR0.out HB.out)); (case side2 => exact HC0.out); rintro e w11 ⟨rfl, hb⟩; refine ⟨_, rfl, ?_⟩; have n0_ := Aside0.mk (below_step (lb HB.out) hb); clear HB; have HB := n0_; clear n0_; (try clear hb); (try clear hb2); (try clear hk); (try clear hi)))
     go_meet
     case rel => exact ⟨_, (decide (a2 ≥ (l0.length : Int))), (by first | rfl | (simp; done) | (simp [*]; done)), H', ⟨by first | omega | exact Nat.le_refl _⟩, ⟨lb HB.out⟩⟩
  ·replace c6 := Bool.eq_false_iff.mpr c6
   subst c6
   have H1 : (impl_ParcelSplit.j0 k l0 a1 a2 true) = some (r1, r2, r3) := by rw [if_neg (show ¬ (false = true) by decide)] at H; exact H
   clear H
   have H := H1
   clear H1
   have H' := Aside0.mk H
   clear H
   go_wp2_with (first | ((with_reducible refine gate_callee (f := 13) rfl ?_); refine goesL_ (some 12) rfl rfl Try.func13 (by kernel_rfl) rfl #[.slice A0 l0.length c0] rfl al ?_; (with_reducible refine (impl_ParcelValid.calls _ _ l0 false _ ?side1 ?side2 A5.out).mono ?_); (case side1 => exact cm (Kd.C_below HR0.out HB.out)); (case side2 => exact HC0.out); rintro e w12 ⟨rfl, hb⟩; refine ⟨_, rfl, ?_⟩; have n0_ := Aside0.mk (below_step (lb HB.out) hb); clear HB; have HB := n0_; clear n0_; (try clear hb); (try clear hb2); (try clear hk); (try clear hi)))
   go_meet
   case rel => exact ⟨_, (true), (by first | rfl | (simp; done) | (simp [*]; done)), H', ⟨by first | omega | exact Nat.le_refl _⟩, ⟨lb HB.out⟩⟩
 case rest =>
  clear HC4
  try clear c1
  try clear p2
  try clear c6
  try clear c7
  try clear c7b0
  try clear c8
  try clear c9
  try clear c9b0
  obtain ⟨kq, x28_3, rfl, HA, HJ3, HB⟩ := hcut
  cases kq with
  | zero => exact absurd HA.out (by simp [impl_ParcelSplit.j0])
  | succ kj3 =>
   have H := HA.out
   clear HA
   simp only [impl_ParcelSplit.j0] at H
   by_cases c13 : x28_3 = true
   ·subst c13
    have H1 : (some ((([] : List (S33))), (([] : List (S33))), false)) = some (r1, r2, r3) := by rw [if_pos rfl] at H; exact H
    clear H
    have H := H1
    clear H1
    obtain ⟨y250, hy250⟩ : ∃ y_ : List (S33), y_ = (([] : List (S33))) := ⟨_, rfl⟩
    replace H : (some (y250, (([] : List (S33))), false)) = some (r1, r2, r3) := by first | (rw [hy250]; with_reducible exact H) | (have H2_ := (Option.bind_some _ _).symm.trans H; rw [hy250]; with_reducible exact H2_) | (have H2_ := (Option.bind_some _ _).symm.trans H; with_reducible exact H2_) | with_reducible exact H | (rw [hy250]; exact H) | exact H
    have Ny250 := Aside0.mk hy250
    clear hy250
    obtain ⟨y253, hy253⟩ : ∃ y_ : List (S33), y_ = (([] : List (S33))) := ⟨_, rfl⟩
    replace H : (some (y250, y253, false)) = some (r1, r2, r3) := by first | (rw [hy253]; with_reducible exact H) | (have H2_ := (Option.bind_some _ _).symm.trans H; rw [hy253]; with_reducible exact H2_) | (have H2_ := (Option.bind_some _ _).symm.trans H; with_reducible exact H2_) | with_reducible exact H | (rw [hy253]; exact H) | exact H
    have Ny253 := Aside0.mk hy253
    clear hy253
    simp only [Option.some.injEq, Prod.mk.injEq] at H
    obtain ⟨rfl, rfl, rfl⟩ := H
    go_wp2_with (first | ((with_reducible refine gate_dst (N := 29) rfl ?_); (try (refine gate_guard (by rfl) ?_; dsimp only)); refine Kd.R_lit k33 _ 33 ?hg (N := 29) ?hd (xs := ([] : List (S33))) (inner := []) (ok := fun _ => True) (okp := fun _ => True) ?hr ?hp (fun _ hk => hk) trivial (Below.refl _ _) (Nat.le_refl _) (by simp) ?_; (case hd => rfl); (case hg => rfl); (case hr => first | (go_simp; done) | (go_simp; rfl)); (case hp => exact (Reps.none _ _)); intro v251 w14 ho15 hb hg_ hnew_; clear hg_ hnew_; (first | rw [← Ny250.out] at ho15 | (simp only [Int.reduceToNat] at ho15; rw [← Ny250.out] at ho15)); have n0_ := Aside0.mk (Kd.R_lower ho15 (below_size (lb HB.out))); have n1_ := Aside0.mk (below_step (lb HB.out) hb); clear HB; have HO252 := n0_; have HB := n1_; clear n0_ n1_; clear hb ho15) | ((with_reducible refine gate_dst (N := 30) rfl ?_); (try (refine gate_guard (by rfl) ?_; dsimp only)); refine Kd.R_lit k33 _ 33 ?hg (N := 30) ?hd (xs := ([] : List (S33))) (inner := []) (ok := fun _ => True) (okp := fun _ => True) ?hr ?hp (fun _ hk => hk) trivial (Below.refl _ _) (Nat.le_refl _) (by simp) ?_; (case hd => rfl); (case hg => rfl); (case hr => first | (go_simp; done) | (go_simp; rfl)); (case hp => exact (Reps.none _ _)); intro v254 w16 ho17 hb hg_ hnew_; clear hg_ hnew_; (first | rw [← Ny253.out] at ho17 | (simp only [Int.reduceToNat] at ho17; rw [← Ny253.out] at ho17)); have n0_ := Aside0.mk (Kd.R_elder' (rm HO252.out) (Kd.R_base ho17) hb); have n1_ := Aside0.mk (Kd.R_lower (Kd.R_new' ho17 (Kd.R_lt (rm HO252.out))) (below_size (lb HB.out))); have n2_ := Aside0.mk (below_step (lb HB.out) hb); clear HO252; clear HB; have HO252 := n0_; have HO255 := n1_; have HB := n2_; clear n0_ n1_ n2_; clear hb ho17))
    go_ret3
    exact ⟨_, _, er, rm (Kd.R_mono HO252.out (fun _ hk => by first | exact hk.2 | exact trivial)), rm (Kd.R_mono HO255.out (fun _ hk => by first | exact hk.2 | exact trivial)), lb HB.out⟩
   ·replace c13 := Bool.eq_false_iff.mpr c13
    subst c13
    have H1 : ((some (([] : List (S33)) : List (S33))).bind fun y256 => (if 0 ≤ a1 then (if a1 ≤ (wrap64 (a2 + 1)) then (if (wrap64 (a2 + 1)) ≤ (l0.length : Int) then ((some ((l0.take ((wrap64 (a2 + 1)) : Int).toNat).drop (a1 : Int).toNat : List (S33))).bind fun y259 => (if y256.length + y259.length < 8796093022208 then ((some (y256 ++ y259 : List (S33))).bind fun y263 => ((some (([] : List (S33)) : List (S33))).bind fun y266 => (if 0 ≤ a2 then (if a2 ≤ (l0.length : Int) then ((some (l0.drop (a2 : Int).toNat : List (S33))).bind fun y269 => (if y266.length + y269.length < 8796093022208 then ((some (y266 ++ y269 : List (S33))).bind fun y273 => (if 0 ≤ (wrap64 (a1 + 1)) then (if (wrap64 (a1 + 1)) ≤ (l0.length : Int) then ((some (l0.take ((wrap64 (a1 + 1)) : Int).toNat : List (S33))).bind fun y276 => (if y273.length + y276.length < 8796093022208 then ((some (y273 ++ y276 : List (S33))).bind fun y280 => ((impl_ParcelValid.f y263).bind fun t283 => (if t283 = true then ((impl_ParcelValid.f y280).bind fun t284 => (if t284 = true then (some (y263, y280, true)) else (some ((([] : List (S33))), (([] : List (S33))), false)))) else (some ((([] : List (S33))), (([] : List (S33))), false))))) else (none))) else (none)) else (none))) else (none))) else (none)) else (none)))) else (none))) else (none)) else (none)) else (none))) = some (r1, r2, r3) := by rw [if_neg (show ¬ (false = true) by decide)] at H; exact H
    clear H
    have H := H1
    clear H1
    obtain ⟨y256, hy256⟩ : ∃ y_ : List (S33), y_ = (([] : List (S33))) := ⟨_, rfl⟩
    replace H : (if 0 ≤ a1 then (if a1 ≤ (wrap64 (a2 + 1)) then (if (wrap64 (a2 + 1)) ≤ (l0.length : Int) then ((some ((l0.take ((wrap64 (a2 + 1)) : Int).toNat).drop (a1 : Int).toNat : List (S33))).bind fun y259 => (if y256.length + y259.length < 8796093022208 then ((some (y256 ++ y259 : List (S33))).bind fun y263 => ((some (([] : List (S33)) : List (S33))).bind fun y266 => (if 0 ≤ a2 then (if a2 ≤ (l0.length : Int) then ((some (l0.drop (a2 : Int).toNat : List (S33))).bind fun y269 => (if y266.length + y269.length < 8796093022208 then ((some (y266 ++ y269 : List (S33))).bind fun y273 => (if 0 ≤ (wrap64 (a1 + 1)) then (if (wrap64 (a1 + 1)) ≤ (l0.length : Int) then ((some (l0.take ((wrap64 (a1 + 1)) : Int).toNat : List (S33))).bind fun y276 => (if y273.length + y276.length < 8796093022208 then ((some (y273 ++ y276 : List (S33))).bind fun y280 => ((impl_ParcelValid.f y263).bind fun t283 => (if t283 = true then ((impl_ParcelValid.f y280).bind fun t284 => (if t284 = true then (some (y263, y280, true)) else (some ((([] : List (S33))), (([] : List (S33))), false)))) else (some ((([] : List (S33))), (([] : List (S33))), false))))) else (none))) else (none)) else (none))) else (none))) else (none)) else (none)))) else (none))) else (none)) else (none)) else (none)) = some (r1, r2, r3) := by first | (rw [hy256]; with_reducible exact H) | (have H2_ := (Option.bind_some _ _).symm.trans H; rw [hy256]; with_reducible exact H2_) | (have H2_ := (Option.bind_some _ _).symm.trans H; with_reducible exact H2_) | with_reducible exact H | (rw [hy256]; exact H) | exact H
    have Ny256 := Aside0.mk hy256
    clear hy256
    by_cases c18 : 0 ≤ a1
    ·rw [if_pos c18] at H
     have c18b0 := eq_true c18
     have c18b1 : decide (0 ≤ a1) = true := decide_eq_true c18
     clear c18
     by_cases c19 : a1 ≤ (wrap64 (a2 + 1))
     ·rw [if_pos c19] at H
      have c19b0 := eq_true c19
      have c19b1 : decide (a1 ≤ (wrap64 (a2 + 1))) = true := decide_eq_true c19
      by_cases c20 : (wrap64 (a2 + 1)) ≤ (l0.length : Int)
      ·rw [if_pos c20] at H
       have c20b0 := eq_true c20
       have c20b1 : decide ((wrap64 (a2 + 1)) ≤ (l0.length : Int)) = true := decide_eq_true c20
       obtain ⟨y259, hy259⟩ : ∃ y_ : List (S33), y_ = ((l0.take ((wrap64 (a2 + 1)) : Int).toNat).drop (a1 : Int).toNat) := ⟨_, rfl⟩
       replace H : (if y256.length + y259.length < 8796093022208 then ((some (y256 ++ y259 : List (S33))).bind fun y263 => ((some (([] : List (S33)) : List (S33))).bind fun y266 => (if 0 ≤ a2 then (if a2 ≤ (l0.length : Int) then ((some (l0.drop (a2 : Int).toNat : List (S33))).bind fun y269 => (if y266.length + y269.length < 8796093022208 then ((some (y266 ++ y269 : List (S33))).bind fun y273 => (if 0 ≤ (wrap64 (a1 + 1)) then (if (wrap64 (a1 + 1)) ≤ (l0.length : Int) then ((some (l0.take ((wrap64 (a1 + 1)) : Int).toNat : List (S33))).bind fun y276 => (if y273.length + y276.length < 8796093022208 then ((some (y273 ++ y276 : List (S33))).bind fun y280 => ((impl_ParcelValid.f y263).bind fun t283 => (if t283 = true then ((impl_ParcelValid.f y280).bind fun t284 => (if t284 = true then (some (y263, y280, true)) else (some ((([] : List (S33))), (([] : List (S33))), false)))) else (some ((([] : List (S33))), (([] : List (S33))), false))))) else (none))) else (none)) else (none))) else (none))) else (none)) else (none)))) else (none)) = some (r1, r2, r3) := by first | (rw [hy259]; with_reducible exact H) | (have H2_ := (Option.bind_some _ _).symm.trans H; rw [hy259]; with_reducible exact H2_) | (have H2_ := (Option.bind_some _ _).symm.trans H; with_reducible exact H2_) | with_reducible exact H | (rw [hy259]; exact H) | exact H
       have Ny259 := Aside0.mk hy259
       clear hy259
       by_cases c21 : y256.length + y259.length < 8796093022208
       ·rw [if_pos c21] at H
        have LMc21 := Aside0.mk c21
        clear c21
        obtain ⟨y263, hy263⟩ : ∃ y_ : List (S33), y_ = (y256 ++ y259) := ⟨_, rfl⟩
        replace H : ((some (([] : List (S33)) : List (S33))).bind fun y266 => (if 0 ≤ a2 then (if a2 ≤ (l0.length : Int) then ((some (l0.drop (a2 : Int).toNat : List (S33))).bind fun y269 => (if y266.length + y269.length < 8796093022208 then ((some (y266 ++ y269 : List (S33))).bind fun y273 => (if 0 ≤ (wrap64 (a1 + 1)) then (if (wrap64 (a1 + 1)) ≤ (l0.length : Int) then ((some (l0.take ((wrap64 (a1 + 1)) : Int).toNat : List (S33))).bind fun y276 => (if y273.length + y276.length < 8796093022208 then ((some (y273 ++ y276 : List (S33))).bind fun y280 => ((impl_ParcelValid.f y263).bind fun t283 => (if t283 = true then ((impl_ParcelValid.f y280).bind fun t284 => (if t284 = true then (some (y263, y280, true)) else (some ((([] : List (S33))), (([] : List (S33))), false)))) else (some ((([] : List (S33))), (([] : List (S33))), false))))) else (none))) else (none)) else (none))) else (none))) else (none)) else (none))) = some (r1, r2, r3) := by first | (rw [hy263]; with_reducible exact H) | (have H2_ := (Option.bind_some _ _).symm.trans H; rw [hy263]; with_reducible exact H2_) | (have H2_ := (Option.bind_some _ _).symm.trans H; with_reducible exact H2_) | with_reducible exact H | (rw [hy263]; exact H) | exact H
        have Ny263 := Aside0.mk hy263
        clear hy263
        obtain ⟨y266, hy266⟩ : ∃ y_ : List (S33), y_ = (([] : List (S33))) := ⟨_, rfl⟩
        replace H : (if 0 ≤ a2 then (if a2 ≤ (l0.length : Int) then ((some (l0.drop (a2 : Int).toNat : List (S33))).bind fun y269 => (if y266.length + y269.length < 8796093022208 then ((some (y266 ++ y269 : List (S33))).bind fun y273 => (if 0 ≤ (wrap64 (a1 + 1)) then (if (wrap64 (a1 + 1)) ≤ (l0.length : Int) then ((some (l0.take ((wrap64 (a1 + 1)) : Int).toNat : List (S33))).bind fun y276 => (if y273.length + y276.length < 8796093022208 then ((some (y273 ++ y276 : List (S33))).bind fun y280 => ((impl_ParcelValid.f y263).bind fun t283 => (if t283 = true then ((impl_ParcelValid.f y280).bind fun t284 => (if t284 = true then (some (y263, y280, true)) else (some ((([] : List (S33))), (([] : List (S33))), false)))) else (some ((([] : List (S33))), (([] : List (S33))), false))))) else (none))) else (none)) else (none))) else (none))) else (none)) else (none)) = some (r1, r2, r3) := by first | (rw [hy266]; with_reducible exact H) | (have H2_ := (Option.bind_some _ _).symm.trans H; rw [hy266]; with_reducible exact H2_) | (have H2_ := (Option.bind_some _ _).symm.trans H; with_reducible exact H2_) | with_reducible exact H | (rw [hy266]; exact H) | exact H
        have Ny266 := Aside0.mk hy266
        clear hy266
        by_cases c22 : 0 ≤ a2
        ·rw [if_pos c22] at H
         have c22b0 := eq_true c22
         have c22b1 : decide (0 ≤ a2) = true := decide_eq_true c22
         clear c22
         by_cases c23 : a2 ≤ (l0.length : Int)
         ·rw [if_pos c23] at H
          have c23b0 := eq_true c23
          have c23b1 : decide (a2 ≤ (l0.length : Int)) = true := decide_eq_true c23
          clear c23
          obtain ⟨y269, hy269⟩ : ∃ y_ : List (S33), y_ = (l0.drop (a2 : Int).toNat) := ⟨_, rfl⟩
          replace H : (if y266.length + y269.length < 8796093022208 then ((some (y266 ++ y269 : List (S33))).bind fun y273 => (if 0 ≤ (wrap64 (a1 + 1)) then (if (wrap64 (a1 + 1)) ≤ (l0.length : Int) then ((some (l0.take ((wrap64 (a1 + 1)) : Int).toNat : List (S33))).bind fun y276 => (if y273.length + y276.length < 8796093022208 then ((some (y273 ++ y276 : List (S33))).bind fun y280 => ((impl_ParcelValid.f y263).bind fun t283 => (if t283 = true then ((impl_ParcelValid.f y280).bind fun t284 => (if t284 = true then (some (y263, y280, true)) else (some ((([] : List (S33))), (([] : List (S33))), false)))) else (some ((([] : List (S33))), (([] : List (S33))), false))))) else (none))) else (none)) else (none))) else (none)) = some (r1, r2, r3) := by first | (rw [hy269]; with_reducible exact H) | (have H2_ := (Option.bind_some _ _).symm.trans H; rw [hy269]; with_reducible exact H2_) | (have H2_ := (Option.bind_some _ _).symm.trans H; with_reducible exact H2_) | with_reducible exact H | (rw [hy269]; exact H) | exact H
          have Ny269 := Aside0.mk hy269
          clear hy269
          by_cases c24 : y266.length + y269.length < 8796093022208
          ·rw [if_pos c24] at H
           have LMc24 := Aside0.mk c24
           clear c24
           obtain ⟨y273, hy273⟩ : ∃ y_ : List (S33), y_ = (y266 ++ y269) := ⟨_, rfl⟩
           replace H : (if 0 ≤ (wrap64 (a1 + 1)) then (if (wrap64 (a1 + 1)) ≤ (l0.length : Int) then ((some (l0.take ((wrap64 (a1 + 1)) : Int).toNat : List (S33))).bind fun y276 => (if y273.length + y276.length < 8796093022208 then ((some (y273 ++ y276 : List (S33))).bind fun y280 => ((impl_ParcelValid.f y263).bind fun t283 => (if t283 = true then ((impl_ParcelValid.f y280).bind fun t284 => (if t284 = true then (some (y263, y280, true)) else (some ((([] : List (S33))), (([] : List (S33))), false)))) else (some ((([] : List (S33))), (([] : List (S33))), false))))) else (none))) else (none)) else (none)) = some (r1, r2, r3) := by first | (rw [hy273]; with_reducible exact H) | (have H2_ := (Option.bind_some _ _).symm.trans H; rw [hy273]; with_reducible exact H2_) | (have H2_ := (Option.bind_some _ _).symm.trans H; with_reducible exact H2_) | with_reducible exact H | (rw [hy273]; exact H) | exact H
           have Ny273 := Aside0.mk hy273
           clear hy273
           obtain ⟨ji25, hji25⟩ : ∃ j_ : Int, (wrap64 (a1 + 1)) = j_ := ⟨_, rfl⟩
           replace H : (if 0 ≤ (ji25) then (if (ji25) ≤ (l0.length : Int) then ((some (l0.take ((ji25) : Int).toNat : List (S33))).bind fun y276 => (if y273.length + y276.length < 8796093022208 then ((some (y273 ++ y276 : List (S33))).bind fun y280 => ((impl_ParcelValid.f y263).bind fun t283 => (if t283 = true then ((impl_ParcelValid.f y280).bind fun t284 => (if t284 = true then (some (y263, y280, true)) else (some ((([] : List (S33))), (([] : List (S33))), false)))) else (some ((([] : List (S33))), (([] : List (S33))), false))))) else (none))) else (none)) else (none)) = some (r1, r2, r3) := by first | (rw [hji25] at H; exact H) | (simp only [hji25] at H ⊢; exact H)
           have hji25w : (IntKind.i64.wrap (a1 + 1)) = ji25 := (i64_w _).trans hji25
           by_cases c26 : 0 ≤ (ji25)
           ·rw [if_pos c26] at H
            have c26b0 := eq_true c26
            have c26b1 : decide (0 ≤ (ji25)) = true := decide_eq_true c26
            clear c26
            by_cases c27 : (ji25) ≤ (l0.length : Int)
            ·rw [if_pos c27] at H
             have c27b0 := eq_true c27
             have c27b1 : decide ((ji25) ≤ (l0.length : Int)) = true := decide_eq_true c27
             clear c27
             obtain ⟨y276, hy276⟩ : ∃ y_ : List (S33), y_ = (l0.take ((ji25) : Int).toNat) := ⟨_, rfl⟩
             replace H : (if y273.length + y276.length < 8796093022208 then ((some (y273 ++ y276 : List (S33))).bind fun y280 => ((impl_ParcelValid.f y263).bind fun t283 => (if t283 = true then ((impl_ParcelValid.f y280).bind fun t284 => (if t284 = true then (some (y263, y280, true)) else (some ((([] : List (S33))), (([] : List (S33))), false)))) else (some ((([] : List (S33))), (([] : List (S33))), false))))) else (none)) = some (r1, r2, r3) := by first | (rw [hy276]; with_reducible exact H) | (have H2_ := (Option.bind_some _ _).symm.trans H; rw [hy276]; with_reducible exact H2_) | (have H2_ := (Option.bind_some _ _).symm.trans H; with_reducible exact H2_) | with_reducible exact H | (rw [hy276]; exact H) | exact H
             have Ny276 := Aside0.mk hy276
             clear hy276
             by_cases c28 : y273.length + y276.length < 8796093022208
             ·rw [if_pos c28] at H
              have LMc28 := Aside0.mk c28
              clear c28
              obtain ⟨y280, hy280⟩ : ∃ y_ : List (S33), y_ = (y273 ++ y276) := ⟨_, rfl⟩
              replace H : ((impl_ParcelValid.f y263).bind fun t283 => (if t283 = true then ((impl_ParcelValid.f y280).bind fun t284 => (if t284 = true then (some (y263, y280, true)) else (some ((([] : List (S33))), (([] : List (S33))), false)))) else (some ((([] : List (S33))), (([] : List (S33))), false)))) = some (r1, r2, r3) := by first | (rw [hy280]; with_reducible exact H) | (have H2_ := (Option.bind_some _ _).symm.trans H; rw [hy280]; with_reducible exact H2_) | (have H2_ := (Option.bind_some _ _).symm.trans H; with_reducible exact H2_) | with_reducible exact H | (rw [hy280]; exact H) | exact H
              have Ny280 := Aside0.mk hy280
              clear hy280
              replace H := Option.bind_eq_some_iff.mp H
              obtain ⟨t283, A290, H⟩ := H
              replace H : (if t283 = true then ((impl_ParcelValid.f y280).bind fun t284 => (if t284 = true then (some (y263, y280, true)) else (some ((([] : List (S33))), (([] : List (S33))), false)))) else (some ((([] : List (S33))), (([] : List (S33))), false))) = some (r1, r2, r3) := H
              have A29 := Aside0.mk A290
              clear A290
              by_cases c30 : t283 = true
              ·subst c30
               have H1 : ((impl_ParcelValid.f y280).bind fun t284 => (if t284 = true then (some (y263, y280, true)) else (some ((([] : List (S33))), (([] : List (S33))), false)))) = some (r1, r2, r3) := by rw [if_pos rfl] at H; exact H
               clear H
               have H := H1
               clear H1
               replace H := Option.bind_eq_some_iff.mp H
               obtain ⟨t284, A310, H⟩ := H
               replace H : (if t284 = true then (some (y263, y280, true)) else (some ((([] : List (S33))), (([] : List (S33))), false))) = some (r1, r2, r3) := H
               have A31 := Aside0.mk A310
               clear A310
               by_cases c32 : t284 = true
               ·subst c32
                have H1 : (some (y263, y280, true)) = some (r1, r2, r3) := by rw [if_pos rfl] at H; exact H
                clear H
                have H := H1
                clear H1
                simp only [Option.some.injEq, Prod.mk.injEq] at H
                obtain ⟨rfl, rfl, rfl⟩ := H
                go_wp2_with (first | ((with_reducible refine gate_dst (N := 31) rfl ?_); (try (refine gate_guard (by rfl) ?_; dsimp only)); refine Kd.R_lit k33 _ 33 ?hg (N := 31) ?hd (xs := ([] : List (S33))) (inner := []) (ok := fun _ => True) (okp := fun _ => True) ?hr ?hp (fun _ hk => hk) trivial (Below.refl _ _) (Nat.le_refl _) (by simp) ?_; (case hd => rfl); (case hg => rfl); (case hr => first | (go_simp; done) | (go_simp; rfl)); (case hp => exact (Reps.none _ _)); intro v257 w33 ho34 hb hg_ hnew_; clear hg_ hnew_; (first | rw [← Ny256.out] at ho34 | (simp only [Int.reduceToNat] at ho34; rw [← Ny256.out] at ho34)); have n0_ := Aside0.mk (Kd.R_lower ho34 (below_size (lb HB.out))); have n1_ := Aside0.mk (below_step (lb HB.out) hb); clear HB; have HO258 := n0_; have HB := n1_; clear n0_ n1_; clear hb ho34; have q35 : ((wrap64 (a2 + 1)) : Int) ≤ ((l0.length : Int) : Int) := oa; obtain ⟨i035, hi035, _, hsz35, _⟩ := info_parts info33; have hroom35 : l0.length ≤ c0 := HC0.out; have hC35 : Kd.C k33 _ A0 l0.length l0 := HR0.out; have ql35 : (a1 : Int) ≤ ((wrap64 (a2 + 1)) : Int) := oa; have q035 : (0 : Int) ≤ (a1 : Int) := oa; have hcut35 := cut_mid (P := Try.prog) 23 33 .i64 .i64 Try.underlying23 hi035 2 hsz35 A0 l0.length c0 a1 (wrap64 (a2 + 1)) q035 ql35 q35 hroom35; have hr35 := Kd.C_mid (lo := (a1 : Int).toNat) (hi := ((wrap64 (a2 + 1)) : Int).toNat) (c := c0) hC35 (by omega) (by omega) hroom35; obtain ⟨A35, hA35⟩ : ∃ A1, A1 = (if c0 = (a1 : Int).toNat then A0 else (A0 : Option Addr).map (·.add ((a1 : Int).toNat * 2))) := ⟨_, rfl⟩; obtain ⟨c35, hc35⟩ : ∃ c1, c1 = c0 - (a1 : Int).toNat := ⟨_, rfl⟩; have hy35 : y259.length = ((wrap64 (a2 + 1)) : Int).toNat - (a1 : Int).toNat := (by rw [Ny259.out, List.length_drop, List.length_take] <;> omega); rw [show ((l0).take ((wrap64 (a2 + 1)) : Int).toNat).drop (a1 : Int).toNat = y259 from Ny259.out.symm] at hr35; replace hr35 : Kd.C k33 _ A35 y259.length y259 := (by rw [hA35]; exact hr35); rw [← hy35, ← hA35, ← hc35] at hcut35; have HR262 := Aside0.mk hr35; have HC262 := Aside0.mk (show y259.length ≤ c35 from by rw [hy35, hc35]; exact Nat.sub_le_sub_right (Nat.le_trans (by omega) hroom35) _); clear hr35 hC35 hroom35 hi035 hsz35 hc35; have KY35 := Aside0.mk hy35; have KA35 := Aside0.mk hA35; clear hy35 hA35; replace q35 := eq_true q35) | ((with_reducible refine gate_builtin (b := .append) (xs := #[.tmp 31, .tmp 36]) rfl ?_); (try (refine gate_guard (by rfl) ?_; dsimp only)); at_builtin; refine Kd.R_append_rows k33 (w0 := w) w.heap.size rfl (.tmp 31) (.tmp 36) 23 33 (.agg #[(.int .i64 0), (.int .i64 0)]) 16 rfl Try.underlying23 info33 rfl (by decide) (by omega) v257 y256 y259 _ _ _ (fun _ => True) (fun _ => False) rfl rfl ?aO ?aR (fun _ _ h => h) (fun _ h => h.elim) ?aF ?aB ?aS ?aL ?_; (case aR => exact cm (Kd.C_below HR262.out HB.out)); (case aB => exact (lb HB.out)); (case aF => exact (fun _ _ => trivial)); (case aO => exact (rm HO258.out)); (case aS => exact (below_size (lb HB.out))); (case aL => have := LMc21.out; omega); intro v264 w36 ho hb hg hat; rw [← Ny263.out] at ho; have n0_ := Aside0.mk (hb); have n1_ := Aside0.mk (ho); clear HB; clear HO258; have HB := n0_; have HO265 := n1_; clear n0_ n1_; clear ho hb hg hat) | ((with_reducible refine gate_dst (N := 38) rfl ?_); (try (refine gate_guard (by rfl) ?_; dsimp only)); refine Kd.R_lit k33 _ 33 ?hg (N := 38) ?hd (xs := ([] : List (S33))) (inner := []) (ok := fun _ => True) (okp := fun _ => True) ?hr ?hp (fun _ hk => hk) trivial (Below.refl _ _) (Nat.le_refl _) (by simp) ?_; (case hd => rfl); (case hg => rfl); (case hr => first | (go_simp; done) | (go_simp; rfl)); (case hp => exact (Reps.none _ _)); intro v267 w37 ho38 hb hg_ hnew_; clear hg_ hnew_; (first | rw [← Ny266.out] at ho38 | (simp only [Int.reduceToNat] at ho38; rw [← Ny266.out] at ho38)); have n0_ := Aside0.mk (Kd.R_elder' (rm HO265.out) (Kd.R_base ho38) hb); have n1_ := Aside0.mk (Kd.R_lower (Kd.R_new' ho38 (Kd.R_lt (rm HO265.out))) (below_size (lb HB.out))); have n2_ := Aside0.mk (below_step (lb HB.out) hb); clear HO265; clear HB; have HO265 := n0_; have HO268 := n1_; have HB := n2_; clear n0_ n1_ n2_; clear hb ho38; have q39 : (a2 : Int) ≤ ((l0.length : Int) : Int) := oa; obtain ⟨i039, hi039, _, hsz39, _⟩ := info_parts info33; have hroom39 : l0.length ≤ c0 := HC0.out; have hC39 : Kd.C k33 _ A0 l0.length l0 := HR0.out; have q039 : (0 : Int) ≤ (a2 : Int) := oa; have hcut39 := cut_from (P := Try.prog) 23 33 .i64 Try.underlying23 hi039 2 hsz39 A0 l0.length c0 a2 q039 q39; have hr39 := Kd.C_drop (m := (a2 : Int).toNat) (c := c0) hC39 (by omega) hroom39; obtain ⟨A39, hA39⟩ : ∃ A1, A1 = (if c0 = (a2 : Int).toNat then A0 else (A0 : Option Addr).map (·.add ((a2 : Int).toNat * 2))) := ⟨_, rfl⟩; obtain ⟨c39, hc39⟩ : ∃ c1, c1 = c0 - (a2 : Int).toNat := ⟨_, rfl⟩; have hy39 : y269.length = l0.length - (a2 : Int).toNat := (by rw [Ny269.out, List.length_drop] <;> omega); rw [show (l0).drop (a2 : Int).toNat = y269 from Ny269.out.symm] at hr39; replace hr39 : Kd.C k33 _ A39 y269.length y269 := (by rw [hA39]; exact hr39); rw [← hy39, ← hA39, ← hc39] at hcut39; have HR272 := Aside0.mk hr39; have HC272 := Aside0.mk (show y269.length ≤ c39 from by rw [hy39, hc39]; exact Nat.sub_le_sub_right hroom39 _); clear hr39 hC39 hroom39 hi039 hsz39 hc39; have KY39 := Aside0.mk hy39; have KA39 := Aside0.mk hA39; clear hy39 hA39; replace q39 := eq_true q39) | ((with_reducible refine gate_builtin (b := .append) (xs := #[.tmp 38, .tmp 41]) rfl ?_); (try (refine gate_guard (by rfl) ?_; dsimp only)); at_builtin; refine Kd.R_append_rows k33 (w0 := w) w.heap.size rfl (.tmp 38) (.tmp 41) 23 33 (.agg #[(.int .i64 0), (.int .i64 0)]) 16 rfl Try.underlying23 info33 rfl (by decide) (by omega) v267 y266 y269 _ _ _ (fun k_ => some k_ ≠ (v264 : Value).ownBlock) (fun _ => False) rfl rfl ?aO ?aR (fun _ _ h => h) (fun _ h => h.elim) ?aF ?aB ?aS ?aL ?_; (case aR => exact cm (Kd.C_below HR272.out HB.out)); (case aB => exact (lb HB.out)); (case aF => exact (fun k_ hk => Kd.fresh' (Kd.R_lt (rm HO265.out)) k_ hk)); (case aO => exact (by (with_reducible repeat (first | apply Kd.R_alloc | apply Kd.R_drewN | apply Kd.R_drew)); exact Kd.R_mono HO268.out (fun _ hk => by first | exact hk.2 | exact trivial))); (case aS => exact (below_size (lb HB.out))); (case aL => have := LMc24.out; omega); intro v274 w40 ho hb hg hat; rw [← Ny273.out] at ho; have n0_ := Aside0.mk (Kd.R_after (ok := (fun _ => True)) (rm HO265.out) hg hat); have n1_ := Aside0.mk (hb); have n2_ := Aside0.mk (ho); clear HO265; clear HB; clear HO268; have HO265 := n0_; have HB := n1_; have HO275 := n2_; clear n0_ n1_ n2_; clear ho hb hg hat; have q41 : ((ji25) : Int) ≤ ((l0.length : Int) : Int) := oa; obtain ⟨i041, hi041, _, hsz41, _⟩ := info_parts info33; have hroom41 : l0.length ≤ c0 := HC0.out; have hC41 : Kd.C k33 _ A0 l0.length l0 := HR0.out; have hcut41 := cut_to (P := Try.prog) 23 33 .i64 Try.underlying23 hi041 A0 l0.length c0 (ji25) oa q41 hroom41; have hr41 := Kd.C_take (m := ((ji25) : Int).toNat) hC41 (by omega); have hy41 : y276.length = ((ji25) : Int).toNat := (by rw [Ny276.out, List.length_take]; omega); rw [← Ny276.out] at hr41; rw [← hy41] at hcut41; have HR279 := Aside0.mk hr41; have HC279 := Aside0.mk (show y276.length ≤ c0 from by omega); clear hr41 hC41 hroom41 hi041 hsz41; have KY41 := Aside0.mk hy41; clear hy41; replace q41 := eq_true q41) | ((with_reducible refine gate_builtin (b := .append) (xs := #[.tmp 43, .tmp 47]) rfl ?_); (try (refine gate_guard (by rfl) ?_; dsimp only)); at_builtin; refine Kd.R_append_rows k33 (w0 := w) w.heap.size rfl (.tmp 43) (.tmp 47) 23 33 (.agg #[(.int .i64 0), (.int .i64 0)]) 16 rfl Try.underlying23 info33 rfl (by decide) (by omega) v274 y273 y276 _ _ _ (fun k_ => some k_ ≠ (v264 : Value).ownBlock) (fun _ => False) rfl rfl ?aO ?aR (fun _ _ h => h) (fun _ h => h.elim) ?aF ?aB ?aS ?aL ?_; (case aR => exact cm (Kd.C_below HR279.out HB.out)); (case aB => exact (lb HB.out)); (case aF => exact (fun k_ hk => Kd.fresh' (Kd.R_lt (rm HO265.out)) k_ hk)); (case aO => exact (rm HO275.out)); (case aS => exact (below_size (lb HB.out))); (case aL => have := LMc28.out; omega); intro v281 w42 ho hb hg hat; rw [← Ny280.out] at ho; have n0_ := Aside0.mk (Kd.R_after (ok := (fun _ => True)) (rm HO265.out) hg hat); have n1_ := Aside0.mk (hb); have n2_ := Aside0.mk (ho); clear HO265; clear HB; clear HO275; have HO265 := n0_; have HB := n1_; have HO282 := n2_; clear n0_ n1_ n2_; clear ho hb hg hat; obtain ⟨Ao43, co43, eo43⟩ := Kd.R_slice HO265.out; subst eo43) | ((with_reducible refine gate_callee (f := 13) rfl ?_); refine goesL_ (some 50) rfl rfl Try.func13 (by kernel_rfl) rfl #[.slice Ao43 y263.length co43] rfl al ?_; (with_reducible refine (impl_ParcelValid.calls _ _ y263 true _ ?side1 ?side2 A29.out).mono ?_); (case side1 => exact cm (Kd.R_reads' HO265.out).2.2); (case side2 => exact (Kd.R_reads' HO265.out).2.1); rintro e w44 ⟨rfl, hb⟩; refine ⟨_, rfl, ?_⟩; have n0_ := Aside0.mk (Kd.R_below (rm HO265.out) hb); have n1_ := Aside0.mk (Kd.R_below (rm HO282.out) hb); have n2_ := Aside0.mk (below_step (lb HB.out) hb); clear HO265; clear HO282; clear HB; have HO265 := n0_; have HO282 := n1_; have HB := n2_; clear n0_ n1_ n2_; (try clear hb); (try clear hb2); (try clear hk); (try clear hi); obtain ⟨Ao45, co45, eo45⟩ := Kd.R_slice HO282.out; subst eo45) | (go_at_call 13; (with_reducible refine (impl_ParcelValid.calls _ _ y280 true _ ?side1 ?side2 A31.out).mono ?_); (case side1 => exact cm (Kd.R_reads' HO282.out).2.2); (case side2 => exact (Kd.R_reads' HO282.out).2.1); rintro e w46 ⟨rfl, hb⟩; have n0_ := Aside0.mk (Kd.R_below (rm HO265.out) hb); have n1_ := Aside0.mk (Kd.R_below (rm HO282.out) hb); have n2_ := Aside0.mk (below_step (lb HB.out) hb); clear HO265; clear HO282; clear HB; have HO265 := n0_; have HO282 := n1_; have HB := n2_; clear n0_ n1_ n2_; (try clear hb); (try clear hb2); (try clear hk); (try clear hi)))
                go_ret3
                exact ⟨_, _, by first | rfl | (simp [errW_none, errW_some] <;> rfl) | (simp only [← hji25]; first | rfl | (simp [errW_none, errW_some] <;> rfl)) | (simp [*, errW_none, errW_some] <;> rfl), rm (Kd.R_mono HO265.out (fun _ hk => by first | exact hk.2 | exact trivial)), rm HO282.out, lb HB.out⟩
               ·replace c32 := Bool.eq_false_iff.mpr c32
                subst c32
                have H1 : (some ((([] : List (S33))), (([] : List (S33))), false)) = some (r1, r2, r3) := by rw [if_neg (show ¬ (false = true) by decide)] at H; exact H
                clear H
                have H := H1
                clear H1
                obtain ⟨y285, hy285⟩ : ∃ y_ : List (S33), y_ = (([] : List (S33))) := ⟨_, rfl⟩
                replace H : (some (y285, (([] : List (S33))), false)) = some (r1, r2, r3) := by first | (rw [hy285]; with_reducible exact H) | (have H2_ := (Option.bind_some _ _).symm.trans H; rw [hy285]; with_reducible exact H2_) | (have H2_ := (Option.bind_some _ _).symm.trans H; with_reducible exact H2_) | with_reducible exact H | (rw [hy285]; exact H) | exact H
                have Ny285 := Aside0.mk hy285
                clear hy285
                obtain ⟨y288, hy288⟩ : ∃ y_ : List (S33), y_ = (([] : List (S33))) := ⟨_, rfl⟩
                replace H : (some (y285, y288, false)) = some (r1, r2, r3) := by first | (rw [hy288]; with_reducible exact H) | (have H2_ := (Option.bind_some _ _).symm.trans H; rw [hy288]; with_reducible exact H2_) | (have H2_ := (Option.bind_some _ _).symm.trans H; with_reducible exact H2_) | with_reducible exact H | (rw [hy288]; exact H) | exact H
                have Ny288 := Aside0.mk hy288
                clear hy288
                simp only [Option.some.injEq, Prod.mk.injEq] at H
                obtain ⟨rfl, rfl, rfl⟩ := H
                go_wp2_with (first | ((with_reducible refine gate_dst (N := 31) rfl ?_); (try (refine gate_guard (by rfl) ?_; dsimp only)); refine Kd.R_lit k33 _ 33 ?hg (N := 31) ?hd (xs := ([] : List (S33))) (inner := []) (ok := fun _ => True) (okp := fun _ => True) ?hr ?hp (fun _ hk => hk) trivial (Below.refl _ _) (Nat.le_refl _) (by simp) ?_; (case hd => rfl); (case hg => rfl); (case hr => first | (go_simp; done) | (go_simp; rfl)); (case hp => exact (Reps.none _ _)); intro v257 w47 ho48 hb hg_ hnew_; clear hg_ hnew_; (first | rw [← Ny256.out] at ho48 | (simp only [Int.reduceToNat] at ho48; rw [← Ny256.out] at ho48)); have n0_ := Aside0.mk (Kd.R_lower ho48 (below_size (lb HB.out))); have n1_ := Aside0.mk (below_step (lb HB.out) hb); clear HB; have HO258 := n0_; have HB := n1_; clear n0_ n1_; clear hb ho48; have q49 : ((wrap64 (a2 + 1)) : Int) ≤ ((l0.length : Int) : Int) := oa; obtain ⟨i049, hi049, _, hsz49, _⟩ := info_parts info33; have hroom49 : l0.length ≤ c0 := HC0.out; have hC49 : Kd.C k33 _ A0 l0.length l0 := HR0.out; have ql49 : (a1 : Int) ≤ ((wrap64 (a2 + 1)) : Int) := oa; have q049 : (0 : Int) ≤ (a1 : Int) := oa; have hcut49 := cut_mid (P := Try.prog) 23 33 .i64 .i64 Try.underlying23 hi049 2 hsz49 A0 l0.length c0 a1 (wrap64 (a2 + 1)) q049 ql49 q49 hroom49; have hr49 := Kd.C_mid (lo := (a1 : Int).toNat) (hi := ((wrap64 (a2 + 1)) : Int).toNat) (c := c0) hC49 (by omega) (by omega) hroom49; obtain ⟨A49, hA49⟩ : ∃ A1, A1 = (if c0 = (a1 : Int).toNat then A0 else (A0 : Option Addr).map (·.add ((a1 : Int).toNat * 2))) := ⟨_, rfl⟩; obtain ⟨c49, hc49⟩ : ∃ c1, c1 = c0 - (a1 : Int).toNat := ⟨_, rfl⟩; have hy49 : y259.length = ((wrap64 (a2 + 1)) : Int).toNat - (a1 : Int).toNat := (by rw [Ny259.out, List.length_drop, List.length_take] <;> omega); rw [show ((l0).take ((wrap64 (a2 + 1)) : Int).toNat).drop (a1 : Int).toNat = y259 from Ny259.out.symm] at hr49; replace hr49 : Kd.C k33 _ A49 y259.length y259 := (by rw [hA49]; exact hr49); rw [← hy49, ← hA49, ← hc49] at hcut49; have HR262 := Aside0.mk hr49; have HC262 := Aside0.mk (show y259.length ≤ c49 from by rw [hy49, hc49]; exact Nat.sub_le_sub_right (Nat.le_trans (by omega) hroom49) _); clear hr49 hC49 hroom49 hi049 hsz49 hc49; have KY49 := Aside0.mk hy49; have KA49 := Aside0.mk hA49; clear hy49 hA49; replace q49 := eq_true q49) | ((with_reducible refine gate_builtin (b := .append) (xs := #[.tmp 31, .tmp 36]) rfl ?_); (try (refine gate_guard (by rfl) ?_; dsimp only)); at_builtin; refine Kd.R_append_rows k33 (w0 := w) w.heap.size rfl (.tmp 31) (.tmp 36) 23 33 (.agg #[(.int .i64 0), (.int .i64 0)]) 16 rfl Try.underlying23 info33 rfl (by decide) (by omega) v257 y256 y259 _ _ _ (fun _ => True) (fun _ => False) rfl rfl ?aO ?aR (fun _ _ h => h) (fun _ h => h.elim) ?aF ?aB ?aS ?aL ?_; (case aR => exact cm (Kd.C_below HR262.out HB.out)); (case aB => exact (lb HB.out)); (case aF => exact (fun _ _ => trivial)); (case aO => exact (rm HO258.out)); (case aS => exact (below_size (lb HB.out))); (case aL => have := LMc21.out; omega); intro v264 w50 ho hb hg hat; rw [← Ny263.out] at ho; have n0_ := Aside0.mk (hb); have n1_ := Aside0.mk (ho); clear HB; clear HO258; have HB := n0_; have HO265 := n1_; clear n0_ n1_; clear ho hb hg hat) | ((with_reducible refine gate_dst (N := 38) rfl ?_); (try (refine gate_guard (by rfl) ?_; dsimp only)); refine Kd.R_lit k33 _ 33 ?hg (N := 38) ?hd (xs := ([] : List (S33))) (inner := []) (ok := fun _ => True) (okp := fun _ => True) ?hr ?hp (fun _ hk => hk) trivial (Below.refl _ _) (Nat.le_refl _) (by simp) ?_; (case hd => rfl); (case hg => rfl); (case hr => first | (go_simp; done) | (go_simp; rfl)); (case hp => exact (Reps.none _ _)); intro v267 w51 ho52 hb hg_ hnew_; clear hg_ hnew_; (first | rw [← Ny266.out] at ho52 | (simp only [Int.reduceToNat] at ho52; rw [← Ny266.out] at ho52)); have n0_ := Aside0.mk (Kd.R_elder' (rm HO265.out) (Kd.R_base ho52) hb); have n1_ := Aside0.mk (Kd.R_lower (Kd.R_new' ho52 (Kd.R_lt (rm HO265.out))) (below_size (lb HB.out))); have n2_ := Aside0.mk (below_step (lb HB.out) hb); clear HO265; clear HB; have HO265 := n0_; have HO268 := n1_; have HB := n2_; clear n0_ n1_ n2_; clear hb ho52; have q53 : (a2 : Int) ≤ ((l0.length : Int) : Int) := oa; obtain ⟨i053, hi053, _, hsz53, _⟩ := info_parts info33; have hroom53 : l0.length ≤ c0 := HC0.out; have hC53 : Kd.C k33 _ A0 l0.length l0 := HR0.out; have q053 : (0 : Int) ≤ (a2 : Int) := oa; have hcut53 := cut_from (P := Try.prog) 23 33 .i64 Try.underlying23 hi053 2 hsz53 A0 l0.length c0 a2 q053 q53; have hr53 := Kd.C_drop (m := (a2 : Int).toNat) (c := c0) hC53 (by omega) hroom53; obtain ⟨A53, hA53⟩ : ∃ A1, A1 = (if c0 = (a2 : Int).toNat then A0 else (A0 : Option Addr).map (·.add ((a2 : Int).toNat * 2))) := ⟨_, rfl⟩; obtain ⟨c53, hc53⟩ : ∃ c1, c1 = c0 - (a2 : Int).toNat := ⟨_, rfl⟩; have hy53 : y269.length = l0.length - (a2 : Int).toNat := (by rw [Ny269.out, List.length_drop] <;> omega); rw [show (l0).drop (a2 : Int).toNat = y269 from Ny269.out.symm] at hr53; replace hr53 : Kd.C k33 _ A53 y269.length y269 := (by rw [hA53]; exact hr53); rw [← hy53, ← hA53, ← hc53] at hcut53; have HR272 := Aside0.mk hr53; have HC272 := Aside0.mk (show y269.length ≤ c53 from by rw [hy53, hc53]; exact Nat.sub_le_sub_right hroom53 _); clear hr53 hC53 hroom53 hi053 hsz53 hc53; have KY53 := Aside0.mk hy53; have KA53 := Aside0.mk hA53; clear hy53 hA53; replace q53 := eq_true q53) | ((with_reducible refine gate_builtin (b := .append) (xs := #[.tmp 38, .tmp 41]) rfl ?_); (try (refine gate_guard (by rfl) ?_; dsimp only)); at_builtin; refine Kd.R_append_rows k33 (w0 := w) w.heap.size rfl (.tmp 38) (.tmp 41) 23 33 (.agg #[(.int .i64 0), (.int .i64 0)]) 16 rfl Try.underlying23 info33 rfl (by decide) (by omega) v267 y266 y269 _ _ _ (fun k_ => some k_ ≠ (v264 : Value).ownBlock) (fun _ => False) rfl rfl ?aO ?aR (fun _ _ h => h) (fun _ h => h.elim) ?aF ?aB ?aS ?aL ?_; (case aR => exact cm (Kd.C_below HR272.out HB.out)); (case aB => exact (lb HB.out)); (case aF => exact (fun k_ hk => Kd.fresh' (Kd.R_lt (rm HO265.out)) k_ hk)); (case aO => exact (by (with_reducible repeat (first | apply Kd.R_alloc | apply Kd.R_drewN | apply Kd.R_drew)); exact Kd.R_mono HO268.out (fun _ hk => by first | exact hk.2 | exact trivial))); (case aS => exact (below_size (lb HB.out))); (case aL => have := LMc24.out; omega); intro v274 w54 ho hb hg hat; rw [← Ny273.out] at ho; have n0_ := Aside0.mk (Kd.R_after (ok := (fun _ => True)) (rm HO265.out) hg hat); have n1_ := Aside0.mk (hb); have n2_ := Aside0.mk (ho); clear HO265; clear HB; clear HO268; have HO265 := n0_; have HB := n1_; have HO275 := n2_; clear n0_ n1_ n2_; clear ho hb hg hat; have q55 : ((ji25) : Int) ≤ ((l0.length : Int) : Int) := oa; obtain ⟨i055, hi055, _, hsz55, _⟩ := info_parts info33; have hroom55 : l0.length ≤ c0 := HC0.out; have hC55 : Kd.C k33 _ A0 l0.length l0 := HR0.out; have hcut55 := cut_to (P := Try.prog) 23 33 .i64 Try.underlying23 hi055 A0 l0.length c0 (ji25) oa q55 hroom55; have hr55 := Kd.C_take (m := ((ji25) : Int).toNat) hC55 (by omega); have hy55 : y276.length = ((ji25) : Int).toNat := (by rw [Ny276.out, List.length_take]; omega); rw [← Ny276.out] at hr55; rw [← hy55] at hcut55; have HR279 := Aside0.mk hr55; have HC279 := Aside0.mk (show y276.length ≤ c0 from by omega); clear hr55 hC55 hroom55 hi055 hsz55; have KY55 := Aside0.mk hy55; clear hy55; replace q55 := eq_true q55) | ((with_reducible refine gate_builtin (b := .append) (xs := #[.tmp 43, .tmp 47]) rfl ?_); (try (refine gate_guard (by rfl) ?_; dsimp only)); at_builtin; refine Kd.R_append_rows k33 (w0 := w) w.heap.size rfl (.tmp 43) (.tmp 47) 23 33 (.agg #[(.int .i64 0), (.int .i64 0)]) 16 rfl Try.underlying23 info33 rfl (by decide) (by omega) v274 y273 y276 _ _ _ (fun k_ => some k_ ≠ (v264 : Value).ownBlock) (fun _ => False) rfl rfl ?aO ?aR (fun _ _ h => h) (fun _ h => h.elim) ?aF ?aB ?aS ?aL ?_; (case aR => exact cm (Kd.C_below HR279.out HB.out)); (case aB => exact (lb HB.out)); (case aF => exact (fun k_ hk => Kd.fresh' (Kd.R_lt (rm HO265.out)) k_ hk)); (case aO => exact (rm HO275.out)); (case aS => exact (below_size (lb HB.out))); (case aL => have := LMc28.out; omega); intro v281 w56 ho hb hg hat; rw [← Ny280.out] at ho; have n0_ := Aside0.mk (Kd.R_after (ok := (fun _ => True)) (rm HO265.out) hg hat); have n1_ := Aside0.mk (hb); have n2_ := Aside0.mk (ho); clear HO265; clear HB; clear HO275; have HO265 := n0_; have HB := n1_; have HO282 := n2_; clear n0_ n1_ n2_; clear ho hb hg hat; obtain ⟨Ao57, co57, eo57⟩ := Kd.R_slice HO265.out; subst eo57) | ((with_reducible refine gate_callee (f := 13) rfl ?_); refine goesL_ (some 50) rfl rfl Try.func13 (by kernel_rfl) rfl #[.slice Ao57 y263.length co57] rfl al ?_; (with_reducible refine (impl_ParcelValid.calls _ _ y263 true _ ?side1 ?side2 A29.out).mono ?_); (case side1 => exact cm (Kd.R_reads' HO265.out).2.2); (case side2 => exact (Kd.R_reads' HO265.out).2.1); rintro e w58 ⟨rfl, hb⟩; refine ⟨_, rfl, ?_⟩; have n0_ := Aside0.mk (Kd.R_below (rm HO265.out) hb); have n1_ := Aside0.mk (Kd.R_below (rm HO282.out) hb); have n2_ := Aside0.mk (below_step (lb HB.out) hb); clear HO265; clear HO282; clear HB; have HO265 := n0_; have HO282 := n1_; have HB := n2_; clear n0_ n1_ n2_; (try clear hb); (try clear hb2); (try clear hk); (try clear hi); obtain ⟨Ao59, co59, eo59⟩ := Kd.R_slice HO282.out; subst eo59) | (go_at_call 13; (with_reducible refine (impl_ParcelValid.calls _ _ y280 false _ ?side1 ?side2 A31.out).mono ?_); (case side1 => exact cm (Kd.R_reads' HO282.out).2.2); (case side2 => exact (Kd.R_reads' HO282.out).2.1); rintro e w60 ⟨rfl, hb⟩; have n0_ := Aside0.mk (Kd.R_below (rm HO265.out) hb); have n1_ := Aside0.mk (Kd.R_below (rm HO282.out) hb); have n2_ := Aside0.mk (below_step (lb HB.out) hb); clear HO265; clear HO282; clear HB; have HO265 := n0_; have HO282 := n1_; have HB := n2_; clear n0_ n1_ n2_; (try clear hb); (try clear hb2); (try clear hk); (try clear hi)) | ((with_reducible refine gate_dst (N := 57) rfl ?_); (try (refine gate_guard (by rfl) ?_; dsimp only)); refine Kd.R_lit k33 _ 33 ?hg (N := 57) ?hd (xs := ([] : List (S33))) (inner := []) (ok := fun _ => True) (okp := fun _ => True) ?hr ?hp (fun _ hk => hk) trivial (Below.refl _ _) (Nat.le_refl _) (by simp) ?_; (case hd => rfl); (case hg => rfl); (case hr => first | (go_simp; done) | (go_simp; rfl)); (case hp => exact (Reps.none _ _)); intro v286 w61 ho62 hb hg_ hnew_; clear hg_ hnew_; (first | rw [← Ny285.out] at ho62 | (simp only [Int.reduceToNat] at ho62; rw [← Ny285.out] at ho62)); have n0_ := Aside0.mk (Kd.R_elder' (rm HO265.out) (Kd.R_base ho62) hb); have n1_ := Aside0.mk (Kd.R_elder' (rm HO282.out) (Kd.R_base ho62) hb); have n2_ := Aside0.mk (Kd.R_lower (Kd.R_new' (Kd.R_new' ho62 (Kd.R_lt (rm HO265.out))) (Kd.R_lt (rm HO282.out))) (below_size (lb HB.out))); have n3_ := Aside0.mk (below_step (lb HB.out) hb); clear HO265; clear HO282; clear HB; have HO265 := n0_; have HO282 := n1_; have HO287 := n2_; have HB := n3_; clear n0_ n1_ n2_ n3_; clear hb ho62) | ((with_reducible refine gate_dst (N := 58) rfl ?_); (try (refine gate_guard (by rfl) ?_; dsimp only)); refine Kd.R_lit k33 _ 33 ?hg (N := 58) ?hd (xs := ([] : List (S33))) (inner := []) (ok := fun _ => True) (okp := fun _ => True) ?hr ?hp (fun _ hk => hk) trivial (Below.refl _ _) (Nat.le_refl _) (by simp) ?_; (case hd => rfl); (case hg => rfl); (case hr => first | (go_simp; done) | (go_simp; rfl)); (case hp => exact (Reps.none _ _)); intro v289 w63 ho64 hb hg_ hnew_; clear hg_ hnew_; (first | rw [← Ny288.out] at ho64 | (simp only [Int.reduceToNat] at ho64; rw [← Ny288.out] at ho64)); have n0_ := Aside0.mk (Kd.R_elder' (rm HO265.out) (Kd.R_base ho64) hb); have n1_ := Aside0.mk (Kd.R_elder' (rm HO282.out) (Kd.R_base ho64) hb); have n2_ := Aside0.mk (Kd.R_elder' (rm HO287.out) (Kd.R_base ho64) hb); have n3_ := Aside0.mk (Kd.R_lower (Kd.R_new' (Kd.R_new' (Kd.R_new' ho64 (Kd.R_lt (rm HO265.out))) (Kd.R_lt (rm HO282.out))) (Kd.R_lt (rm HO287.out))) (below_size (lb HB.out))); have n4_ := Aside0.mk (below_step (lb HB.out) hb); clear HO265; clear HO282; clear HO287; clear HB; have HO265 := n0_; have HO282 := n1_; have HO287 := n2_; have HO290 := n3_; have HB := n4_; clear n0_ n1_ n2_ n3_ n4_; clear hb ho64))
                go_ret3
                exact ⟨_, _, by first | rfl | (simp [errW_none, errW_some] <;> rfl) | (simp only [← hji25]; first | rfl | (simp [errW_none, errW_some] <;> rfl)) | (simp [*, errW_none, errW_some] <;> rfl), rm (Kd.R_mono HO287.out (fun _ hk => by first | exact hk.2 | exact trivial)), rm (Kd.R_mono HO290.out (fun _ hk => by first | exact hk.2 | exact trivial)), lb HB.out⟩
              ·replace c30 := Bool.eq_false_iff.mpr c30
               subst c30
               have H1 : (some ((([] : List (S33))), (([] : List (S33))), false)) = some (r1, r2, r3) := by rw [if_neg (show ¬ (false = true) by decide)] at H; exact H
               clear H
               have H := H1
               clear H1
               obtain ⟨y291, hy291⟩ : ∃ y_ : List (S33), y_ = (([] : List (S33))) := ⟨_, rfl⟩
               replace H : (some (y291, (([] : List (S33))), false)) = some (r1, r2, r3) := by first | (rw [hy291]; with_reducible exact H) | (have H2_ := (Option.bind_some _ _).symm.trans H; rw [hy291]; with_reducible exact H2_) | (have H2_ := (Option.bind_some _ _).symm.trans H; with_reducible exact H2_) | with_reducible exact H | (rw [hy291]; exact H) | exact H
               have Ny291 := Aside0.mk hy291
               clear hy291
               obtain ⟨y294, hy294⟩ : ∃ y_ : List (S33), y_ = (([] : List (S33))) := ⟨_, rfl⟩
               replace H : (some (y291, y294, false)) = some (r1, r2, r3) := by first | (rw [hy294]; with_reducible exact H) | (have H2_ := (Option.bind_some _ _).symm.trans H; rw [hy294]; with_reducible exact H2_) | (have H2_ := (Option.bind_some _ _).symm.trans H; with_reducible exact H2_) | with_reducible exact H | (rw [hy294]; exact H) | exact H
               have Ny294 := Aside0.mk hy294
               clear hy294
               simp only [Option.some.injEq, Prod.mk.injEq] at H
               obtain ⟨rfl, rfl, rfl⟩ := H
               go_wp2_with (first | ((with_reducible refine gate_dst (N := 31) rfl ?_); (try (refine gate_guard (by rfl) ?_; dsimp only)); refine Kd.R_lit k33 _ 33 ?hg (N := 31) ?hd (xs := ([] : List (S33))) (inner := []) (ok := fun _ => True) (okp := fun _ => True) ?hr ?hp (fun _ hk => hk) trivial (Below.refl _ _) (Nat.le_refl _) (by simp) ?_; (case hd => rfl); (case hg => rfl); (case hr => first | (go_simp; done) | (go_simp; rfl)); (case hp => exact (Reps.none _ _)); intro v257 w65 ho66 hb hg_ hnew_; clear hg_ hnew_; (first | rw [← Ny256.out] at ho66 | (simp only [Int.reduceToNat] at ho66; rw [← Ny256.out] at ho66)); have n0_ := Aside0.mk (Kd.R_lower ho66 (below_size (lb HB.out))); have n1_ := Aside0.mk (below_step (lb HB.out) hb); clear HB; have HO258 := n0_; have HB := n1_; clear n0_ n1_; clear hb ho66; have q67 : ((wrap64 (a2 + 1)) : Int) ≤ ((l0.length : Int) : Int) := oa; obtain ⟨i067, hi067, _, hsz67, _⟩ := info_parts info33; have hroom67 : l0.length ≤ c0 := HC0.out; have hC67 : Kd.C k33 _ A0 l0.length l0 := HR0.out; have ql67 : (a1 : Int) ≤ ((wrap64 (a2 + 1)) : Int) := oa; have q067 : (0 : Int) ≤ (a1 : Int) := oa; have hcut67 := cut_mid (P := Try.prog) 23 33 .i64 .i64 Try.underlying23 hi067 2 hsz67 A0 l0.length c0 a1 (wrap64 (a2 + 1)) q067 ql67 q67 hroom67; have hr67 := Kd.C_mid (lo := (a1 : Int).toNat) (hi := ((wrap64 (a2 + 1)) : Int).toNat) (c := c0) hC67 (by omega) (by omega) hroom67; obtain ⟨A67, hA67⟩ : ∃ A1, A1 = (if c0 = (a1 : Int).toNat then A0 else (A0 : Option Addr).map (·.add ((a1 : Int).toNat * 2))) := ⟨_, rfl⟩; obtain ⟨c67, hc67⟩ : ∃ c1, c1 = c0 - (a1 : Int).toNat := ⟨_, rfl⟩; have hy67 : y259.length = ((wrap64 (a2 + 1)) : Int).toNat - (a1 : Int).toNat := (by rw [Ny259.out, List.length_drop, List.length_take] <;> omega); rw [show ((l0).take ((wrap64 (a2 + 1)) : Int).toNat).drop (a1 : Int).toNat = y259 from Ny259.out.symm] at hr67; replace hr67 : Kd.C k33 _ A67 y259.length y259 := (by rw [hA67]; exact hr67); rw [← hy67, ← hA67, ← hc67] at hcut67; have HR262 := Aside0.mk hr67; have HC262 := Aside0.mk (show y259.length ≤ c67 from by rw [hy67, hc67]; exact Nat.sub_le_sub_right (Nat.le_trans (by omega) hroom67) _); clear hr67 hC67 hroom67 hi067 hsz67 hc67; have KY67 := Aside0.mk hy67; have KA67 := Aside0.mk hA67; clear hy67 hA67; replace q67 := eq_true q67) | ((with_reducible refine gate_builtin (b := .append) (xs := #[.tmp 31, .tmp 36]) rfl ?_); (try (refine gate_guard (by rfl) ?_; dsimp only)); at_builtin; refine Kd.R_append_rows k33 (w0 := w) w.heap.size rfl (.tmp 31) (.tmp 36) 23 33 (.agg #[(.int .i64 0), (.int .i64 0)]) 16 rfl Try.underlying23 info33 rfl (by decide) (by omega) v257 y256 y259 _ _ _ (fun _ => True) (fun _ => False) rfl rfl ?aO ?aR (fun _ _ h => h) (fun _ h => h.elim) ?aF ?aB ?aS ?aL ?_; (case aR => exact cm (Kd.C_below HR262.out HB.out)); (case aB => exact (lb HB.out)); (case aF => exact (fun _ _ => trivial)); (case aO => exact (rm HO258.out)); (case aS => exact (below_size (lb HB.out))); (case aL => have := LMc21.out; omega); intro v264 w68 ho hb hg hat; rw [← Ny263.out] at ho; have n0_ := Aside0.mk (hb); have n1_ := Aside0.mk (ho); clear HB; clear HO258; have HB := n0_; have HO265 := n1_; clear n0_ n1_; clear ho hb hg hat) | ((with_reducible refine gate_dst (N := 38) rfl ?_); (try (refine gate_guard (by rfl) ?_; dsimp only)); refine Kd.R_lit k33 _ 33 ?hg (N := 38) ?hd (xs := ([] : List (S33))) (inner := []) (ok := fun _ => True) (okp := fun _ => True) ?hr ?hp (fun _ hk => hk) trivial (Below.refl _ _) (Nat.le_refl _) (by simp) ?_; (case hd => rfl); (case hg => rfl); (case hr => first | (go_simp; done) | (go_simp; rfl)); (case hp => exact (Reps.none _ _)); intro v267 w69 ho70 hb hg_ hnew_; clear hg_ hnew_; (first | rw [← Ny266.out] at ho70 | (simp only [Int.reduceToNat] at ho70; rw [← Ny266.out] at ho70)); have n0_ := Aside0.mk (Kd.R_elder' (rm HO265.out) (Kd.R_base ho70) hb); have n1_ := Aside0.mk (Kd.R_lower (Kd.R_new' ho70 (Kd.R_lt (rm HO265.out))) (below_size (lb HB.out))); have n2_ := Aside0.mk (below_step (lb HB.out) hb); clear HO265; clear HB; have HO265 := n0_; have HO268 := n1_; have HB := n2_; clear n0_ n1_ n2_; clear hb ho70; have q71 : (a2 : Int) ≤ ((l0.length : Int) : Int) := oa; obtain ⟨i071, hi071, _, hsz71, _⟩ := info_parts info33; have hroom71 : l0.length ≤ c0 := HC0.out; have hC71 : Kd.C k33 _ A0 l0.length l0 := HR0.out; have q071 : (0 : Int) ≤ (a2 : Int) := oa; have hcut71 := cut_from (P := Try.prog) 23 33 .i64 Try.underlying23 hi071 2 hsz71 A0 l0.length c0 a2 q071 q71; have hr71 := Kd.C_drop (m := (a2 : Int).toNat) (c := c0) hC71 (by omega) hroom71; obtain ⟨A71, hA71⟩ : ∃ A1, A1 = (if c0 = (a2 : Int).toNat then A0 else (A0 : Option Addr).map (·.add ((a2 : Int).toNat * 2))) := ⟨_, rfl⟩; obtain ⟨c71, hc71⟩ : ∃ c1, c1 = c0 - (a2 : Int).toNat := ⟨_, rfl⟩; have hy71 : y269.length = l0.length - (a2 : Int).toNat := (by rw [Ny269.out, List.length_drop] <;> omega); rw [show (l0).drop (a2 : Int).toNat = y269 from Ny269.out.symm] at hr71; replace hr71 : Kd.C k33 _ A71 y269.length y269 := (by rw [hA71]; exact hr71); rw [← hy71, ← hA71, ← hc71] at hcut71; have HR272 := Aside0.mk hr71; have HC272 := Aside0.mk (show y269.length ≤ c71 from by rw [hy71, hc71]; exact Nat.sub_le_sub_right hroom71 _); clear hr71 hC71 hroom71 hi071 hsz71 hc71; have KY71 := Aside0.mk hy71; have KA71 := Aside0.mk hA71; clear hy71 hA71; replace q71 := eq_true q71) | ((with_reducible refine gate_builtin (b := .append) (xs := #[.tmp 38, .tmp 41]) rfl ?_); (try (refine gate_guard (by rfl) ?_; dsimp only)); at_builtin; refine Kd.R_append_rows k33 (w0 := w) w.heap.size rfl (.tmp 38) (.tmp 41) 23 33 (.agg #[(.int .i64 0), (.int .i64 0)]) 16 rfl Try.underlying23 info33 rfl (by decide) (by omega) v267 y266 y269 _ _ _ (fun k_ => some k_ ≠ (v264 : Value).ownBlock) (fun _ => False) rfl rfl ?aO ?aR (fun _ _ h => h) (fun _ h => h.elim) ?aF ?aB ?aS ?aL ?_; (case aR => exact cm (Kd.C_below HR272.out HB.out)); (case aB => exact (lb HB.out)); (case aF => exact (fun k_ hk => Kd.fresh' (Kd.R_lt (rm HO265.out)) k_ hk)); (case aO => exact (by (with_reducible repeat (first | apply Kd.R_alloc | apply Kd.R_drewN | apply Kd.R_drew)); exact Kd.R_mono HO268.out (fun _ hk => by first | exact hk.2 | exact trivial))); (case aS => exact (below_size (lb HB.out))); (case aL => have := LMc24.out; omega); intro v274 w72 ho hb hg hat; rw [← Ny273.out] at ho; have n0_ := Aside0.mk (Kd.R_after (ok := (fun _ => True)) (rm HO265.out) hg hat); have n1_ := Aside0.mk (hb); have n2_ := Aside0.mk (ho); clear HO265; clear HB; clear HO268; have HO265 := n0_; have HB := n1_; have HO275 := n2_; clear n0_ n1_ n2_; clear ho hb hg hat; have q73 : ((ji25) : Int) ≤ ((l0.length : Int) : Int) := oa; obtain ⟨i073, hi073, _, hsz73, _⟩ := info_parts info33; have hroom73 : l0.length ≤ c0 := HC0.out; have hC73 : Kd.C k33 _ A0 l0.length l0 := HR0.out; have hcut73 := cut_to (P := Try.prog) 23 33 .i64 Try.underlying23 hi073 A0 l0.length c0 (ji25) oa q73 hroom73; have hr73 := Kd.C_take (m := ((ji25) : Int).toNat) hC73 (by omega); have hy73 : y276.length = ((ji25) : Int).toNat := (by rw [Ny276.out, List.length_take]; omega); rw [← Ny276.out] at hr73; rw [← hy73] at hcut73; have HR279 := Aside0.mk hr73; have HC279 := Aside0.mk (show y276.length ≤ c0 from by omega); clear hr73 hC73 hroom73 hi073 hsz73; have KY73 := Aside0.mk hy73; clear hy73; replace q73 := eq_true q73) | ((with_reducible refine gate_builtin (b := .append) (xs := #[.tmp 43, .tmp 47]) rfl ?_); (try (refine gate_guard (by rfl) ?_; dsimp only)); at_builtin; refine Kd.R_append_rows k33 (w0 := w) w.heap.size rfl (.tmp 43) (.tmp 47) 23 33 (.agg #[(.int .i64 0), (.int .i64 0)]) 16 rfl Try.underlying23 info33 rfl (by decide) (by omega) v274 y273 y276 _ _ _ (fun k_ => some k_ ≠ (v264 : Value).ownBlock) (fun _ => False) rfl rfl ?aO ?aR (fun _ _ h => h) (fun _ h => h.elim) ?aF ?aB ?aS ?aL ?_; (case aR => exact cm (Kd.C_below HR279.out HB.out)); (case aB => exact (lb HB.out)); (case aF => exact (fun k_ hk => Kd.fresh' (Kd.R_lt (rm HO265.out)) k_ hk)); (case aO => exact (rm HO275.out)); (case aS => exact (below_size (lb HB.out))); (case aL => have := LMc28.out; omega); intro v281 w74 ho hb hg hat; rw [← Ny280.out] at ho; have n0_ := Aside0.mk (Kd.R_after (ok := (fun _ => True)) (rm HO265.out) hg hat); have n1_ := Aside0.mk (hb); have n2_ := Aside0.mk (ho); clear HO265; clear HB; clear HO275; have HO265 := n0_; have HB := n1_; have HO282 := n2_; clear n0_ n1_ n2_; clear ho hb hg hat; obtain ⟨Ao75, co75, eo75⟩ := Kd.R_slice HO265.out; subst eo75) | ((with_reducible refine gate_callee (f := 13) rfl ?_); refine goesL_ (some 50) rfl rfl Try.func13 (by kernel_rfl) rfl #[.slice Ao75 y263.length co75] rfl al ?_; (with_reducible refine (impl_ParcelValid.calls _ _ y263 false _ ?side1 ?side2 A29.out).mono ?_); (case side1 => exact cm (Kd.R_reads' HO265.out).2.2); (case side2 => exact (Kd.R_reads' HO265.out).2.1); rintro e w76 ⟨rfl, hb⟩; refine ⟨_, rfl, ?_⟩; have n0_ := Aside0.mk (Kd.R_below (rm HO265.out) hb); have n1_ := Aside0.mk (Kd.R_below (rm HO282.out) hb); have n2_ := Aside0.mk (below_step (lb HB.out) hb); clear HO265; clear HO282; clear HB; have HO265 := n0_; have HO282 := n1_; have HB := n2_; clear n0_ n1_ n2_; (try clear hb); (try clear hb2); (try clear hk); (try clear hi)) | ((with_reducible refine gate_dst (N := 57) rfl ?_); (try (refine gate_guard (by rfl) ?_; dsimp only)); refine Kd.R_lit k33 _ 33 ?hg (N := 57) ?hd (xs := ([] : List (S33))) (inner := []) (ok := fun _ => True) (okp := fun _ => True) ?hr ?hp (fun _ hk => hk) trivial (Below.refl _ _) (Nat.le_refl _) (by simp) ?_; (case hd => rfl); (case hg => rfl); (case hr => first | (go_simp; done) | (go_simp; rfl)); (case hp => exact (Reps.none _ _)); intro v292 w77 ho78 hb hg_ hnew_; clear hg_ hnew_; (first | rw [← Ny291.out] at ho78 | (simp only [Int.reduceToNat] at ho78; rw [← Ny291.out] at ho78)); have n0_ := Aside0.mk (Kd.R_elder' (rm HO265.out) (Kd.R_base ho78) hb); have n1_ := Aside0.mk (Kd.R_elder' (rm HO282.out) (Kd.R_base ho78) hb); have n2_ := Aside0.mk (Kd.R_lower (Kd.R_new' (Kd.R_new' ho78 (Kd.R_lt (rm HO265.out))) (Kd.R_lt (rm HO282.out))) (below_size (lb HB.out))); have n3_ := Aside0.mk (below_step (lb HB.out) hb); clear HO265; clear HO282; clear HB; have HO265 := n0_; have HO282 := n1_; have HO293 := n2_; have HB := n3_; clear n0_ n1_ n2_ n3_; clear hb ho78) | ((with_reducible refine gate_dst (N := 58) rfl ?_); (try (refine gate_guard (by rfl) ?_; dsimp only)); refine Kd.R_lit k33 _ 33 ?hg (N := 58) ?hd (xs := ([] : List (S33))) (inner := []) (ok := fun _ => True) (okp := fun _ => True) ?hr ?hp (fun _ hk => hk) trivial (Below.refl _ _) (Nat.le_refl _) (by simp) ?_; (case hd => rfl); (case hg => rfl); (case hr => first | (go_simp; done) | (go_simp; rfl)); (case hp => exact (Reps.none _ _)); intro v295 w79 ho80 hb hg_ hnew_; clear hg_ hnew_; (first | rw [← Ny294.out] at ho80 | (simp only [Int.reduceToNat] at ho80; rw [← Ny294.out] at ho80)); have n0_ := Aside0.mk (Kd.R_elder' (rm HO265.out) (Kd.R_base ho80) hb); have n1_ := Aside0.mk (Kd.R_elder' (rm HO282.out) (Kd.R_base ho80) hb); have n2_ := Aside0.mk (Kd.R_elder' (rm HO293.out) (Kd.R_base ho80) hb); have n3_ := Aside0.mk (Kd.R_lower (Kd.R_new' (Kd.R_new' (Kd.R_new' ho80 (Kd.R_lt (rm HO265.out))) (Kd.R_lt (rm HO282.out))) (Kd.R_lt (rm HO293.out))) (below_size (lb HB.out))); have n4_ := Aside0.mk (below_step (lb HB.out) hb); clear HO265; clear HO282; clear HO293; clear HB; have HO265 := n0_; have HO282 := n1_; have HO293 := n2_; have HO296 := n3_; have HB := n4_; clear n0_ n1_ n2_ n3_ n4_; clear hb ho80))
               go_ret3
               exact ⟨_, _, by first | rfl | (simp [errW_none, errW_some] <;> rfl) | (simp only [← hji25]; first | rfl | (simp [errW_none, errW_some] <;> rfl)) | (simp [*, errW_none, errW_some] <;> rfl), rm (Kd.R_mono HO293.out (fun _ hk => by first | exact hk.2 | exact trivial)), rm (Kd.R_mono HO296.out (fun _ hk => by first | exact hk.2 | exact trivial)), lb HB.out⟩
             ·rw [if_neg c28] at H
              exact absurd H (by simp)
            ·rw [if_neg c27] at H
             exact absurd H (by simp)
           ·rw [if_neg c26] at H
            exact absurd H (by simp)
          ·rw [if_neg c24] at H
           exact absurd H (by simp)
         ·rw [if_neg c23] at H
          exact absurd H (by simp)
        ·rw [if_neg c22] at H
         exact absurd H (by simp)
       ·rw [if_neg c21] at H
        exact absurd H (by simp)
      ·rw [if_neg c20] at H
       exact absurd H (by simp)
     ·rw [if_neg c19] at H
      exact absurd H (by simp)
    ·rw [if_neg c18] at H
     exact absurd H (by simp)
def impl_PolyArea.v (l0 : List (S33)) : Int × Bool := if vdB l0 = true then (arN (plX l0) (plY l0) l0.length l0.length, true) else (0, false)
def impl_PolyArea.f (l0 : List (S33)) : Option (Int × Bool) := some (impl_PolyArea.v l0)
set_option maxHeartbeats 4000000 in
theorem impl_PolyArea.calls (A0 : Option Addr) (c0 : Nat) (l0 : List (S33)) (r1 : Int) (r2 : Bool) (w : World) (hr0 : Kd.C k33 w A0 l0.length l0) (hc0 : l0.length ≤ c0) (h : impl_PolyArea.f l0 = some (r1, r2)) :
  Calls Try.prog 11 #[.slice A0 l0.length c0] w fun e w' => e = .returned (.tuple #[.int .i64 r1, .bool r2]) ∧ Below w.heap.size w w' := by
 have HR := Aside0.mk hr0
 have HC := Aside0.mk hc0
 have HM := Aside0.mk (Hd.nil w)
 have h := Option.some.inj h
 clear hr0
 obtain ⟨k, hk⟩ := vd_f l0
 cases hv : vdB l0 with
 | false =>
  have HV := Aside0.mk (hk.trans (congrArg some hv))
  unfold impl_PolyArea.v at h
  rw [hv, if_neg (by simp)] at h
  obtain ⟨rfl, rfl⟩ := Prod.mk.inj h
  clear h hv hk
  go_enter Try.func11, Try.ntmps11
  go_upto_region 2 with (go_at_call 37; have hbel := HM.out.1; (with_reducible refine (outlineOf_no k A0 c0 l0 _ (Kd.C_below HR.out hbel) HC.out HV.out).mono ?_); rintro e w3 ⟨rfl, hb⟩; clear hbel; replace HM := Aside0.mk (HM.out.keep hb); clear hb)
  replace HM := Aside0.mk (HM.out.alloc #[.pointer none, .int .i64 0] 58)
  generalize w3.alloc (.cells #[.pointer none, .int .i64 0] 58) = w5 at *
  generalize w3.heap.size = g4 at *
  have c0 : w5.cell? ⟨g4, 0, none⟩ = some (.pointer none) := blk_cell HM.out.a0 0
  have c1 : w5.cell? ⟨g4, 1, none⟩ = some (.int .i64 0) := blk_cell HM.out.a0 1
  go_wp2_with fail
  go_ret2
  exact ⟨rfl, HM.out.1⟩
 | true =>
  have HV := Aside0.mk (hk.trans (congrArg some hv))
  unfold impl_PolyArea.v at h
  rw [hv, if_pos rfl] at h
  obtain ⟨rfl, rfl⟩ := Prod.mk.inj h
  have hvi := vdB_iff.1 hv
  clear h hv hk
  go_enter Try.func11, Try.ntmps11
  go_upto_region 2 with (go_at_call 37; have hbel := HM.out.1; (with_reducible refine (outlineOf_yes k A0 c0 l0 _ (Kd.C_below HR.out hbel) HC.out HV.out hvi.1 hvi.2.1).mono ?_); rintro e w3 ⟨bs, rfl, hrg, hb⟩; clear hbel; replace HM := Aside0.mk (HM.out.keep hb); have HRG := Aside0.mk hrg; clear hb hrg)
  replace HM := Aside0.mk (HM.out.alloc #[.pointer (some ⟨bs 0, 0, none⟩), .int .i64 (l0.length : Int)] 58)
  replace HRG := Aside0.mk (HRG.out.nextAlloc (.cells #[.pointer (some ⟨bs 0, 0, none⟩), .int .i64 (l0.length : Int)] 58))
  generalize w3.alloc (.cells #[.pointer (some ⟨bs 0, 0, none⟩), .int .i64 (l0.length : Int)] 58) = w5 at *
  generalize w3.heap.size = g4 at *
  have c0 : w5.cell? ⟨g4, 0, none⟩ = some (.pointer (some ⟨bs 0, 0, none⟩)) := blk_cell HM.out.a0 0
  have c1 : w5.cell? ⟨g4, 1, none⟩ = some (.int .i64 (l0.length : Int)) := blk_cell HM.out.a0 1
  go_wp2_with (go_at_call 38; (with_reducible refine (area_calls l0.length bs (plX l0) (plY l0) _ (by omega) HRG.out).mono ?_); rintro e w6 ⟨rfl, hb⟩; replace HRG := Aside0.mk (HRG.out.next hb); replace HM := Aside0.mk (HM.out.keep hb); clear hb c0 c1; have c0 : w6.cell? ⟨g4, 0, none⟩ = some (.pointer (some ⟨bs 0, 0, none⟩)) := blk_cell HM.out.a0 0; have c1 : w6.cell? ⟨g4, 1, none⟩ = some (.int .i64 (l0.length : Int)) := blk_cell HM.out.a0 1)
  go_ret2
  exact ⟨rfl, HM.out.1⟩
def impl_absInt.f (a0 : Int) : Option (Int) := if a0 < 0 then (some (wrap64 (-a0))) else (some a0)
set_option maxHeartbeats 8000000 in
set_option maxRecDepth 100000 in
theorem impl_absInt.calls (a0 : Int) (r : Int) (w : World) (h : impl_absInt.f a0 = some r) :
  Calls Try.prog 44 #[.int .i64 a0] w fun e w' => e = .returned (.int .i64 r) ∧ Drawn0 w w' := by
 have H : (if a0 < 0 then (some (wrap64 (-a0))) else (some a0)) = some r := h
 clear h
 by_cases c2 : a0 < 0
 ·rw [if_pos c2] at H
  have c2b0 : decide (a0 < 0) = true := decide_eq_true c2
  clear c2
  obtain rfl := Option.some.inj H
  go_enter Try.func44, Try.ntmps44
  go_wp2
  go_ret
  exact ⟨by first | rfl | (simp; done) | (simp [*]; done), by repeat (first | exact Drawn0.refl _ | apply Drawn0.step)⟩
 ·rw [if_neg c2] at H
  have c2b0 : decide (a0 < 0) = false := decide_eq_false c2
  clear c2
  obtain rfl := Option.some.inj H
  go_enter Try.func44, Try.ntmps44
  go_wp2
  go_ret
  exact ⟨by first | rfl | (simp; done) | (simp [*]; done), by repeat (first | exact Drawn0.refl _ | apply Drawn0.step)⟩
def impl_gcdInt.l0 : Nat → Int → Int → Option (Int)
 | 0, _, _ => none
 | k + 1, x0, x1 => if x1 = 0 then (some x0) else (impl_gcdInt.l0 k x1 (Int.tmod x0 x1))
def impl_gcdInt.f (k : Nat) (a0 : Int) (a1 : Int) : Option (Int) := (impl_absInt.f a0).bind fun t297 => ((impl_absInt.f a1).bind fun t298 => (impl_gcdInt.l0 k t297 t298))
theorem impl_gcdInt.mono_l : ∀ k, (∀ y0 y1, LeO (impl_gcdInt.l0 k y0 y1) (impl_gcdInt.l0 (k + 1) y0 y1))
 | 0 => fun _ _ r h => by simp [impl_gcdInt.l0] at h
 | k + 1 => by
  have ih0 := impl_gcdInt.mono_l k
  ·intro y0 y1
   unfold impl_gcdInt.l0
   repeat' first
   | (with_reducible exact ih0 _ _)
   | (with_reducible exact LeO.refl _)
   | (with_reducible exact LeO.none _)
   | (with_reducible refine LeO.ite ?_ ?_)
   | (with_reducible refine LeO.bind ?_ (fun _ => ?_))
   | exact ih0 _ _
   | exact LeO.none _
   | refine LeO.ite ?_ ?_
   | refine LeO.bind ?_ (fun _ => ?_)
theorem impl_gcdInt.mono : ∀ a0 a1 k, LeO (impl_gcdInt.f k a0 a1) (impl_gcdInt.f (k + 1) a0 a1) := by
 intro a0 a1 k
 have ih0 := impl_gcdInt.mono_l k
 unfold impl_gcdInt.f
 repeat' first
   | (with_reducible exact ih0 _ _)
   | (with_reducible exact LeO.refl _)
   | (with_reducible exact LeO.none _)
   | (with_reducible refine LeO.ite ?_ ?_)
   | (with_reducible refine LeO.bind ?_ (fun _ => ?_))
   | exact ih0 _ _
   | exact LeO.none _
   | refine LeO.ite ?_ ?_
   | refine LeO.bind ?_ (fun _ => ?_)
set_option maxHeartbeats 8000000 in
set_option maxRecDepth 100000 in
theorem impl_gcdInt.calls (k : Nat) (a0 : Int) (a1 : Int) (r : Int) (w : World) (h : impl_gcdInt.f k a0 a1 = some r) :
  Calls Try.prog 71 #[.int .i64 a0, .int .i64 a1] w fun e w' => e = .returned (.int .i64 r) ∧ Drawn0 w w' := by
 have H : ((impl_absInt.f a0).bind fun t297 => ((impl_absInt.f a1).bind fun t298 => (impl_gcdInt.l0 k t297 t298))) = some r := h
 clear h
 replace H := Option.bind_eq_some_iff.mp H
 obtain ⟨t297, A30, H⟩ := H
 replace H : ((impl_absInt.f a1).bind fun t298 => (impl_gcdInt.l0 k t297 t298)) = some r := H
 have A3 := Aside0.mk A30
 clear A30
 replace H := Option.bind_eq_some_iff.mp H
 obtain ⟨t298, A40, H⟩ := H
 replace H : (impl_gcdInt.l0 k t297 t298) = some r := H
 have A4 := Aside0.mk A40
 clear A40
 have H' := Aside0.mk H
 clear H
 go_enter Try.func71, Try.ntmps71
 go_wp2_with (first | (go_at_call 44; (with_reducible refine (impl_absInt.calls a0 t297 _ A3.out).mono ?_); rintro e w' ⟨rfl, ⟨nd, rfl⟩⟩; (try first | exact ⟨rfl, _, World.drewN_drewN _ _ _⟩ | exact ⟨rfl, _, Eq.trans (World.drewN_drewN _ _ _) (congrArg (World.drewN _) (Nat.add_assoc _ _ _))⟩)) | (go_at_call 44; (with_reducible refine (impl_absInt.calls a1 t298 _ A4.out).mono ?_); rintro e w' ⟨rfl, ⟨nd, rfl⟩⟩; (try first | exact ⟨rfl, _, World.drewN_drewN _ _ _⟩ | exact ⟨rfl, _, Eq.trans (World.drewN_drewN _ _ _) (congrArg (World.drewN _) (Nat.add_assoc _ _ _))⟩)))
 repeat (go_quiet (first | (go_at_call 44; (with_reducible refine (impl_absInt.calls a0 t297 _ A3.out).mono ?_); rintro e w' ⟨rfl, ⟨nd, rfl⟩⟩; (try first | exact ⟨rfl, _, World.drewN_drewN _ _ _⟩ | exact ⟨rfl, _, Eq.trans (World.drewN_drewN _ _ _) (congrArg (World.drewN _) (Nat.add_assoc _ _ _))⟩)) | (go_at_call 44; (with_reducible refine (impl_absInt.calls a1 t298 _ A4.out).mono ?_); rintro e w' ⟨rfl, ⟨nd, rfl⟩⟩; (try first | exact ⟨rfl, _, World.drewN_drewN _ _ _⟩ | exact ⟨rfl, _, Eq.trans (World.drewN_drewN _ _ _) (congrArg (World.drewN _) (Nat.add_assoc _ _ _))⟩))); try go_wp2_with (first | (go_at_call 44; (with_reducible refine (impl_absInt.calls a0 t297 _ A3.out).mono ?_); rintro e w' ⟨rfl, ⟨nd, rfl⟩⟩; (try first | exact ⟨rfl, _, World.drewN_drewN _ _ _⟩ | exact ⟨rfl, _, Eq.trans (World.drewN_drewN _ _ _) (congrArg (World.drewN _) (Nat.add_assoc _ _ _))⟩)) | (go_at_call 44; (with_reducible refine (impl_absInt.calls a1 t298 _ A4.out).mono ?_); rintro e w' ⟨rfl, ⟨nd, rfl⟩⟩; (try first | exact ⟨rfl, _, World.drewN_drewN _ _ _⟩ | exact ⟨rfl, _, Eq.trans (World.drewN_drewN _ _ _) (congrArg (World.drewN _) (Nat.add_assoc _ _ _))⟩))))
 go_loopg [0, 1] k (fun kq v0 v1 w' => ∃ (x0_1 : Int) (x1_1 : Int), v0 = .int .i64 x0_1 ∧ v1 = .int .i64 x1_1 ∧ Aside0 (impl_gcdInt.l0 kq x0_1 x1_1 = some r) ∧ Aside0 (kq ≤ k) ∧ Drawn0 w w')
 case atStart => exact ⟨(t297), (t298), (by first | rfl | (simp; done) | (simp [*]; done)), (by first | rfl | (simp; done) | (simp [*]; done)), H', ⟨Nat.le_refl _⟩, by repeat (first | exact Drawn0.refl _ | apply Drawn0.step)⟩
 case round =>
  clear H'
  try clear p2
  obtain ⟨x0_1, x1_1, rfl, rfl, HA, HK1, ⟨m1, rfl⟩⟩ := hrel
  cases gk with
  | zero => exact absurd HA.out (by simp [impl_gcdInt.l0])
  | succ k1 =>
   have H := HA.out
   clear HA
   simp only [impl_gcdInt.l0] at H
   by_cases c5 : x1_1 = 0
   ·rw [if_pos c5] at H
    have c5b0 : (x1_1 == 0) = true := beq_iff_eq.mpr c5
    have c5b1 : (x1_1 != 0) = false := bne_eq_false_iff_eq.mpr c5
    clear c5
    obtain rfl := Option.some.inj H
    go_wp2
    repeat (go_quiet (fail); try go_wp2)
    go_ret
    exact ⟨by first | rfl | (simp; done) | (simp [*]; done), by repeat (first | exact Drawn0.refl _ | apply Drawn0.step)⟩
   ·rw [if_neg c5] at H
    have c5b0 : (x1_1 == 0) = false := beq_eq_false_iff_ne.mpr c5
    have c5b1 : (x1_1 != 0) = true := bne_iff_ne.mpr c5
    have H' := Aside0.mk H
    clear H
    go_wp2
    repeat (go_quiet (fail); try go_wp2)
    go_roundg k1
    case measure => have := HK1.out; omega
    case rel => exact ⟨(x1_1), (Int.tmod x0_1 x1_1), (by first | rfl | (simp; done) | (simp [*]; done)), (by first | rfl | (simp; done) | (simp [*]; done)), H', ⟨by have := HK1.out; omega⟩, by repeat (first | exact Drawn0.refl _ | apply Drawn0.step)⟩
def impl_QuoValid.f (k : Nat) (a0_0 : Int) (a0_1 : Int) : Option (Bool) := if a0_1 < 1 then (some false) else (if a0_1 > 1000000000 then (some false) else ((impl_within.f a0_0 1000000000).bind fun t300 => (if t300 = true then ((impl_gcdInt.f k a0_0 a0_1).bind fun t301 => (some (t301 == 1))) else (some false))))
theorem impl_QuoValid.mono : ∀ a0 a1 k, LeO (impl_QuoValid.f k a0 a1) (impl_QuoValid.f (k + 1) a0 a1) := by
 intro a0 a1 k
 unfold impl_QuoValid.f
 repeat' first
   | (with_reducible exact impl_gcdInt.mono _ _ _)
   | (with_reducible exact LeO.refl _)
   | (with_reducible exact LeO.none _)
   | (with_reducible refine LeO.ite ?_ ?_)
   | (with_reducible refine LeO.bind ?_ (fun _ => ?_))
   | exact impl_gcdInt.mono _ _ _
   | exact LeO.none _
   | refine LeO.ite ?_ ?_
   | refine LeO.bind ?_ (fun _ => ?_)
set_option maxHeartbeats 8000000 in
set_option maxRecDepth 100000 in
theorem impl_QuoValid.calls (k : Nat) (a0_0 : Int) (a0_1 : Int) (r : Bool) (w : World) (h : impl_QuoValid.f k a0_0 a0_1 = some r) :
  Calls Try.prog 74 #[.agg #[.int .i64 a0_0, .int .i64 a0_1]] w fun e w' => e = .returned (.bool r) ∧ Below w.heap.size w w' := by
 have hu39 := Try.underlying39
 have HB := Aside0.mk (Below.refl w.heap.size w)
 have H : (if a0_1 < 1 then (some false) else (if a0_1 > 1000000000 then (some false) else ((impl_within.f a0_0 1000000000).bind fun t300 => (if t300 = true then ((impl_gcdInt.f k a0_0 a0_1).bind fun t301 => (some (t301 == 1))) else (some false))))) = some r := h
 clear h
 by_cases c2 : a0_1 < 1
 ·rw [if_pos c2] at H
  have c2b0 : decide (a0_1 < 1) = true := decide_eq_true c2
  clear c2
  obtain rfl := Option.some.inj H
  go_enter Try.func74, Try.ntmps74
  go_wp2_with (first | ((with_reducible refine gate_dst (N := 1) rfl ?_); refine bx_ 1 (cs := #[.int .i64 a0_0, .int .i64 a0_1]) (t := 39) ?_; intro gb299 hg w3 hbox hb; have n0_ := Aside0.mk (below_step (lb HB.out) hb); have n1_ := Aside0.mk (hbox); have n2_ := Aside0.mk ((by rw [hg]; exact (below_size (lb HB.out)) : w.heap.size ≤ gb299)); have n3_ := Aside0.mk ((by rw [hg]; exact (below_size (lb HB.out)) : w.heap.size ≤ gb299)); clear HB; have HB := n0_; have BK299 := n1_; have GW299 := n2_; have GE299 := n3_; clear n0_ n1_ n2_ n3_; clear hb hbox hg; have hcz4_0 : w3.cell? ⟨gb299, 0, none⟩ = some (.int .i64 a0_0) := (blk_cell BK299.out 0).trans rfl; have hcz4_1 : w3.cell? ⟨gb299, 1, none⟩ = some (.int .i64 a0_1) := (blk_cell BK299.out 1).trans rfl; have hfz4_0 := blk_frozen BK299.out 0; have hfz4_1 := blk_frozen BK299.out 1))
  go_ret
  exact ⟨er, lb HB.out⟩
 ·rw [if_neg c2] at H
  have c2b0 : decide (a0_1 < 1) = false := decide_eq_false c2
  clear c2
  by_cases c5 : a0_1 > 1000000000
  ·rw [if_pos c5] at H
   have c5b0 : decide (1000000000 < a0_1) = true := decide_eq_true c5
   clear c5
   obtain rfl := Option.some.inj H
   go_enter Try.func74, Try.ntmps74
   go_wp2_with (first | ((with_reducible refine gate_dst (N := 1) rfl ?_); refine bx_ 1 (cs := #[.int .i64 a0_0, .int .i64 a0_1]) (t := 39) ?_; intro gb299 hg w6 hbox hb; have n0_ := Aside0.mk (below_step (lb HB.out) hb); have n1_ := Aside0.mk (hbox); have n2_ := Aside0.mk ((by rw [hg]; exact (below_size (lb HB.out)) : w.heap.size ≤ gb299)); have n3_ := Aside0.mk ((by rw [hg]; exact (below_size (lb HB.out)) : w.heap.size ≤ gb299)); clear HB; have HB := n0_; have BK299 := n1_; have GW299 := n2_; have GE299 := n3_; clear n0_ n1_ n2_ n3_; clear hb hbox hg; have hcz7_0 : w6.cell? ⟨gb299, 0, none⟩ = some (.int .i64 a0_0) := (blk_cell BK299.out 0).trans rfl; have hcz7_1 : w6.cell? ⟨gb299, 1, none⟩ = some (.int .i64 a0_1) := (blk_cell BK299.out 1).trans rfl; have hfz7_0 := blk_frozen BK299.out 0; have hfz7_1 := blk_frozen BK299.out 1))
   go_ret
   exact ⟨er, lb HB.out⟩
  ·rw [if_neg c5] at H
   have c5b0 : decide (1000000000 < a0_1) = false := decide_eq_false c5
   clear c5
   replace H := Option.bind_eq_some_iff.mp H
   obtain ⟨t300, A80, H⟩ := H
   replace H : (if t300 = true then ((impl_gcdInt.f k a0_0 a0_1).bind fun t301 => (some (t301 == 1))) else (some false)) = some r := H
   have A8 := Aside0.mk A80
   clear A80
   by_cases c9 : t300 = true
   ·subst c9
    have H1 : ((impl_gcdInt.f k a0_0 a0_1).bind fun t301 => (some (t301 == 1))) = some r := by rw [if_pos rfl] at H; exact H
    clear H
    have H := H1
    clear H1
    replace H := Option.bind_eq_some_iff.mp H
    obtain ⟨t301, A100, H⟩ := H
    replace H : (some (t301 == 1)) = some r := H
    have A10 := Aside0.mk A100
    clear A100
    obtain rfl := Option.some.inj H
    go_enter Try.func74, Try.ntmps74
    go_wp2_with (first | ((with_reducible refine gate_dst (N := 1) rfl ?_); refine bx_ 1 (cs := #[.int .i64 a0_0, .int .i64 a0_1]) (t := 39) ?_; intro gb299 hg w11 hbox hb; have n0_ := Aside0.mk (below_step (lb HB.out) hb); have n1_ := Aside0.mk (hbox); have n2_ := Aside0.mk ((by rw [hg]; exact (below_size (lb HB.out)) : w.heap.size ≤ gb299)); have n3_ := Aside0.mk ((by rw [hg]; exact (below_size (lb HB.out)) : w.heap.size ≤ gb299)); clear HB; have HB := n0_; have BK299 := n1_; have GW299 := n2_; have GE299 := n3_; clear n0_ n1_ n2_ n3_; clear hb hbox hg; have hcz12_0 : w11.cell? ⟨gb299, 0, none⟩ = some (.int .i64 a0_0) := (blk_cell BK299.out 0).trans rfl; have hcz12_1 : w11.cell? ⟨gb299, 1, none⟩ = some (.int .i64 a0_1) := (blk_cell BK299.out 1).trans rfl; have hfz12_0 := blk_frozen BK299.out 0; have hfz12_1 := blk_frozen BK299.out 1) | (go_at_call 73; (with_reducible refine (impl_within.calls a0_0 1000000000 true _ A8.out).mono ?_); rintro e w' ⟨rfl, ⟨nd, rfl⟩⟩) | ((with_reducible refine gate_callee (f := 71) rfl ?_); refine goesL_ (some 21) rfl rfl Try.func71 (by kernel_rfl) rfl #[.int .i64 a0_0, .int .i64 a0_1] rfl al ?_; (with_reducible refine (impl_gcdInt.calls k a0_0 a0_1 t301 _ A10.out).mono ?_); rintro e w' ⟨rfl, ⟨nd, rfl⟩⟩; refine ⟨_, rfl, ?_⟩))
    go_ret
    exact ⟨er, lb HB.out⟩
   ·replace c9 := Bool.eq_false_iff.mpr c9
    subst c9
    have H1 : (some false) = some r := by rw [if_neg (show ¬ (false = true) by decide)] at H; exact H
    clear H
    have H := H1
    clear H1
    obtain rfl := Option.some.inj H
    go_enter Try.func74, Try.ntmps74
    go_wp2_with (first | ((with_reducible refine gate_dst (N := 1) rfl ?_); refine bx_ 1 (cs := #[.int .i64 a0_0, .int .i64 a0_1]) (t := 39) ?_; intro gb299 hg w13 hbox hb; have n0_ := Aside0.mk (below_step (lb HB.out) hb); have n1_ := Aside0.mk (hbox); have n2_ := Aside0.mk ((by rw [hg]; exact (below_size (lb HB.out)) : w.heap.size ≤ gb299)); have n3_ := Aside0.mk ((by rw [hg]; exact (below_size (lb HB.out)) : w.heap.size ≤ gb299)); clear HB; have HB := n0_; have BK299 := n1_; have GW299 := n2_; have GE299 := n3_; clear n0_ n1_ n2_ n3_; clear hb hbox hg; have hcz14_0 : w13.cell? ⟨gb299, 0, none⟩ = some (.int .i64 a0_0) := (blk_cell BK299.out 0).trans rfl; have hcz14_1 : w13.cell? ⟨gb299, 1, none⟩ = some (.int .i64 a0_1) := (blk_cell BK299.out 1).trans rfl; have hfz14_0 := blk_frozen BK299.out 0; have hfz14_1 := blk_frozen BK299.out 1) | (go_at_call 73; (with_reducible refine (impl_within.calls a0_0 1000000000 false _ A8.out).mono ?_); rintro e w' ⟨rfl, ⟨nd, rfl⟩⟩))
    go_ret
    exact ⟨er, lb HB.out⟩
end Go.Proofs.Ytfonigbkoligmaa.P
-- squeezed

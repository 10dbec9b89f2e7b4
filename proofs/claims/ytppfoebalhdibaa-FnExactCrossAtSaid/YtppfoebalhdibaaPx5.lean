import Derived.Test.YtppfoebalhdibaaPx0
import Derived.Test.YtppfoebalhdibaaPx3
import Derived.Test.YtppfoebalhdibaaPx4
namespace Go.Proofs.Ytppfoebalhdibaa.P
open Go.RowKit Go.Proofs.YtppfoebalhdibaaW.PrintWords Go.Proofs.YtppfoebalhdibaaW.PrintLast Go.Proofs.YtppfoebalhdibaaW.PrintMore
attribute [local go_sem] max2_int min2_int max_two min_two max_three min_three max_four min_four
set_option linter.unusedVariables false
set_option linter.unusedSimpArgs false
def Hu (w W : World) (L : List (Nat × Array Value × TypeId)) : Prop := Below w.heap.size w W ∧ (∀ e ∈ L, w.heap.size ≤ e.1 ∧ W.heap[e.1]? = some (.cells e.2.1 e.2.2 (0, 0))) ∧ L.Pairwise (fun a b => a.1 ≠ b.1)
section
variable {w W W' : World} {L : List (Nat × Array Value × TypeId)} {g : Nat} {cs : Array Value} {t : TypeId} {e1 e2 : Nat × Array Value × TypeId}
theorem Hu.of (h : Hd w W L) : Hu w W L := ⟨h.1, h.2.1, h.2.2.imp (fun h => by omega)⟩
theorem Hu.keep (h : Hu w W L) (hb : Below W.heap.size W W') : Hu w W' L :=
 ⟨below_then h.1 h.1.size hb, fun e he => ⟨(h.2.1 e he).1, (hb.block _ (blk_lt (h.2.1 e he).2)).trans (h.2.1 e he).2⟩, h.2.2⟩
theorem Hu.drew (h : Hu w W L) : Hu w W.drew L := h.keep (below_drew1 (Below.refl _ _))
theorem Hu.box (h : Hu w W L) (hb : Below W.heap.size W W') (hg : W'.heap[g]? = some (.cells cs t (0, 0))) (he : g = W.heap.size) : Hu w W' ((g, cs, t) :: L) := by
 refine ⟨below_then h.1 h.1.size hb, fun e hm => ?_, List.pairwise_cons.2 ⟨fun e hm => ?_, h.2.2⟩⟩
 ·rcases List.mem_cons.1 hm with rfl | hm
  ·exact ⟨by rw [he]; exact h.1.size, hg⟩
  ·exact (h.keep hb).2.1 e hm
 ·have := blk_lt (h.2.1 e hm).2
  show g ≠ e.1
  omega
theorem Hu.tl (h : Hu w W (e1 :: L)) : Hu w W L := ⟨h.1, fun e he => h.2.1 e (List.mem_cons_of_mem _ he), (List.pairwise_cons.1 h.2.2).2⟩
theorem Hu.a0 (h : Hu w W ((g, cs, t) :: L)) : W.heap[g]? = some (.cells cs t (0, 0)) := (h.2.1 _ List.mem_cons_self).2
theorem Hu.swap (h : Hu w W (e1 :: e2 :: L)) : Hu w W (e2 :: e1 :: L) := by
 obtain ⟨h1, h2, h3⟩ := h
 obtain ⟨p1, p2⟩ := List.pairwise_cons.1 h3
 obtain ⟨p3, p4⟩ := List.pairwise_cons.1 p2
 refine ⟨h1, fun e he => h2 e ?_, List.pairwise_cons.2 ⟨fun b hb => ?_, List.pairwise_cons.2 ⟨fun b hb => p1 b (List.mem_cons_of_mem _ hb), p4⟩⟩⟩
 ·simp only [List.mem_cons] at he ⊢
  rcases he with h | h | h
  ·exact .inr (.inl h)
  ·exact .inl h
  ·exact .inr (.inr h)
 ·rcases List.mem_cons.1 hb with rfl | hb
  ·exact (p1 e2 List.mem_cons_self).symm
  ·exact p3 b hb
theorem Hu.put {i : Nat} (h : Hu w W ((g, cs, t) :: L)) (v : Value) : Hu w (W.setCell ⟨g, i, none⟩ v) ((g, cs.setIfInBounds i v, t) :: L) := by
 obtain ⟨h1, h2, h3⟩ := h
 obtain ⟨p1, p2⟩ := List.pairwise_cons.1 h3
 have hg := h2 _ List.mem_cons_self
 refine ⟨h1.setCell hg.1 v, fun e he => ?_, List.pairwise_cons.2 ⟨p1, p2⟩⟩
 rcases List.mem_cons.1 he with rfl | he
 ·exact ⟨hg.1, blk_put hg.2 i v rfl⟩
 ·have k := h2 e (List.mem_cons_of_mem _ he)
  exact ⟨k.1, blk_far (p := ⟨g, i, none⟩) k.2 (fun h => p1 e he h.symm) v⟩
theorem Hu.put2 {u v : Value} (h : Hu w W ((g, #[u, v], t) :: L)) (p q : Value) : Hu w ((W.setCell ⟨g, 0, none⟩ p).setCell ⟨g, 1, none⟩ q) ((g, #[p, q], t) :: L) := (h.put (i := 0) p).put (i := 1) q
end
theorem boxesU {w W : World} {g4 g5 g6 g7 : Nat} {a0_0 a0_1 a1_0 a1_1 a2_0 a2_1 a3_0 a3_1 : Int} (h : Hu w W [(g7, #[.int .i64 a3_0, .int .i64 a3_1], 23), (g6, #[.int .i64 a2_0, .int .i64 a2_1], 23), (g5, #[.int .i64 a1_0, .int .i64 a1_1], 23), (g4, #[.int .i64 a0_0, .int .i64 a0_1], 23)]) : W.cell? ⟨g4, 0, none⟩ = some (.int .i64 a0_0) ∧ W.cell? ⟨g4, 1, none⟩ = some (.int .i64 a0_1) ∧ W.cell? ⟨g5, 0, none⟩ = some (.int .i64 a1_0) ∧ W.cell? ⟨g5, 1, none⟩ = some (.int .i64 a1_1) ∧ W.cell? ⟨g6, 0, none⟩ = some (.int .i64 a2_0) ∧ W.cell? ⟨g6, 1, none⟩ = some (.int .i64 a2_1) ∧ W.cell? ⟨g7, 0, none⟩ = some (.int .i64 a3_0) ∧ W.cell? ⟨g7, 1, none⟩ = some (.int .i64 a3_1) :=
 ⟨blk_cell h.tl.tl.tl.a0 0, blk_cell h.tl.tl.tl.a0 1, blk_cell h.tl.tl.a0 0, blk_cell h.tl.tl.a0 1, blk_cell h.tl.a0 0, blk_cell h.tl.a0 1, blk_cell h.a0 0, blk_cell h.a0 1⟩
def exAt.T : Bool × List (List Nat × List Nat) := (true,[([],[]),([0],[0]),([],[]),([2,1],[2]),([],[]),([4,3],[4]),([],[]),([6,5],[6]),([1,3,5,7,7],[1,3,5,7]),([8],[8]),([9],[9]),([9],[9]),([9],[9]),([],[]),([],[]),([13,10,8,0,1,2,3,4,5,6,7,8,9,10,13,14],[10,13]),([14,11,15,0,1,2,3,4,5,6,7,8,9,10,11,13,14,15],[11,14]),([12,16,0,1,2,3,4,5,6,7,8,9,10,11,12,13,14,15,16],[12])])
def exAt.B : List Nat := [0,1,0,7,0,31,0,127,255,511,1023,1023,1023,0,0,26623,61439,131071]
theorem exAt.tab1 : rtab .any (opsOf Try.f3 1) = exAt.T := by kernel_rfl
theorem exAt.bits1 : waitsOk exAt.T.2 exAt.B = true := by kernel_rfl
theorem exAt.tab2 : rtab .any (opsOf Try.f3 2) = exAt.T := by kernel_rfl
theorem exAt.bits2 : waitsOk exAt.T.2 exAt.B = true := by kernel_rfl
set_option maxHeartbeats 40000000 in
set_option maxRecDepth 100000 in
theorem exactAt_calls (k : Nat) (a0_0 : Int) (a0_1 : Int) (a1_0 : Int) (a1_1 : Int) (a2_0 : Int) (a2_1 : Int) (a3_0 : Int) (a3_1 : Int) (x1 x2 y1 y2 u1 u2 v1 v2 : Int) (z : Bool) (hs : spec_CrossAt.f k a0_0 a0_1 a1_0 a1_1 a2_0 a2_1 a3_0 a3_1 = some (x1, x2, y1, y2, z)) (hi : impl_CrossAt.f k a0_0 a0_1 a1_0 a1_1 a2_0 a2_1 a3_0 a3_1 = some (u1, u2, v1, v2, z)) (h1 : laws_eqQuo.f u1 u2 x1 x2 = some true) (h2 : laws_eqQuo.f v1 v2 y1 y2 = some true) (w : World) :
  Calls Try.prog 3 #[.agg #[.int .i64 a0_0, .int .i64 a0_1], .agg #[.int .i64 a1_0, .int .i64 a1_1], .agg #[.int .i64 a2_0, .int .i64 a2_1], .agg #[.int .i64 a3_0, .int .i64 a3_1]] w fun e w' => e = .returned (.bool true) ∧ Below w.heap.size w w' := by
 have HS := Aside0.mk hs
 have HI := Aside0.mk hi
 have H1 := Aside0.mk h1
 have H2 := Aside0.mk h2
 have HM := Aside0.mk (Hd.nil w)
 clear hs hi h1 h2
 go_enter Try.func3, Try.ntmps3
 go_upto_region 1 with (first
  | ((with_reducible refine gate_dst (N := 4) rfl ?_); refine bx_ 4 (cs := #[.int .i64 a0_0, .int .i64 a0_1]) (t := 23) ?_; intro g4 e_ w_ b_ hb; replace HM := Aside0.mk (HM.out.box hb b_ e_); clear e_ b_ hb)
  | ((with_reducible refine gate_dst (N := 5) rfl ?_); refine bx_ 5 (cs := #[.int .i64 a1_0, .int .i64 a1_1]) (t := 23) ?_; intro g5 e_ w_ b_ hb; replace HM := Aside0.mk (HM.out.box hb b_ e_); clear e_ b_ hb)
  | ((with_reducible refine gate_dst (N := 6) rfl ?_); refine bx_ 6 (cs := #[.int .i64 a2_0, .int .i64 a2_1]) (t := 23) ?_; intro g6 e_ w_ b_ hb; replace HM := Aside0.mk (HM.out.box hb b_ e_); clear e_ b_ hb)
  | ((with_reducible refine gate_dst (N := 7) rfl ?_); refine bx_ 7 (cs := #[.int .i64 a3_0, .int .i64 a3_1]) (t := 23) ?_; intro g7 e_ w_ b_ hb; replace HM := Aside0.mk (HM.out.box hb b_ e_); clear e_ b_ hb))
 replace HM := Aside0.mk (Hu.of HM.out)
 refine start_ (n := 18) (S := (fun w' => w'.cell? ⟨g4, 0, none⟩ = some (.int .i64 a0_0) ∧ w'.cell? ⟨g4, 1, none⟩ = some (.int .i64 a0_1) ∧ w'.cell? ⟨g5, 0, none⟩ = some (.int .i64 a1_0) ∧ w'.cell? ⟨g5, 1, none⟩ = some (.int .i64 a1_1) ∧ w'.cell? ⟨g6, 0, none⟩ = some (.int .i64 a2_0) ∧ w'.cell? ⟨g6, 1, none⟩ = some (.int .i64 a2_1) ∧ w'.cell? ⟨g7, 0, none⟩ = some (.int .i64 a3_0) ∧ w'.cell? ⟨g7, 1, none⟩ = some (.int .i64 a3_1))) (ds := []) #[false,false,false,false,false,false,false,false,false,false,false,false,false,false,false,false,false,false] (by kernel_rfl) rfl rfl (boxesU HM.out.drew) (fun hHeld => ?_)
 refine with_tabW exAt.tab1 exAt.bits1 (fun HT_ HW_ => ?_)
 replace HM := Aside0.mk HM.out.drew
 refine tq_ 0 (some 16) ?_
 refine tq_ 2 (some 18) ?_
 refine tq_ 4 (some 20) ?_
 refine tq_ 6 (some 22) ?_
 refine join_ (σ := Nat × Nat) 3 #[true,true,true,true,true,true,true,true,true,true,true,true,true,true,true,false,false,false] (fun s_ => [(17, .agg #[.int .i64 a0_0, .int .i64 a0_1]), (19, .agg #[.int .i64 a1_0, .int .i64 a1_1]), (21, .agg #[.int .i64 a2_0, .int .i64 a2_1]), (23, .agg #[.int .i64 a3_0, .int .i64 a3_1]), (24, .tuple #[.agg #[.int .i64 x1, .int .i64 x2], .agg #[.int .i64 y1, .int .i64 y2], .bool z]), (15, .tuple #[.agg #[.int .i64 x1, .int .i64 x2], .agg #[.int .i64 y1, .int .i64 y2], .bool z]), (25, .agg #[.int .i64 x1, .int .i64 x2]), (26, .agg #[.int .i64 y1, .int .i64 y2]), (27, .bool z), (9, .pointer (some ⟨s_.1, 0, none⟩)), (10, .pointer (some ⟨s_.2, 0, none⟩))]) (fun s_ w' => Hu w w' [(s_.1, #[.int .i64 0, .int .i64 0], 25), (s_.2, #[.int .i64 0, .int .i64 0], 25), (g7, #[.int .i64 a3_0, .int .i64 a3_1], 23), (g6, #[.int .i64 a2_0, .int .i64 a2_1], 23), (g5, #[.int .i64 a1_0, .int .i64 a1_1], 23), (g4, #[.int .i64 a0_0, .int .i64 a0_1], 23)]) ?_ ?_
 ·clear HM hHeld
  rintro ⟨h1_13, h1_14⟩ wJ hM_
  have HM := Aside0.mk hM_
  clear hM_
  have hHeld := (boxesU HM.out.tl.tl)
  refine norm_ (a' := ?_) ?_ ?_
  rotate_left
  ·simp only [putAll, Act.put, List.setIfInBounds_toArray, List.set_cons_zero, List.set_cons_succ]
   rfl
  have ks0 := blk_cell HM.out.a0 0
  have ks1 := blk_cell HM.out.a0 1
  have kf0 := blk_frozen HM.out.a0 0
  have kf1 := blk_frozen HM.out.a0 1
  refine one_ (i := 15) (N := none) #[true,true,true,true,true,true,true,true,true,true,true,true,true,true,true,true,false,false] rfl rfl (one_of HT_.out (by kernel_rfl)) (by decide) (fun K hK => ?_)
  refine skip_ (w1 := ?_) (by rfl) rfl ?_ ?_
  rotate_left
  ·go_simp
   rfl
  replace HM := Aside0.mk (HM.out.put2 (.int .i64 x1) (.int .i64 x2)).swap
  clear ks0 ks1 kf0 kf1 hHeld
  generalize (wJ.setCell ⟨h1_13, 0, none⟩ (.int .i64 x1)).setCell ⟨h1_13, 1, none⟩ (.int .i64 x2) = wS0 at HM ⊢
  refine hK.out _ _ (boxesU HM.out.tl.tl) (fun hHeld => ?_)
  clear hK K
  have ks0 := blk_cell HM.out.a0 0
  have ks1 := blk_cell HM.out.a0 1
  have kf0 := blk_frozen HM.out.a0 0
  have kf1 := blk_frozen HM.out.a0 1
  refine one_ (i := 16) (N := none) #[true,true,true,true,true,true,true,true,true,true,true,true,true,true,true,true,true,false] rfl rfl (one_of HT_.out (by kernel_rfl)) (by decide) (fun K hK => ?_)
  refine skip_ (w1 := ?_) (by rfl) rfl ?_ ?_
  rotate_left
  ·go_simp
   rfl
  replace HM := Aside0.mk (HM.out.put2 (.int .i64 y1) (.int .i64 y2)).swap
  clear ks0 ks1 kf0 kf1 hHeld
  generalize (wS0.setCell ⟨h1_14, 0, none⟩ (.int .i64 y1)).setCell ⟨h1_14, 1, none⟩ (.int .i64 y2) = wS1 at HM ⊢
  refine hK.out _ _ (boxesU HM.out.tl.tl) (fun hHeld => ?_)
  clear hK K
  refine pq_ 17 (some 11) ?_
  refine done_ (done_of HT_.out (by kernel_rfl)) ?_
  try go_wp2
  clear HT_ HW_ hHeld
  refine start_ (n := 18) (S := (fun w' => w'.cell? ⟨g4, 0, none⟩ = some (.int .i64 a0_0) ∧ w'.cell? ⟨g4, 1, none⟩ = some (.int .i64 a0_1) ∧ w'.cell? ⟨g5, 0, none⟩ = some (.int .i64 a1_0) ∧ w'.cell? ⟨g5, 1, none⟩ = some (.int .i64 a1_1) ∧ w'.cell? ⟨g6, 0, none⟩ = some (.int .i64 a2_0) ∧ w'.cell? ⟨g6, 1, none⟩ = some (.int .i64 a2_1) ∧ w'.cell? ⟨g7, 0, none⟩ = some (.int .i64 a3_0) ∧ w'.cell? ⟨g7, 1, none⟩ = some (.int .i64 a3_1))) (ds := []) #[false,false,false,false,false,false,false,false,false,false,false,false,false,false,false,false,false,false] (by kernel_rfl) rfl rfl (boxesU HM.out.drew.tl.tl) (fun hHeld => ?_)
  refine with_tabW exAt.tab2 exAt.bits2 (fun HT_ HW_ => ?_)
  replace HM := Aside0.mk HM.out.drew
  refine tq_ 0 (some 29) ?_
  refine tq_ 2 (some 31) ?_
  refine tq_ 4 (some 33) ?_
  refine tq_ 6 (some 35) ?_
  refine join_ (σ := Nat × Nat) 3 #[true,true,true,true,true,true,true,true,true,true,true,true,true,true,true,false,false,false] (fun s_ => [(30, .agg #[.int .i64 a0_0, .int .i64 a0_1]), (32, .agg #[.int .i64 a1_0, .int .i64 a1_1]), (34, .agg #[.int .i64 a2_0, .int .i64 a2_1]), (36, .agg #[.int .i64 a3_0, .int .i64 a3_1]), (37, .tuple #[.agg #[.int .i64 u1, .int .i64 u2], .agg #[.int .i64 v1, .int .i64 v2], .bool z]), (28, .tuple #[.agg #[.int .i64 u1, .int .i64 u2], .agg #[.int .i64 v1, .int .i64 v2], .bool z]), (38, .agg #[.int .i64 u1, .int .i64 u2]), (39, .agg #[.int .i64 v1, .int .i64 v2]), (40, .bool z), (12, .pointer (some ⟨s_.1, 0, none⟩)), (13, .pointer (some ⟨s_.2, 0, none⟩))]) (fun s_ w' => Hu w w' [(s_.1, #[.int .i64 0, .int .i64 0], 25), (s_.2, #[.int .i64 0, .int .i64 0], 25), (h1_13, #[.int .i64 x1, .int .i64 x2], 25), (h1_14, #[.int .i64 y1, .int .i64 y2], 25), (g7, #[.int .i64 a3_0, .int .i64 a3_1], 23), (g6, #[.int .i64 a2_0, .int .i64 a2_1], 23), (g5, #[.int .i64 a1_0, .int .i64 a1_1], 23), (g4, #[.int .i64 a0_0, .int .i64 a0_1], 23)]) ?_ ?_
  ·clear HM hHeld
   rintro ⟨h2_13, h2_14⟩ wJ hM_
   have HM := Aside0.mk hM_
   clear hM_
   have hHeld := (boxesU HM.out.tl.tl.tl.tl)
   refine norm_ (a' := ?_) ?_ ?_
   rotate_left
   ·simp only [putAll, Act.put, List.setIfInBounds_toArray, List.set_cons_zero, List.set_cons_succ]
    rfl
   have ks0 := blk_cell HM.out.a0 0
   have ks1 := blk_cell HM.out.a0 1
   have kf0 := blk_frozen HM.out.a0 0
   have kf1 := blk_frozen HM.out.a0 1
   refine one_ (i := 15) (N := none) #[true,true,true,true,true,true,true,true,true,true,true,true,true,true,true,true,false,false] rfl rfl (one_of HT_.out (by kernel_rfl)) (by decide) (fun K hK => ?_)
   refine skip_ (w1 := ?_) (by rfl) rfl ?_ ?_
   rotate_left
   ·go_simp
    rfl
   replace HM := Aside0.mk (HM.out.put2 (.int .i64 u1) (.int .i64 u2)).swap
   clear ks0 ks1 kf0 kf1 hHeld
   generalize (wJ.setCell ⟨h2_13, 0, none⟩ (.int .i64 u1)).setCell ⟨h2_13, 1, none⟩ (.int .i64 u2) = wS0 at HM ⊢
   refine hK.out _ _ (boxesU HM.out.tl.tl.tl.tl) (fun hHeld => ?_)
   clear hK K
   have ks0 := blk_cell HM.out.a0 0
   have ks1 := blk_cell HM.out.a0 1
   have kf0 := blk_frozen HM.out.a0 0
   have kf1 := blk_frozen HM.out.a0 1
   refine one_ (i := 16) (N := none) #[true,true,true,true,true,true,true,true,true,true,true,true,true,true,true,true,true,false] rfl rfl (one_of HT_.out (by kernel_rfl)) (by decide) (fun K hK => ?_)
   refine skip_ (w1 := ?_) (by rfl) rfl ?_ ?_
   rotate_left
   ·go_simp
    rfl
   replace HM := Aside0.mk (HM.out.put2 (.int .i64 v1) (.int .i64 v2)).swap
   clear ks0 ks1 kf0 kf1 hHeld
   generalize (wS0.setCell ⟨h2_14, 0, none⟩ (.int .i64 v1)).setCell ⟨h2_14, 1, none⟩ (.int .i64 v2) = wS1 at HM ⊢
   refine hK.out _ _ (boxesU HM.out.tl.tl.tl.tl) (fun hHeld => ?_)
   clear hK K
   refine pq_ 17 (some 14) ?_
   refine done_ (done_of HT_.out (by kernel_rfl)) ?_
   clear HT_ HW_ hHeld
   have kq0 := blk_cell HM.out.a0 0
   have kq1 := blk_cell HM.out.a0 1
   have kq2 := blk_cell HM.out.tl.a0 0
   have kq3 := blk_cell HM.out.tl.a0 1
   have kq4 := blk_cell HM.out.tl.tl.a0 0
   have kq5 := blk_cell HM.out.tl.tl.a0 1
   have kq6 := blk_cell HM.out.tl.tl.tl.a0 0
   have kq7 := blk_cell HM.out.tl.tl.tl.a0 1
   try go_wp2_with (first
    | (go_at_call 7; (with_reducible refine (laws_eqQuo.calls u1 u2 x1 x2 true _ H1.out).mono ?_); rintro e w_ ⟨rfl, hb⟩; replace HM := Aside0.mk (HM.out.keep hb); clear hb; (try clear kq0 kq1 kq2 kq3 kq4 kq5 kq6 kq7); have kq0 := blk_cell HM.out.a0 0; have kq1 := blk_cell HM.out.a0 1; have kq2 := blk_cell HM.out.tl.a0 0; have kq3 := blk_cell HM.out.tl.a0 1; have kq4 := blk_cell HM.out.tl.tl.a0 0; have kq5 := blk_cell HM.out.tl.tl.a0 1; have kq6 := blk_cell HM.out.tl.tl.tl.a0 0; have kq7 := blk_cell HM.out.tl.tl.tl.a0 1)
    | (go_at_call 7; (with_reducible refine (laws_eqQuo.calls v1 v2 y1 y2 true _ H2.out).mono ?_); rintro e w_ ⟨rfl, hb⟩; replace HM := Aside0.mk (HM.out.keep hb); clear hb; (try clear kq0 kq1 kq2 kq3 kq4 kq5 kq6 kq7); have kq0 := blk_cell HM.out.a0 0; have kq1 := blk_cell HM.out.a0 1; have kq2 := blk_cell HM.out.tl.a0 0; have kq3 := blk_cell HM.out.tl.a0 1; have kq4 := blk_cell HM.out.tl.tl.a0 0; have kq5 := blk_cell HM.out.tl.tl.a0 1; have kq6 := blk_cell HM.out.tl.tl.tl.a0 0; have kq7 := blk_cell HM.out.tl.tl.tl.a0 1))
   go_ret
   exact ⟨er, HM.out.1⟩
  intro hJr2_5_13_14
  refine join_ (σ := Nat) 4 #[true,true,true,true,true,true,true,true,true,true,true,true,true,true,false,false,false,false] (fun s_ => [(30, .agg #[.int .i64 a0_0, .int .i64 a0_1]), (32, .agg #[.int .i64 a1_0, .int .i64 a1_1]), (34, .agg #[.int .i64 a2_0, .int .i64 a2_1]), (36, .agg #[.int .i64 a3_0, .int .i64 a3_1]), (37, .tuple #[.agg #[.int .i64 u1, .int .i64 u2], .agg #[.int .i64 v1, .int .i64 v2], .bool z]), (28, .tuple #[.agg #[.int .i64 u1, .int .i64 u2], .agg #[.int .i64 v1, .int .i64 v2], .bool z]), (38, .agg #[.int .i64 u1, .int .i64 u2]), (39, .agg #[.int .i64 v1, .int .i64 v2]), (40, .bool z), (12, .pointer (some ⟨s_, 0, none⟩))]) (fun s_ w' => Hu w w' [(s_, #[.int .i64 0, .int .i64 0], 25), (h1_13, #[.int .i64 x1, .int .i64 x2], 25), (h1_14, #[.int .i64 y1, .int .i64 y2], 25), (g7, #[.int .i64 a3_0, .int .i64 a3_1], 23), (g6, #[.int .i64 a2_0, .int .i64 a2_1], 23), (g5, #[.int .i64 a1_0, .int .i64 a1_1], 23), (g4, #[.int .i64 a0_0, .int .i64 a0_1], 23)]) ?_ ?_
  ·clear HM hHeld
   rintro h2_13 wJ hM_
   have HM := Aside0.mk hM_
   clear hM_
   have hHeld := (boxesU HM.out.tl.tl.tl)
   refine norm_ (a' := ?_) ?_ ?_
   rotate_left
   ·simp only [putAll, Act.put, List.setIfInBounds_toArray, List.set_cons_zero, List.set_cons_succ]
    rfl
   refine one_ (i := 14) (N := some 13) #[true,true,true,true,true,true,true,true,true,true,true,true,true,true,true,false,false,false] rfl rfl (one_of HT_.out (by kernel_rfl)) (by decide) (fun K hK => ?_)
   ·skip
    refine box_step ?hg (N := 13) ?hd (cs := #[.int .i64 0, .int .i64 0]) (t := 25) ?hr ?_; (case hd => rfl); (case hg => rfl); (case hr => first | (go_simp; done) | (go_simp; rfl))
    intro h2_14 hg wA hbox hb
    replace HM := Aside0.mk (HM.out.box hb hbox hg)
    clear hg hbox hb
    replace HM := Aside0.mk HM.out.swap
    refine hK.out _ _ (boxesU HM.out.tl.tl.tl.tl) (fun hHeld => ?_)
    clear hK K
    refine norm_ (a' := ?_) ?_ ?_
    rotate_left
    ·show Act.put _ (some 13) _ = _
     simp only [Act.put, List.setIfInBounds_toArray, List.set_cons_zero, List.set_cons_succ, i64_w, i32_w]
     rfl
    exact norm_ (by first | (simp only [putAll, Act.put, List.setIfInBounds_toArray, List.set_cons_zero, List.set_cons_succ]; done) | (simp only [putAll, Act.put, List.setIfInBounds_toArray, List.set_cons_zero, List.set_cons_succ]; rfl)) (hJr2_5_13_14 (h2_13, h2_14) _ HM.out)
  intro hJr2_5_13
  refine join_ (σ := Nat) 4 #[true,true,true,true,true,true,true,true,true,true,true,true,true,false,true,false,false,false] (fun s_ => [(30, .agg #[.int .i64 a0_0, .int .i64 a0_1]), (32, .agg #[.int .i64 a1_0, .int .i64 a1_1]), (34, .agg #[.int .i64 a2_0, .int .i64 a2_1]), (36, .agg #[.int .i64 a3_0, .int .i64 a3_1]), (37, .tuple #[.agg #[.int .i64 u1, .int .i64 u2], .agg #[.int .i64 v1, .int .i64 v2], .bool z]), (28, .tuple #[.agg #[.int .i64 u1, .int .i64 u2], .agg #[.int .i64 v1, .int .i64 v2], .bool z]), (38, .agg #[.int .i64 u1, .int .i64 u2]), (39, .agg #[.int .i64 v1, .int .i64 v2]), (40, .bool z), (13, .pointer (some ⟨s_, 0, none⟩))]) (fun s_ w' => Hu w w' [(s_, #[.int .i64 0, .int .i64 0], 25), (h1_13, #[.int .i64 x1, .int .i64 x2], 25), (h1_14, #[.int .i64 y1, .int .i64 y2], 25), (g7, #[.int .i64 a3_0, .int .i64 a3_1], 23), (g6, #[.int .i64 a2_0, .int .i64 a2_1], 23), (g5, #[.int .i64 a1_0, .int .i64 a1_1], 23), (g4, #[.int .i64 a0_0, .int .i64 a0_1], 23)]) ?_ ?_
  ·clear HM hHeld
   rintro h2_14 wJ hM_
   have HM := Aside0.mk hM_
   clear hM_
   have hHeld := (boxesU HM.out.tl.tl.tl)
   refine norm_ (a' := ?_) ?_ ?_
   rotate_left
   ·simp only [putAll, Act.put, List.setIfInBounds_toArray, List.set_cons_zero, List.set_cons_succ]
    rfl
   refine one_ (i := 13) (N := some 12) #[true,true,true,true,true,true,true,true,true,true,true,true,true,true,true,false,false,false] rfl rfl (one_of HT_.out (by kernel_rfl)) (by decide) (fun K hK => ?_)
   ·skip
    refine box_step ?hg (N := 12) ?hd (cs := #[.int .i64 0, .int .i64 0]) (t := 25) ?hr ?_; (case hd => rfl); (case hg => rfl); (case hr => first | (go_simp; done) | (go_simp; rfl))
    intro h2_13 hg wA hbox hb
    replace HM := Aside0.mk (HM.out.box hb hbox hg)
    clear hg hbox hb
    refine hK.out _ _ (boxesU HM.out.tl.tl.tl.tl) (fun hHeld => ?_)
    clear hK K
    refine norm_ (a' := ?_) ?_ ?_
    rotate_left
    ·show Act.put _ (some 12) _ = _
     simp only [Act.put, List.setIfInBounds_toArray, List.set_cons_zero, List.set_cons_succ, i64_w, i32_w]
     rfl
    exact norm_ (by first | (simp only [putAll, Act.put, List.setIfInBounds_toArray, List.set_cons_zero, List.set_cons_succ]; done) | (simp only [putAll, Act.put, List.setIfInBounds_toArray, List.set_cons_zero, List.set_cons_succ]; rfl)) (hJr2_5_13_14 (h2_13, h2_14) _ HM.out)
  intro hJr2_5_14
  refine join_ (σ := Unit) 5 #[true,true,true,true,true,true,true,true,true,true,true,true,true,false,false,false,false,false] (fun s_ => [(30, .agg #[.int .i64 a0_0, .int .i64 a0_1]), (32, .agg #[.int .i64 a1_0, .int .i64 a1_1]), (34, .agg #[.int .i64 a2_0, .int .i64 a2_1]), (36, .agg #[.int .i64 a3_0, .int .i64 a3_1]), (37, .tuple #[.agg #[.int .i64 u1, .int .i64 u2], .agg #[.int .i64 v1, .int .i64 v2], .bool z]), (28, .tuple #[.agg #[.int .i64 u1, .int .i64 u2], .agg #[.int .i64 v1, .int .i64 v2], .bool z]), (38, .agg #[.int .i64 u1, .int .i64 u2]), (39, .agg #[.int .i64 v1, .int .i64 v2]), (40, .bool z)]) (fun s_ w' => Hu w w' [(h1_13, #[.int .i64 x1, .int .i64 x2], 25), (h1_14, #[.int .i64 y1, .int .i64 y2], 25), (g7, #[.int .i64 a3_0, .int .i64 a3_1], 23), (g6, #[.int .i64 a2_0, .int .i64 a2_1], 23), (g5, #[.int .i64 a1_0, .int .i64 a1_1], 23), (g4, #[.int .i64 a0_0, .int .i64 a0_1], 23)]) ?_ ?_
  ·clear HM hHeld
   rintro _ wJ hM_
   have HM := Aside0.mk hM_
   clear hM_
   have hHeld := (boxesU HM.out.tl.tl)
   refine norm_ (a' := ?_) ?_ ?_
   rotate_left
   ·simp only [putAll, Act.put, List.setIfInBounds_toArray, List.set_cons_zero, List.set_cons_succ]
    rfl
   refine two_ (i := 13) (j := 14) (Ni := some 12) (Nj := some 13) #[true,true,true,true,true,true,true,true,true,true,true,true,true,true,false,false,false,false] #[true,true,true,true,true,true,true,true,true,true,true,true,true,false,true,false,false,false] rfl rfl rfl rfl (two_of HT_.out (by kernel_rfl)) (by decide) (by decide) (fun K hK => ?_) (fun K hK => ?_)
   ·skip
    refine box_step ?hg (N := 12) ?hd (cs := #[.int .i64 0, .int .i64 0]) (t := 25) ?hr ?_; (case hd => rfl); (case hg => rfl); (case hr => first | (go_simp; done) | (go_simp; rfl))
    intro h2_13 hg wA hbox hb
    replace HM := Aside0.mk (HM.out.box hb hbox hg)
    clear hg hbox hb
    refine hK.out _ _ (boxesU HM.out.tl.tl.tl) (fun hHeld => ?_)
    clear hK K
    refine norm_ (a' := ?_) ?_ ?_
    rotate_left
    ·show Act.put _ (some 12) _ = _
     simp only [Act.put, List.setIfInBounds_toArray, List.set_cons_zero, List.set_cons_succ, i64_w, i32_w]
     rfl
    exact norm_ (by first | (simp only [putAll, Act.put, List.setIfInBounds_toArray, List.set_cons_zero, List.set_cons_succ]; done) | (simp only [putAll, Act.put, List.setIfInBounds_toArray, List.set_cons_zero, List.set_cons_succ]; rfl)) (hJr2_5_13 h2_13 _ HM.out)
   ·skip
    refine box_step ?hg (N := 13) ?hd (cs := #[.int .i64 0, .int .i64 0]) (t := 25) ?hr ?_; (case hd => rfl); (case hg => rfl); (case hr => first | (go_simp; done) | (go_simp; rfl))
    intro h2_14 hg wA hbox hb
    replace HM := Aside0.mk (HM.out.box hb hbox hg)
    clear hg hbox hb
    refine hK.out _ _ (boxesU HM.out.tl.tl.tl) (fun hHeld => ?_)
    clear hK K
    refine norm_ (a' := ?_) ?_ ?_
    rotate_left
    ·show Act.put _ (some 13) _ = _
     simp only [Act.put, List.setIfInBounds_toArray, List.set_cons_zero, List.set_cons_succ, i64_w, i32_w]
     rfl
    exact norm_ (by first | (simp only [putAll, Act.put, List.setIfInBounds_toArray, List.set_cons_zero, List.set_cons_succ]; done) | (simp only [putAll, Act.put, List.setIfInBounds_toArray, List.set_cons_zero, List.set_cons_succ]; rfl)) (hJr2_5_14 h2_14 _ HM.out)
  intro hJr2_5
  refine join_ (σ := Nat × Nat) 8 #[true,true,true,true,true,true,true,true,false,false,false,false,false,true,true,false,false,false] (fun s_ => [(30, .agg #[.int .i64 a0_0, .int .i64 a0_1]), (32, .agg #[.int .i64 a1_0, .int .i64 a1_1]), (34, .agg #[.int .i64 a2_0, .int .i64 a2_1]), (36, .agg #[.int .i64 a3_0, .int .i64 a3_1]), (12, .pointer (some ⟨s_.1, 0, none⟩)), (13, .pointer (some ⟨s_.2, 0, none⟩))]) (fun s_ w' => Hu w w' [(s_.1, #[.int .i64 0, .int .i64 0], 25), (s_.2, #[.int .i64 0, .int .i64 0], 25), (h1_13, #[.int .i64 x1, .int .i64 x2], 25), (h1_14, #[.int .i64 y1, .int .i64 y2], 25), (g7, #[.int .i64 a3_0, .int .i64 a3_1], 23), (g6, #[.int .i64 a2_0, .int .i64 a2_1], 23), (g5, #[.int .i64 a1_0, .int .i64 a1_1], 23), (g4, #[.int .i64 a0_0, .int .i64 a0_1], 23)]) ?_ ?_
  ·clear HM hHeld
   rintro ⟨h2_13, h2_14⟩ wJ hM_
   have HM := Aside0.mk hM_
   clear hM_
   have hHeld := (boxesU HM.out.tl.tl.tl.tl)
   refine norm_ (a' := ?_) ?_ ?_
   rotate_left
   ·simp only [putAll, Act.put, List.setIfInBounds_toArray, List.set_cons_zero, List.set_cons_succ]
    rfl
   refine one_ (i := 8) (N := some 37) #[true,true,true,true,true,true,true,true,true,false,false,false,false,true,true,false,false,false] rfl rfl (one_of HT_.out (by kernel_rfl)) (by decide) (fun K hK => ?_)
   ·skip
    refine goes_ Try.func6 (by kernel_rfl) rfl #[.agg #[.int .i64 a0_0, .int .i64 a0_1], .agg #[.int .i64 a1_0, .int .i64 a1_1], .agg #[.int .i64 a2_0, .int .i64 a2_1], .agg #[.int .i64 a3_0, .int .i64 a3_1]] (by rfl) rfl rfl al ?_
    with_reducible refine (impl_CrossAt.calls k a0_0 a0_1 a1_0 a1_1 a2_0 a2_1 a3_0 a3_1 u1 u2 v1 v2 z _ HI.out).mono ?_
    rintro e wC ⟨rfl, hb⟩
    refine ⟨_, rfl, ?_⟩
    replace HM := Aside0.mk (HM.out.keep hb)
    clear hb
    refine hK.out _ _ (boxesU HM.out.tl.tl.tl.tl) (fun hHeld => ?_)
    clear hK K
    refine norm_ (a' := ?_) ?_ ?_
    rotate_left
    ·show Act.put _ (some 37) _ = _
     simp only [Act.put, List.setIfInBounds_toArray, List.set_cons_zero, List.set_cons_succ, i64_w, i32_w]
     rfl
    refine pq_ 9 (some 28) ?_
    refine pq_ 10 (some 38) ?_
    refine pq_ 11 (some 39) ?_
    refine pq_ 12 (some 40) ?_
    exact norm_ (by first | (simp only [putAll, Act.put, List.setIfInBounds_toArray, List.set_cons_zero, List.set_cons_succ]; done) | (simp only [putAll, Act.put, List.setIfInBounds_toArray, List.set_cons_zero, List.set_cons_succ]; rfl)) (hJr2_5_13_14 (h2_13, h2_14) _ HM.out)
  intro hJr2_4_13_14
  refine join_ (σ := Nat) 9 #[true,true,true,true,true,true,true,true,false,false,false,false,false,true,false,false,false,false] (fun s_ => [(30, .agg #[.int .i64 a0_0, .int .i64 a0_1]), (32, .agg #[.int .i64 a1_0, .int .i64 a1_1]), (34, .agg #[.int .i64 a2_0, .int .i64 a2_1]), (36, .agg #[.int .i64 a3_0, .int .i64 a3_1]), (12, .pointer (some ⟨s_, 0, none⟩))]) (fun s_ w' => Hu w w' [(s_, #[.int .i64 0, .int .i64 0], 25), (h1_13, #[.int .i64 x1, .int .i64 x2], 25), (h1_14, #[.int .i64 y1, .int .i64 y2], 25), (g7, #[.int .i64 a3_0, .int .i64 a3_1], 23), (g6, #[.int .i64 a2_0, .int .i64 a2_1], 23), (g5, #[.int .i64 a1_0, .int .i64 a1_1], 23), (g4, #[.int .i64 a0_0, .int .i64 a0_1], 23)]) ?_ ?_
  ·clear HM hHeld
   rintro h2_13 wJ hM_
   have HM := Aside0.mk hM_
   clear hM_
   have hHeld := (boxesU HM.out.tl.tl.tl)
   refine norm_ (a' := ?_) ?_ ?_
   rotate_left
   ·simp only [putAll, Act.put, List.setIfInBounds_toArray, List.set_cons_zero, List.set_cons_succ]
    rfl
   refine two_ (i := 8) (j := 14) (Ni := some 37) (Nj := some 13) #[true,true,true,true,true,true,true,true,true,false,false,false,false,true,false,false,false,false] #[true,true,true,true,true,true,true,true,false,false,false,false,false,true,true,false,false,false] rfl rfl rfl rfl (two_of HT_.out (by kernel_rfl)) (by decide) (by decide) (fun K hK => ?_) (fun K hK => ?_)
   ·skip
    refine goes_ Try.func6 (by kernel_rfl) rfl #[.agg #[.int .i64 a0_0, .int .i64 a0_1], .agg #[.int .i64 a1_0, .int .i64 a1_1], .agg #[.int .i64 a2_0, .int .i64 a2_1], .agg #[.int .i64 a3_0, .int .i64 a3_1]] (by rfl) rfl rfl al ?_
    with_reducible refine (impl_CrossAt.calls k a0_0 a0_1 a1_0 a1_1 a2_0 a2_1 a3_0 a3_1 u1 u2 v1 v2 z _ HI.out).mono ?_
    rintro e wC ⟨rfl, hb⟩
    refine ⟨_, rfl, ?_⟩
    replace HM := Aside0.mk (HM.out.keep hb)
    clear hb
    refine hK.out _ _ (boxesU HM.out.tl.tl.tl) (fun hHeld => ?_)
    clear hK K
    refine norm_ (a' := ?_) ?_ ?_
    rotate_left
    ·show Act.put _ (some 37) _ = _
     simp only [Act.put, List.setIfInBounds_toArray, List.set_cons_zero, List.set_cons_succ, i64_w, i32_w]
     rfl
    refine pq_ 9 (some 28) ?_
    refine pq_ 10 (some 38) ?_
    refine pq_ 11 (some 39) ?_
    refine pq_ 12 (some 40) ?_
    exact norm_ (by first | (simp only [putAll, Act.put, List.setIfInBounds_toArray, List.set_cons_zero, List.set_cons_succ]; done) | (simp only [putAll, Act.put, List.setIfInBounds_toArray, List.set_cons_zero, List.set_cons_succ]; rfl)) (hJr2_5_13 h2_13 _ HM.out)
   ·skip
    refine box_step ?hg (N := 13) ?hd (cs := #[.int .i64 0, .int .i64 0]) (t := 25) ?hr ?_; (case hd => rfl); (case hg => rfl); (case hr => first | (go_simp; done) | (go_simp; rfl))
    intro h2_14 hg wA hbox hb
    replace HM := Aside0.mk (HM.out.box hb hbox hg)
    clear hg hbox hb
    replace HM := Aside0.mk HM.out.swap
    refine hK.out _ _ (boxesU HM.out.tl.tl.tl.tl) (fun hHeld => ?_)
    clear hK K
    refine norm_ (a' := ?_) ?_ ?_
    rotate_left
    ·show Act.put _ (some 13) _ = _
     simp only [Act.put, List.setIfInBounds_toArray, List.set_cons_zero, List.set_cons_succ, i64_w, i32_w]
     rfl
    exact norm_ (by first | (simp only [putAll, Act.put, List.setIfInBounds_toArray, List.set_cons_zero, List.set_cons_succ]; done) | (simp only [putAll, Act.put, List.setIfInBounds_toArray, List.set_cons_zero, List.set_cons_succ]; rfl)) (hJr2_4_13_14 (h2_13, h2_14) _ HM.out)
  intro hJr2_4_13
  refine join_ (σ := Nat) 9 #[true,true,true,true,true,true,true,true,false,false,false,false,false,false,true,false,false,false] (fun s_ => [(30, .agg #[.int .i64 a0_0, .int .i64 a0_1]), (32, .agg #[.int .i64 a1_0, .int .i64 a1_1]), (34, .agg #[.int .i64 a2_0, .int .i64 a2_1]), (36, .agg #[.int .i64 a3_0, .int .i64 a3_1]), (13, .pointer (some ⟨s_, 0, none⟩))]) (fun s_ w' => Hu w w' [(s_, #[.int .i64 0, .int .i64 0], 25), (h1_13, #[.int .i64 x1, .int .i64 x2], 25), (h1_14, #[.int .i64 y1, .int .i64 y2], 25), (g7, #[.int .i64 a3_0, .int .i64 a3_1], 23), (g6, #[.int .i64 a2_0, .int .i64 a2_1], 23), (g5, #[.int .i64 a1_0, .int .i64 a1_1], 23), (g4, #[.int .i64 a0_0, .int .i64 a0_1], 23)]) ?_ ?_
  ·clear HM hHeld
   rintro h2_14 wJ hM_
   have HM := Aside0.mk hM_
   clear hM_
   have hHeld := (boxesU HM.out.tl.tl.tl)
   refine norm_ (a' := ?_) ?_ ?_
   rotate_left
   ·simp only [putAll, Act.put, List.setIfInBounds_toArray, List.set_cons_zero, List.set_cons_succ]
    rfl
   refine two_ (i := 8) (j := 13) (Ni := some 37) (Nj := some 12) #[true,true,true,true,true,true,true,true,true,false,false,false,false,false,true,false,false,false] #[true,true,true,true,true,true,true,true,false,false,false,false,false,true,true,false,false,false] rfl rfl rfl rfl (two_of HT_.out (by kernel_rfl)) (by decide) (by decide) (fun K hK => ?_) (fun K hK => ?_)
   ·skip
    refine goes_ Try.func6 (by kernel_rfl) rfl #[.agg #[.int .i64 a0_0, .int .i64 a0_1], .agg #[.int .i64 a1_0, .int .i64 a1_1], .agg #[.int .i64 a2_0, .int .i64 a2_1], .agg #[.int .i64 a3_0, .int .i64 a3_1]] (by rfl) rfl rfl al ?_
    with_reducible refine (impl_CrossAt.calls k a0_0 a0_1 a1_0 a1_1 a2_0 a2_1 a3_0 a3_1 u1 u2 v1 v2 z _ HI.out).mono ?_
    rintro e wC ⟨rfl, hb⟩
    refine ⟨_, rfl, ?_⟩
    replace HM := Aside0.mk (HM.out.keep hb)
    clear hb
    refine hK.out _ _ (boxesU HM.out.tl.tl.tl) (fun hHeld => ?_)
    clear hK K
    refine norm_ (a' := ?_) ?_ ?_
    rotate_left
    ·show Act.put _ (some 37) _ = _
     simp only [Act.put, List.setIfInBounds_toArray, List.set_cons_zero, List.set_cons_succ, i64_w, i32_w]
     rfl
    refine pq_ 9 (some 28) ?_
    refine pq_ 10 (some 38) ?_
    refine pq_ 11 (some 39) ?_
    refine pq_ 12 (some 40) ?_
    exact norm_ (by first | (simp only [putAll, Act.put, List.setIfInBounds_toArray, List.set_cons_zero, List.set_cons_succ]; done) | (simp only [putAll, Act.put, List.setIfInBounds_toArray, List.set_cons_zero, List.set_cons_succ]; rfl)) (hJr2_5_14 h2_14 _ HM.out)
   ·skip
    refine box_step ?hg (N := 12) ?hd (cs := #[.int .i64 0, .int .i64 0]) (t := 25) ?hr ?_; (case hd => rfl); (case hg => rfl); (case hr => first | (go_simp; done) | (go_simp; rfl))
    intro h2_13 hg wA hbox hb
    replace HM := Aside0.mk (HM.out.box hb hbox hg)
    clear hg hbox hb
    refine hK.out _ _ (boxesU HM.out.tl.tl.tl.tl) (fun hHeld => ?_)
    clear hK K
    refine norm_ (a' := ?_) ?_ ?_
    rotate_left
    ·show Act.put _ (some 12) _ = _
     simp only [Act.put, List.setIfInBounds_toArray, List.set_cons_zero, List.set_cons_succ, i64_w, i32_w]
     rfl
    exact norm_ (by first | (simp only [putAll, Act.put, List.setIfInBounds_toArray, List.set_cons_zero, List.set_cons_succ]; done) | (simp only [putAll, Act.put, List.setIfInBounds_toArray, List.set_cons_zero, List.set_cons_succ]; rfl)) (hJr2_4_13_14 (h2_13, h2_14) _ HM.out)
  intro hJr2_4_14
  refine join_ (σ := Unit) 10 #[true,true,true,true,true,true,true,true,false,false,false,false,false,false,false,false,false,false] (fun s_ => [(30, .agg #[.int .i64 a0_0, .int .i64 a0_1]), (32, .agg #[.int .i64 a1_0, .int .i64 a1_1]), (34, .agg #[.int .i64 a2_0, .int .i64 a2_1]), (36, .agg #[.int .i64 a3_0, .int .i64 a3_1])]) (fun s_ w' => Hu w w' [(h1_13, #[.int .i64 x1, .int .i64 x2], 25), (h1_14, #[.int .i64 y1, .int .i64 y2], 25), (g7, #[.int .i64 a3_0, .int .i64 a3_1], 23), (g6, #[.int .i64 a2_0, .int .i64 a2_1], 23), (g5, #[.int .i64 a1_0, .int .i64 a1_1], 23), (g4, #[.int .i64 a0_0, .int .i64 a0_1], 23)]) ?_ ?_
  ·clear HM hHeld
   rintro _ wJ hM_
   have HM := Aside0.mk hM_
   clear hM_
   have hHeld := (boxesU HM.out.tl.tl)
   refine norm_ (a' := ?_) ?_ ?_
   rotate_left
   ·simp only [putAll, Act.put, List.setIfInBounds_toArray, List.set_cons_zero, List.set_cons_succ]
    rfl
   refine three_ (i := 8) (j := 13) (k := 14) (Ni := some 37) (Nj := some 12) (Nk := some 13) #[true,true,true,true,true,true,true,true,true,false,false,false,false,false,false,false,false,false] #[true,true,true,true,true,true,true,true,false,false,false,false,false,true,false,false,false,false] #[true,true,true,true,true,true,true,true,false,false,false,false,false,false,true,false,false,false] rfl rfl rfl rfl rfl rfl (three_of HT_.out (by kernel_rfl)) (by decide) (by decide) (by decide) (fun K hK => ?_) (fun K hK => ?_) (fun K hK => ?_)
   ·skip
    refine goes_ Try.func6 (by kernel_rfl) rfl #[.agg #[.int .i64 a0_0, .int .i64 a0_1], .agg #[.int .i64 a1_0, .int .i64 a1_1], .agg #[.int .i64 a2_0, .int .i64 a2_1], .agg #[.int .i64 a3_0, .int .i64 a3_1]] (by rfl) rfl rfl al ?_
    with_reducible refine (impl_CrossAt.calls k a0_0 a0_1 a1_0 a1_1 a2_0 a2_1 a3_0 a3_1 u1 u2 v1 v2 z _ HI.out).mono ?_
    rintro e wC ⟨rfl, hb⟩
    refine ⟨_, rfl, ?_⟩
    replace HM := Aside0.mk (HM.out.keep hb)
    clear hb
    refine hK.out _ _ (boxesU HM.out.tl.tl) (fun hHeld => ?_)
    clear hK K
    refine norm_ (a' := ?_) ?_ ?_
    rotate_left
    ·show Act.put _ (some 37) _ = _
     simp only [Act.put, List.setIfInBounds_toArray, List.set_cons_zero, List.set_cons_succ, i64_w, i32_w]
     rfl
    refine pq_ 9 (some 28) ?_
    refine pq_ 10 (some 38) ?_
    refine pq_ 11 (some 39) ?_
    refine pq_ 12 (some 40) ?_
    exact norm_ (by first | (simp only [putAll, Act.put, List.setIfInBounds_toArray, List.set_cons_zero, List.set_cons_succ]; done) | (simp only [putAll, Act.put, List.setIfInBounds_toArray, List.set_cons_zero, List.set_cons_succ]; rfl)) (hJr2_5 () _ HM.out)
   ·skip
    refine box_step ?hg (N := 12) ?hd (cs := #[.int .i64 0, .int .i64 0]) (t := 25) ?hr ?_; (case hd => rfl); (case hg => rfl); (case hr => first | (go_simp; done) | (go_simp; rfl))
    intro h2_13 hg wA hbox hb
    replace HM := Aside0.mk (HM.out.box hb hbox hg)
    clear hg hbox hb
    refine hK.out _ _ (boxesU HM.out.tl.tl.tl) (fun hHeld => ?_)
    clear hK K
    refine norm_ (a' := ?_) ?_ ?_
    rotate_left
    ·show Act.put _ (some 12) _ = _
     simp only [Act.put, List.setIfInBounds_toArray, List.set_cons_zero, List.set_cons_succ, i64_w, i32_w]
     rfl
    exact norm_ (by first | (simp only [putAll, Act.put, List.setIfInBounds_toArray, List.set_cons_zero, List.set_cons_succ]; done) | (simp only [putAll, Act.put, List.setIfInBounds_toArray, List.set_cons_zero, List.set_cons_succ]; rfl)) (hJr2_4_13 h2_13 _ HM.out)
   ·skip
    refine box_step ?hg (N := 13) ?hd (cs := #[.int .i64 0, .int .i64 0]) (t := 25) ?hr ?_; (case hd => rfl); (case hg => rfl); (case hr => first | (go_simp; done) | (go_simp; rfl))
    intro h2_14 hg wA hbox hb
    replace HM := Aside0.mk (HM.out.box hb hbox hg)
    clear hg hbox hb
    refine hK.out _ _ (boxesU HM.out.tl.tl.tl) (fun hHeld => ?_)
    clear hK K
    refine norm_ (a' := ?_) ?_ ?_
    rotate_left
    ·show Act.put _ (some 13) _ = _
     simp only [Act.put, List.setIfInBounds_toArray, List.set_cons_zero, List.set_cons_succ, i64_w, i32_w]
     rfl
    exact norm_ (by first | (simp only [putAll, Act.put, List.setIfInBounds_toArray, List.set_cons_zero, List.set_cons_succ]; done) | (simp only [putAll, Act.put, List.setIfInBounds_toArray, List.set_cons_zero, List.set_cons_succ]; rfl)) (hJr2_4_14 h2_14 _ HM.out)
  intro hJr2_4
  refine join_ (σ := Nat × Nat) 9 #[true,true,true,true,true,true,true,false,false,false,false,false,false,true,true,false,false,false] (fun s_ => [(30, .agg #[.int .i64 a0_0, .int .i64 a0_1]), (32, .agg #[.int .i64 a1_0, .int .i64 a1_1]), (34, .agg #[.int .i64 a2_0, .int .i64 a2_1]), (12, .pointer (some ⟨s_.1, 0, none⟩)), (13, .pointer (some ⟨s_.2, 0, none⟩))]) (fun s_ w' => Hu w w' [(s_.1, #[.int .i64 0, .int .i64 0], 25), (s_.2, #[.int .i64 0, .int .i64 0], 25), (h1_13, #[.int .i64 x1, .int .i64 x2], 25), (h1_14, #[.int .i64 y1, .int .i64 y2], 25), (g7, #[.int .i64 a3_0, .int .i64 a3_1], 23), (g6, #[.int .i64 a2_0, .int .i64 a2_1], 23), (g5, #[.int .i64 a1_0, .int .i64 a1_1], 23), (g4, #[.int .i64 a0_0, .int .i64 a0_1], 23)]) ?_ ?_
  ·clear HM hHeld
   rintro ⟨h2_13, h2_14⟩ wJ hM_
   have HM := Aside0.mk hM_
   clear hM_
   have hHeld := (boxesU HM.out.tl.tl.tl.tl)
   refine norm_ (a' := ?_) ?_ ?_
   rotate_left
   ·simp only [putAll, Act.put, List.setIfInBounds_toArray, List.set_cons_zero, List.set_cons_succ]
    rfl
   refine one_ (i := 7) (N := some 36) #[true,true,true,true,true,true,true,true,false,false,false,false,false,true,true,false,false,false] rfl rfl (one_of HT_.out (by kernel_rfl)) (by decide) (fun K hK => ?_)
   ·skip
    refine goes_ Try.func5 (by kernel_rfl) rfl #[.agg #[.int .i64 a3_0, .int .i64 a3_1]] (by rfl) rfl rfl al ?_
    with_reducible refine (laws_toPoint.calls a3_0 a3_1 a3_0 a3_1 _ rfl).mono ?_
    rintro e wC ⟨rfl, hb⟩
    refine ⟨_, rfl, ?_⟩
    replace HM := Aside0.mk (HM.out.keep hb)
    clear hb
    refine hK.out _ _ (boxesU HM.out.tl.tl.tl.tl) (fun hHeld => ?_)
    clear hK K
    refine norm_ (a' := ?_) ?_ ?_
    rotate_left
    ·show Act.put _ (some 36) _ = _
     simp only [Act.put, List.setIfInBounds_toArray, List.set_cons_zero, List.set_cons_succ, i64_w, i32_w]
     rfl
    exact norm_ (by first | (simp only [putAll, Act.put, List.setIfInBounds_toArray, List.set_cons_zero, List.set_cons_succ]; done) | (simp only [putAll, Act.put, List.setIfInBounds_toArray, List.set_cons_zero, List.set_cons_succ]; rfl)) (hJr2_4_13_14 (h2_13, h2_14) _ HM.out)
  intro hJr2_3_13_14
  refine join_ (σ := Nat) 10 #[true,true,true,true,true,true,true,false,false,false,false,false,false,true,false,false,false,false] (fun s_ => [(30, .agg #[.int .i64 a0_0, .int .i64 a0_1]), (32, .agg #[.int .i64 a1_0, .int .i64 a1_1]), (34, .agg #[.int .i64 a2_0, .int .i64 a2_1]), (12, .pointer (some ⟨s_, 0, none⟩))]) (fun s_ w' => Hu w w' [(s_, #[.int .i64 0, .int .i64 0], 25), (h1_13, #[.int .i64 x1, .int .i64 x2], 25), (h1_14, #[.int .i64 y1, .int .i64 y2], 25), (g7, #[.int .i64 a3_0, .int .i64 a3_1], 23), (g6, #[.int .i64 a2_0, .int .i64 a2_1], 23), (g5, #[.int .i64 a1_0, .int .i64 a1_1], 23), (g4, #[.int .i64 a0_0, .int .i64 a0_1], 23)]) ?_ ?_
  ·clear HM hHeld
   rintro h2_13 wJ hM_
   have HM := Aside0.mk hM_
   clear hM_
   have hHeld := (boxesU HM.out.tl.tl.tl)
   refine norm_ (a' := ?_) ?_ ?_
   rotate_left
   ·simp only [putAll, Act.put, List.setIfInBounds_toArray, List.set_cons_zero, List.set_cons_succ]
    rfl
   refine two_ (i := 7) (j := 14) (Ni := some 36) (Nj := some 13) #[true,true,true,true,true,true,true,true,false,false,false,false,false,true,false,false,false,false] #[true,true,true,true,true,true,true,false,false,false,false,false,false,true,true,false,false,false] rfl rfl rfl rfl (two_of HT_.out (by kernel_rfl)) (by decide) (by decide) (fun K hK => ?_) (fun K hK => ?_)
   ·skip
    refine goes_ Try.func5 (by kernel_rfl) rfl #[.agg #[.int .i64 a3_0, .int .i64 a3_1]] (by rfl) rfl rfl al ?_
    with_reducible refine (laws_toPoint.calls a3_0 a3_1 a3_0 a3_1 _ rfl).mono ?_
    rintro e wC ⟨rfl, hb⟩
    refine ⟨_, rfl, ?_⟩
    replace HM := Aside0.mk (HM.out.keep hb)
    clear hb
    refine hK.out _ _ (boxesU HM.out.tl.tl.tl) (fun hHeld => ?_)
    clear hK K
    refine norm_ (a' := ?_) ?_ ?_
    rotate_left
    ·show Act.put _ (some 36) _ = _
     simp only [Act.put, List.setIfInBounds_toArray, List.set_cons_zero, List.set_cons_succ, i64_w, i32_w]
     rfl
    exact norm_ (by first | (simp only [putAll, Act.put, List.setIfInBounds_toArray, List.set_cons_zero, List.set_cons_succ]; done) | (simp only [putAll, Act.put, List.setIfInBounds_toArray, List.set_cons_zero, List.set_cons_succ]; rfl)) (hJr2_4_13 h2_13 _ HM.out)
   ·skip
    refine box_step ?hg (N := 13) ?hd (cs := #[.int .i64 0, .int .i64 0]) (t := 25) ?hr ?_; (case hd => rfl); (case hg => rfl); (case hr => first | (go_simp; done) | (go_simp; rfl))
    intro h2_14 hg wA hbox hb
    replace HM := Aside0.mk (HM.out.box hb hbox hg)
    clear hg hbox hb
    replace HM := Aside0.mk HM.out.swap
    refine hK.out _ _ (boxesU HM.out.tl.tl.tl.tl) (fun hHeld => ?_)
    clear hK K
    refine norm_ (a' := ?_) ?_ ?_
    rotate_left
    ·show Act.put _ (some 13) _ = _
     simp only [Act.put, List.setIfInBounds_toArray, List.set_cons_zero, List.set_cons_succ, i64_w, i32_w]
     rfl
    exact norm_ (by first | (simp only [putAll, Act.put, List.setIfInBounds_toArray, List.set_cons_zero, List.set_cons_succ]; done) | (simp only [putAll, Act.put, List.setIfInBounds_toArray, List.set_cons_zero, List.set_cons_succ]; rfl)) (hJr2_3_13_14 (h2_13, h2_14) _ HM.out)
  intro hJr2_3_13
  refine join_ (σ := Nat) 10 #[true,true,true,true,true,true,true,false,false,false,false,false,false,false,true,false,false,false] (fun s_ => [(30, .agg #[.int .i64 a0_0, .int .i64 a0_1]), (32, .agg #[.int .i64 a1_0, .int .i64 a1_1]), (34, .agg #[.int .i64 a2_0, .int .i64 a2_1]), (13, .pointer (some ⟨s_, 0, none⟩))]) (fun s_ w' => Hu w w' [(s_, #[.int .i64 0, .int .i64 0], 25), (h1_13, #[.int .i64 x1, .int .i64 x2], 25), (h1_14, #[.int .i64 y1, .int .i64 y2], 25), (g7, #[.int .i64 a3_0, .int .i64 a3_1], 23), (g6, #[.int .i64 a2_0, .int .i64 a2_1], 23), (g5, #[.int .i64 a1_0, .int .i64 a1_1], 23), (g4, #[.int .i64 a0_0, .int .i64 a0_1], 23)]) ?_ ?_
  ·clear HM hHeld
   rintro h2_14 wJ hM_
   have HM := Aside0.mk hM_
   clear hM_
   have hHeld := (boxesU HM.out.tl.tl.tl)
   refine norm_ (a' := ?_) ?_ ?_
   rotate_left
   ·simp only [putAll, Act.put, List.setIfInBounds_toArray, List.set_cons_zero, List.set_cons_succ]
    rfl
   refine two_ (i := 7) (j := 13) (Ni := some 36) (Nj := some 12) #[true,true,true,true,true,true,true,true,false,false,false,false,false,false,true,false,false,false] #[true,true,true,true,true,true,true,false,false,false,false,false,false,true,true,false,false,false] rfl rfl rfl rfl (two_of HT_.out (by kernel_rfl)) (by decide) (by decide) (fun K hK => ?_) (fun K hK => ?_)
   ·skip
    refine goes_ Try.func5 (by kernel_rfl) rfl #[.agg #[.int .i64 a3_0, .int .i64 a3_1]] (by rfl) rfl rfl al ?_
    with_reducible refine (laws_toPoint.calls a3_0 a3_1 a3_0 a3_1 _ rfl).mono ?_
    rintro e wC ⟨rfl, hb⟩
    refine ⟨_, rfl, ?_⟩
    replace HM := Aside0.mk (HM.out.keep hb)
    clear hb
    refine hK.out _ _ (boxesU HM.out.tl.tl.tl) (fun hHeld => ?_)
    clear hK K
    refine norm_ (a' := ?_) ?_ ?_
    rotate_left
    ·show Act.put _ (some 36) _ = _
     simp only [Act.put, List.setIfInBounds_toArray, List.set_cons_zero, List.set_cons_succ, i64_w, i32_w]
     rfl
    exact norm_ (by first | (simp only [putAll, Act.put, List.setIfInBounds_toArray, List.set_cons_zero, List.set_cons_succ]; done) | (simp only [putAll, Act.put, List.setIfInBounds_toArray, List.set_cons_zero, List.set_cons_succ]; rfl)) (hJr2_4_14 h2_14 _ HM.out)
   ·skip
    refine box_step ?hg (N := 12) ?hd (cs := #[.int .i64 0, .int .i64 0]) (t := 25) ?hr ?_; (case hd => rfl); (case hg => rfl); (case hr => first | (go_simp; done) | (go_simp; rfl))
    intro h2_13 hg wA hbox hb
    replace HM := Aside0.mk (HM.out.box hb hbox hg)
    clear hg hbox hb
    refine hK.out _ _ (boxesU HM.out.tl.tl.tl.tl) (fun hHeld => ?_)
    clear hK K
    refine norm_ (a' := ?_) ?_ ?_
    rotate_left
    ·show Act.put _ (some 12) _ = _
     simp only [Act.put, List.setIfInBounds_toArray, List.set_cons_zero, List.set_cons_succ, i64_w, i32_w]
     rfl
    exact norm_ (by first | (simp only [putAll, Act.put, List.setIfInBounds_toArray, List.set_cons_zero, List.set_cons_succ]; done) | (simp only [putAll, Act.put, List.setIfInBounds_toArray, List.set_cons_zero, List.set_cons_succ]; rfl)) (hJr2_3_13_14 (h2_13, h2_14) _ HM.out)
  intro hJr2_3_14
  refine join_ (σ := Unit) 11 #[true,true,true,true,true,true,true,false,false,false,false,false,false,false,false,false,false,false] (fun s_ => [(30, .agg #[.int .i64 a0_0, .int .i64 a0_1]), (32, .agg #[.int .i64 a1_0, .int .i64 a1_1]), (34, .agg #[.int .i64 a2_0, .int .i64 a2_1])]) (fun s_ w' => Hu w w' [(h1_13, #[.int .i64 x1, .int .i64 x2], 25), (h1_14, #[.int .i64 y1, .int .i64 y2], 25), (g7, #[.int .i64 a3_0, .int .i64 a3_1], 23), (g6, #[.int .i64 a2_0, .int .i64 a2_1], 23), (g5, #[.int .i64 a1_0, .int .i64 a1_1], 23), (g4, #[.int .i64 a0_0, .int .i64 a0_1], 23)]) ?_ ?_
  ·clear HM hHeld
   rintro _ wJ hM_
   have HM := Aside0.mk hM_
   clear hM_
   have hHeld := (boxesU HM.out.tl.tl)
   refine norm_ (a' := ?_) ?_ ?_
   rotate_left
   ·simp only [putAll, Act.put, List.setIfInBounds_toArray, List.set_cons_zero, List.set_cons_succ]
    rfl
   refine three_ (i := 7) (j := 13) (k := 14) (Ni := some 36) (Nj := some 12) (Nk := some 13) #[true,true,true,true,true,true,true,true,false,false,false,false,false,false,false,false,false,false] #[true,true,true,true,true,true,true,false,false,false,false,false,false,true,false,false,false,false] #[true,true,true,true,true,true,true,false,false,false,false,false,false,false,true,false,false,false] rfl rfl rfl rfl rfl rfl (three_of HT_.out (by kernel_rfl)) (by decide) (by decide) (by decide) (fun K hK => ?_) (fun K hK => ?_) (fun K hK => ?_)
   ·skip
    refine goes_ Try.func5 (by kernel_rfl) rfl #[.agg #[.int .i64 a3_0, .int .i64 a3_1]] (by rfl) rfl rfl al ?_
    with_reducible refine (laws_toPoint.calls a3_0 a3_1 a3_0 a3_1 _ rfl).mono ?_
    rintro e wC ⟨rfl, hb⟩
    refine ⟨_, rfl, ?_⟩
    replace HM := Aside0.mk (HM.out.keep hb)
    clear hb
    refine hK.out _ _ (boxesU HM.out.tl.tl) (fun hHeld => ?_)
    clear hK K
    refine norm_ (a' := ?_) ?_ ?_
    rotate_left
    ·show Act.put _ (some 36) _ = _
     simp only [Act.put, List.setIfInBounds_toArray, List.set_cons_zero, List.set_cons_succ, i64_w, i32_w]
     rfl
    exact norm_ (by first | (simp only [putAll, Act.put, List.setIfInBounds_toArray, List.set_cons_zero, List.set_cons_succ]; done) | (simp only [putAll, Act.put, List.setIfInBounds_toArray, List.set_cons_zero, List.set_cons_succ]; rfl)) (hJr2_4 () _ HM.out)
   ·skip
    refine box_step ?hg (N := 12) ?hd (cs := #[.int .i64 0, .int .i64 0]) (t := 25) ?hr ?_; (case hd => rfl); (case hg => rfl); (case hr => first | (go_simp; done) | (go_simp; rfl))
    intro h2_13 hg wA hbox hb
    replace HM := Aside0.mk (HM.out.box hb hbox hg)
    clear hg hbox hb
    refine hK.out _ _ (boxesU HM.out.tl.tl.tl) (fun hHeld => ?_)
    clear hK K
    refine norm_ (a' := ?_) ?_ ?_
    rotate_left
    ·show Act.put _ (some 12) _ = _
     simp only [Act.put, List.setIfInBounds_toArray, List.set_cons_zero, List.set_cons_succ, i64_w, i32_w]
     rfl
    exact norm_ (by first | (simp only [putAll, Act.put, List.setIfInBounds_toArray, List.set_cons_zero, List.set_cons_succ]; done) | (simp only [putAll, Act.put, List.setIfInBounds_toArray, List.set_cons_zero, List.set_cons_succ]; rfl)) (hJr2_3_13 h2_13 _ HM.out)
   ·skip
    refine box_step ?hg (N := 13) ?hd (cs := #[.int .i64 0, .int .i64 0]) (t := 25) ?hr ?_; (case hd => rfl); (case hg => rfl); (case hr => first | (go_simp; done) | (go_simp; rfl))
    intro h2_14 hg wA hbox hb
    replace HM := Aside0.mk (HM.out.box hb hbox hg)
    clear hg hbox hb
    refine hK.out _ _ (boxesU HM.out.tl.tl.tl) (fun hHeld => ?_)
    clear hK K
    refine norm_ (a' := ?_) ?_ ?_
    rotate_left
    ·show Act.put _ (some 13) _ = _
     simp only [Act.put, List.setIfInBounds_toArray, List.set_cons_zero, List.set_cons_succ, i64_w, i32_w]
     rfl
    exact norm_ (by first | (simp only [putAll, Act.put, List.setIfInBounds_toArray, List.set_cons_zero, List.set_cons_succ]; done) | (simp only [putAll, Act.put, List.setIfInBounds_toArray, List.set_cons_zero, List.set_cons_succ]; rfl)) (hJr2_3_14 h2_14 _ HM.out)
  intro hJr2_3
  refine join_ (σ := Nat × Nat) 10 #[true,true,true,true,true,false,true,false,false,false,false,false,false,true,true,false,false,false] (fun s_ => [(30, .agg #[.int .i64 a0_0, .int .i64 a0_1]), (32, .agg #[.int .i64 a1_0, .int .i64 a1_1]), (12, .pointer (some ⟨s_.1, 0, none⟩)), (13, .pointer (some ⟨s_.2, 0, none⟩))]) (fun s_ w' => Hu w w' [(s_.1, #[.int .i64 0, .int .i64 0], 25), (s_.2, #[.int .i64 0, .int .i64 0], 25), (h1_13, #[.int .i64 x1, .int .i64 x2], 25), (h1_14, #[.int .i64 y1, .int .i64 y2], 25), (g7, #[.int .i64 a3_0, .int .i64 a3_1], 23), (g6, #[.int .i64 a2_0, .int .i64 a2_1], 23), (g5, #[.int .i64 a1_0, .int .i64 a1_1], 23), (g4, #[.int .i64 a0_0, .int .i64 a0_1], 23)]) ?_ ?_
  ·clear HM hHeld
   rintro ⟨h2_13, h2_14⟩ wJ hM_
   have HM := Aside0.mk hM_
   clear hM_
   have hHeld := (boxesU HM.out.tl.tl.tl.tl)
   refine norm_ (a' := ?_) ?_ ?_
   rotate_left
   ·simp only [putAll, Act.put, List.setIfInBounds_toArray, List.set_cons_zero, List.set_cons_succ]
    rfl
   refine one_ (i := 5) (N := some 34) #[true,true,true,true,true,true,true,false,false,false,false,false,false,true,true,false,false,false] rfl rfl (one_of HT_.out (by kernel_rfl)) (by decide) (fun K hK => ?_)
   ·skip
    refine goes_ Try.func5 (by kernel_rfl) rfl #[.agg #[.int .i64 a2_0, .int .i64 a2_1]] (by rfl) rfl rfl al ?_
    with_reducible refine (laws_toPoint.calls a2_0 a2_1 a2_0 a2_1 _ rfl).mono ?_
    rintro e wC ⟨rfl, hb⟩
    refine ⟨_, rfl, ?_⟩
    replace HM := Aside0.mk (HM.out.keep hb)
    clear hb
    refine hK.out _ _ (boxesU HM.out.tl.tl.tl.tl) (fun hHeld => ?_)
    clear hK K
    refine norm_ (a' := ?_) ?_ ?_
    rotate_left
    ·show Act.put _ (some 34) _ = _
     simp only [Act.put, List.setIfInBounds_toArray, List.set_cons_zero, List.set_cons_succ, i64_w, i32_w]
     rfl
    exact norm_ (by first | (simp only [putAll, Act.put, List.setIfInBounds_toArray, List.set_cons_zero, List.set_cons_succ]; done) | (simp only [putAll, Act.put, List.setIfInBounds_toArray, List.set_cons_zero, List.set_cons_succ]; rfl)) (hJr2_3_13_14 (h2_13, h2_14) _ HM.out)
  intro hJr2_2_13_14
  refine join_ (σ := Nat) 11 #[true,true,true,true,true,false,true,false,false,false,false,false,false,true,false,false,false,false] (fun s_ => [(30, .agg #[.int .i64 a0_0, .int .i64 a0_1]), (32, .agg #[.int .i64 a1_0, .int .i64 a1_1]), (12, .pointer (some ⟨s_, 0, none⟩))]) (fun s_ w' => Hu w w' [(s_, #[.int .i64 0, .int .i64 0], 25), (h1_13, #[.int .i64 x1, .int .i64 x2], 25), (h1_14, #[.int .i64 y1, .int .i64 y2], 25), (g7, #[.int .i64 a3_0, .int .i64 a3_1], 23), (g6, #[.int .i64 a2_0, .int .i64 a2_1], 23), (g5, #[.int .i64 a1_0, .int .i64 a1_1], 23), (g4, #[.int .i64 a0_0, .int .i64 a0_1], 23)]) ?_ ?_
  ·clear HM hHeld
   rintro h2_13 wJ hM_
   have HM := Aside0.mk hM_
   clear hM_
   have hHeld := (boxesU HM.out.tl.tl.tl)
   refine norm_ (a' := ?_) ?_ ?_
   rotate_left
   ·simp only [putAll, Act.put, List.setIfInBounds_toArray, List.set_cons_zero, List.set_cons_succ]
    rfl
   refine two_ (i := 5) (j := 14) (Ni := some 34) (Nj := some 13) #[true,true,true,true,true,true,true,false,false,false,false,false,false,true,false,false,false,false] #[true,true,true,true,true,false,true,false,false,false,false,false,false,true,true,false,false,false] rfl rfl rfl rfl (two_of HT_.out (by kernel_rfl)) (by decide) (by decide) (fun K hK => ?_) (fun K hK => ?_)
   ·skip
    refine goes_ Try.func5 (by kernel_rfl) rfl #[.agg #[.int .i64 a2_0, .int .i64 a2_1]] (by rfl) rfl rfl al ?_
    with_reducible refine (laws_toPoint.calls a2_0 a2_1 a2_0 a2_1 _ rfl).mono ?_
    rintro e wC ⟨rfl, hb⟩
    refine ⟨_, rfl, ?_⟩
    replace HM := Aside0.mk (HM.out.keep hb)
    clear hb
    refine hK.out _ _ (boxesU HM.out.tl.tl.tl) (fun hHeld => ?_)
    clear hK K
    refine norm_ (a' := ?_) ?_ ?_
    rotate_left
    ·show Act.put _ (some 34) _ = _
     simp only [Act.put, List.setIfInBounds_toArray, List.set_cons_zero, List.set_cons_succ, i64_w, i32_w]
     rfl
    exact norm_ (by first | (simp only [putAll, Act.put, List.setIfInBounds_toArray, List.set_cons_zero, List.set_cons_succ]; done) | (simp only [putAll, Act.put, List.setIfInBounds_toArray, List.set_cons_zero, List.set_cons_succ]; rfl)) (hJr2_3_13 h2_13 _ HM.out)
   ·skip
    refine box_step ?hg (N := 13) ?hd (cs := #[.int .i64 0, .int .i64 0]) (t := 25) ?hr ?_; (case hd => rfl); (case hg => rfl); (case hr => first | (go_simp; done) | (go_simp; rfl))
    intro h2_14 hg wA hbox hb
    replace HM := Aside0.mk (HM.out.box hb hbox hg)
    clear hg hbox hb
    replace HM := Aside0.mk HM.out.swap
    refine hK.out _ _ (boxesU HM.out.tl.tl.tl.tl) (fun hHeld => ?_)
    clear hK K
    refine norm_ (a' := ?_) ?_ ?_
    rotate_left
    ·show Act.put _ (some 13) _ = _
     simp only [Act.put, List.setIfInBounds_toArray, List.set_cons_zero, List.set_cons_succ, i64_w, i32_w]
     rfl
    exact norm_ (by first | (simp only [putAll, Act.put, List.setIfInBounds_toArray, List.set_cons_zero, List.set_cons_succ]; done) | (simp only [putAll, Act.put, List.setIfInBounds_toArray, List.set_cons_zero, List.set_cons_succ]; rfl)) (hJr2_2_13_14 (h2_13, h2_14) _ HM.out)
  intro hJr2_2_13
  refine join_ (σ := Nat) 11 #[true,true,true,true,true,false,true,false,false,false,false,false,false,false,true,false,false,false] (fun s_ => [(30, .agg #[.int .i64 a0_0, .int .i64 a0_1]), (32, .agg #[.int .i64 a1_0, .int .i64 a1_1]), (13, .pointer (some ⟨s_, 0, none⟩))]) (fun s_ w' => Hu w w' [(s_, #[.int .i64 0, .int .i64 0], 25), (h1_13, #[.int .i64 x1, .int .i64 x2], 25), (h1_14, #[.int .i64 y1, .int .i64 y2], 25), (g7, #[.int .i64 a3_0, .int .i64 a3_1], 23), (g6, #[.int .i64 a2_0, .int .i64 a2_1], 23), (g5, #[.int .i64 a1_0, .int .i64 a1_1], 23), (g4, #[.int .i64 a0_0, .int .i64 a0_1], 23)]) ?_ ?_
  ·clear HM hHeld
   rintro h2_14 wJ hM_
   have HM := Aside0.mk hM_
   clear hM_
   have hHeld := (boxesU HM.out.tl.tl.tl)
   refine norm_ (a' := ?_) ?_ ?_
   rotate_left
   ·simp only [putAll, Act.put, List.setIfInBounds_toArray, List.set_cons_zero, List.set_cons_succ]
    rfl
   refine two_ (i := 5) (j := 13) (Ni := some 34) (Nj := some 12) #[true,true,true,true,true,true,true,false,false,false,false,false,false,false,true,false,false,false] #[true,true,true,true,true,false,true,false,false,false,false,false,false,true,true,false,false,false] rfl rfl rfl rfl (two_of HT_.out (by kernel_rfl)) (by decide) (by decide) (fun K hK => ?_) (fun K hK => ?_)
   ·skip
    refine goes_ Try.func5 (by kernel_rfl) rfl #[.agg #[.int .i64 a2_0, .int .i64 a2_1]] (by rfl) rfl rfl al ?_
    with_reducible refine (laws_toPoint.calls a2_0 a2_1 a2_0 a2_1 _ rfl).mono ?_
    rintro e wC ⟨rfl, hb⟩
    refine ⟨_, rfl, ?_⟩
    replace HM := Aside0.mk (HM.out.keep hb)
    clear hb
    refine hK.out _ _ (boxesU HM.out.tl.tl.tl) (fun hHeld => ?_)
    clear hK K
    refine norm_ (a' := ?_) ?_ ?_
    rotate_left
    ·show Act.put _ (some 34) _ = _
     simp only [Act.put, List.setIfInBounds_toArray, List.set_cons_zero, List.set_cons_succ, i64_w, i32_w]
     rfl
    exact norm_ (by first | (simp only [putAll, Act.put, List.setIfInBounds_toArray, List.set_cons_zero, List.set_cons_succ]; done) | (simp only [putAll, Act.put, List.setIfInBounds_toArray, List.set_cons_zero, List.set_cons_succ]; rfl)) (hJr2_3_14 h2_14 _ HM.out)
   ·skip
    refine box_step ?hg (N := 12) ?hd (cs := #[.int .i64 0, .int .i64 0]) (t := 25) ?hr ?_; (case hd => rfl); (case hg => rfl); (case hr => first | (go_simp; done) | (go_simp; rfl))
    intro h2_13 hg wA hbox hb
    replace HM := Aside0.mk (HM.out.box hb hbox hg)
    clear hg hbox hb
    refine hK.out _ _ (boxesU HM.out.tl.tl.tl.tl) (fun hHeld => ?_)
    clear hK K
    refine norm_ (a' := ?_) ?_ ?_
    rotate_left
    ·show Act.put _ (some 12) _ = _
     simp only [Act.put, List.setIfInBounds_toArray, List.set_cons_zero, List.set_cons_succ, i64_w, i32_w]
     rfl
    exact norm_ (by first | (simp only [putAll, Act.put, List.setIfInBounds_toArray, List.set_cons_zero, List.set_cons_succ]; done) | (simp only [putAll, Act.put, List.setIfInBounds_toArray, List.set_cons_zero, List.set_cons_succ]; rfl)) (hJr2_2_13_14 (h2_13, h2_14) _ HM.out)
  intro hJr2_2_14
  refine join_ (σ := Unit) 12 #[true,true,true,true,true,false,true,false,false,false,false,false,false,false,false,false,false,false] (fun s_ => [(30, .agg #[.int .i64 a0_0, .int .i64 a0_1]), (32, .agg #[.int .i64 a1_0, .int .i64 a1_1])]) (fun s_ w' => Hu w w' [(h1_13, #[.int .i64 x1, .int .i64 x2], 25), (h1_14, #[.int .i64 y1, .int .i64 y2], 25), (g7, #[.int .i64 a3_0, .int .i64 a3_1], 23), (g6, #[.int .i64 a2_0, .int .i64 a2_1], 23), (g5, #[.int .i64 a1_0, .int .i64 a1_1], 23), (g4, #[.int .i64 a0_0, .int .i64 a0_1], 23)]) ?_ ?_
  ·clear HM hHeld
   rintro _ wJ hM_
   have HM := Aside0.mk hM_
   clear hM_
   have hHeld := (boxesU HM.out.tl.tl)
   refine norm_ (a' := ?_) ?_ ?_
   rotate_left
   ·simp only [putAll, Act.put, List.setIfInBounds_toArray, List.set_cons_zero, List.set_cons_succ]
    rfl
   refine three_ (i := 5) (j := 13) (k := 14) (Ni := some 34) (Nj := some 12) (Nk := some 13) #[true,true,true,true,true,true,true,false,false,false,false,false,false,false,false,false,false,false] #[true,true,true,true,true,false,true,false,false,false,false,false,false,true,false,false,false,false] #[true,true,true,true,true,false,true,false,false,false,false,false,false,false,true,false,false,false] rfl rfl rfl rfl rfl rfl (three_of HT_.out (by kernel_rfl)) (by decide) (by decide) (by decide) (fun K hK => ?_) (fun K hK => ?_) (fun K hK => ?_)
   ·skip
    refine goes_ Try.func5 (by kernel_rfl) rfl #[.agg #[.int .i64 a2_0, .int .i64 a2_1]] (by rfl) rfl rfl al ?_
    with_reducible refine (laws_toPoint.calls a2_0 a2_1 a2_0 a2_1 _ rfl).mono ?_
    rintro e wC ⟨rfl, hb⟩
    refine ⟨_, rfl, ?_⟩
    replace HM := Aside0.mk (HM.out.keep hb)
    clear hb
    refine hK.out _ _ (boxesU HM.out.tl.tl) (fun hHeld => ?_)
    clear hK K
    refine norm_ (a' := ?_) ?_ ?_
    rotate_left
    ·show Act.put _ (some 34) _ = _
     simp only [Act.put, List.setIfInBounds_toArray, List.set_cons_zero, List.set_cons_succ, i64_w, i32_w]
     rfl
    exact norm_ (by first | (simp only [putAll, Act.put, List.setIfInBounds_toArray, List.set_cons_zero, List.set_cons_succ]; done) | (simp only [putAll, Act.put, List.setIfInBounds_toArray, List.set_cons_zero, List.set_cons_succ]; rfl)) (hJr2_3 () _ HM.out)
   ·skip
    refine box_step ?hg (N := 12) ?hd (cs := #[.int .i64 0, .int .i64 0]) (t := 25) ?hr ?_; (case hd => rfl); (case hg => rfl); (case hr => first | (go_simp; done) | (go_simp; rfl))
    intro h2_13 hg wA hbox hb
    replace HM := Aside0.mk (HM.out.box hb hbox hg)
    clear hg hbox hb
    refine hK.out _ _ (boxesU HM.out.tl.tl.tl) (fun hHeld => ?_)
    clear hK K
    refine norm_ (a' := ?_) ?_ ?_
    rotate_left
    ·show Act.put _ (some 12) _ = _
     simp only [Act.put, List.setIfInBounds_toArray, List.set_cons_zero, List.set_cons_succ, i64_w, i32_w]
     rfl
    exact norm_ (by first | (simp only [putAll, Act.put, List.setIfInBounds_toArray, List.set_cons_zero, List.set_cons_succ]; done) | (simp only [putAll, Act.put, List.setIfInBounds_toArray, List.set_cons_zero, List.set_cons_succ]; rfl)) (hJr2_2_13 h2_13 _ HM.out)
   ·skip
    refine box_step ?hg (N := 13) ?hd (cs := #[.int .i64 0, .int .i64 0]) (t := 25) ?hr ?_; (case hd => rfl); (case hg => rfl); (case hr => first | (go_simp; done) | (go_simp; rfl))
    intro h2_14 hg wA hbox hb
    replace HM := Aside0.mk (HM.out.box hb hbox hg)
    clear hg hbox hb
    refine hK.out _ _ (boxesU HM.out.tl.tl.tl) (fun hHeld => ?_)
    clear hK K
    refine norm_ (a' := ?_) ?_ ?_
    rotate_left
    ·show Act.put _ (some 13) _ = _
     simp only [Act.put, List.setIfInBounds_toArray, List.set_cons_zero, List.set_cons_succ, i64_w, i32_w]
     rfl
    exact norm_ (by first | (simp only [putAll, Act.put, List.setIfInBounds_toArray, List.set_cons_zero, List.set_cons_succ]; done) | (simp only [putAll, Act.put, List.setIfInBounds_toArray, List.set_cons_zero, List.set_cons_succ]; rfl)) (hJr2_2_14 h2_14 _ HM.out)
  intro hJr2_2
  refine join_ (σ := Nat × Nat) 11 #[true,true,true,false,true,false,true,false,false,false,false,false,false,true,true,false,false,false] (fun s_ => [(30, .agg #[.int .i64 a0_0, .int .i64 a0_1]), (12, .pointer (some ⟨s_.1, 0, none⟩)), (13, .pointer (some ⟨s_.2, 0, none⟩))]) (fun s_ w' => Hu w w' [(s_.1, #[.int .i64 0, .int .i64 0], 25), (s_.2, #[.int .i64 0, .int .i64 0], 25), (h1_13, #[.int .i64 x1, .int .i64 x2], 25), (h1_14, #[.int .i64 y1, .int .i64 y2], 25), (g7, #[.int .i64 a3_0, .int .i64 a3_1], 23), (g6, #[.int .i64 a2_0, .int .i64 a2_1], 23), (g5, #[.int .i64 a1_0, .int .i64 a1_1], 23), (g4, #[.int .i64 a0_0, .int .i64 a0_1], 23)]) ?_ ?_
  ·clear HM hHeld
   rintro ⟨h2_13, h2_14⟩ wJ hM_
   have HM := Aside0.mk hM_
   clear hM_
   have hHeld := (boxesU HM.out.tl.tl.tl.tl)
   refine norm_ (a' := ?_) ?_ ?_
   rotate_left
   ·simp only [putAll, Act.put, List.setIfInBounds_toArray, List.set_cons_zero, List.set_cons_succ]
    rfl
   refine one_ (i := 3) (N := some 32) #[true,true,true,true,true,false,true,false,false,false,false,false,false,true,true,false,false,false] rfl rfl (one_of HT_.out (by kernel_rfl)) (by decide) (fun K hK => ?_)
   ·skip
    refine goes_ Try.func5 (by kernel_rfl) rfl #[.agg #[.int .i64 a1_0, .int .i64 a1_1]] (by rfl) rfl rfl al ?_
    with_reducible refine (laws_toPoint.calls a1_0 a1_1 a1_0 a1_1 _ rfl).mono ?_
    rintro e wC ⟨rfl, hb⟩
    refine ⟨_, rfl, ?_⟩
    replace HM := Aside0.mk (HM.out.keep hb)
    clear hb
    refine hK.out _ _ (boxesU HM.out.tl.tl.tl.tl) (fun hHeld => ?_)
    clear hK K
    refine norm_ (a' := ?_) ?_ ?_
    rotate_left
    ·show Act.put _ (some 32) _ = _
     simp only [Act.put, List.setIfInBounds_toArray, List.set_cons_zero, List.set_cons_succ, i64_w, i32_w]
     rfl
    exact norm_ (by first | (simp only [putAll, Act.put, List.setIfInBounds_toArray, List.set_cons_zero, List.set_cons_succ]; done) | (simp only [putAll, Act.put, List.setIfInBounds_toArray, List.set_cons_zero, List.set_cons_succ]; rfl)) (hJr2_2_13_14 (h2_13, h2_14) _ HM.out)
  intro hJr2_1_13_14
  refine join_ (σ := Nat) 12 #[true,true,true,false,true,false,true,false,false,false,false,false,false,true,false,false,false,false] (fun s_ => [(30, .agg #[.int .i64 a0_0, .int .i64 a0_1]), (12, .pointer (some ⟨s_, 0, none⟩))]) (fun s_ w' => Hu w w' [(s_, #[.int .i64 0, .int .i64 0], 25), (h1_13, #[.int .i64 x1, .int .i64 x2], 25), (h1_14, #[.int .i64 y1, .int .i64 y2], 25), (g7, #[.int .i64 a3_0, .int .i64 a3_1], 23), (g6, #[.int .i64 a2_0, .int .i64 a2_1], 23), (g5, #[.int .i64 a1_0, .int .i64 a1_1], 23), (g4, #[.int .i64 a0_0, .int .i64 a0_1], 23)]) ?_ ?_
  ·clear HM hHeld
   rintro h2_13 wJ hM_
   have HM := Aside0.mk hM_
   clear hM_
   have hHeld := (boxesU HM.out.tl.tl.tl)
   refine norm_ (a' := ?_) ?_ ?_
   rotate_left
   ·simp only [putAll, Act.put, List.setIfInBounds_toArray, List.set_cons_zero, List.set_cons_succ]
    rfl
   refine two_ (i := 3) (j := 14) (Ni := some 32) (Nj := some 13) #[true,true,true,true,true,false,true,false,false,false,false,false,false,true,false,false,false,false] #[true,true,true,false,true,false,true,false,false,false,false,false,false,true,true,false,false,false] rfl rfl rfl rfl (two_of HT_.out (by kernel_rfl)) (by decide) (by decide) (fun K hK => ?_) (fun K hK => ?_)
   ·skip
    refine goes_ Try.func5 (by kernel_rfl) rfl #[.agg #[.int .i64 a1_0, .int .i64 a1_1]] (by rfl) rfl rfl al ?_
    with_reducible refine (laws_toPoint.calls a1_0 a1_1 a1_0 a1_1 _ rfl).mono ?_
    rintro e wC ⟨rfl, hb⟩
    refine ⟨_, rfl, ?_⟩
    replace HM := Aside0.mk (HM.out.keep hb)
    clear hb
    refine hK.out _ _ (boxesU HM.out.tl.tl.tl) (fun hHeld => ?_)
    clear hK K
    refine norm_ (a' := ?_) ?_ ?_
    rotate_left
    ·show Act.put _ (some 32) _ = _
     simp only [Act.put, List.setIfInBounds_toArray, List.set_cons_zero, List.set_cons_succ, i64_w, i32_w]
     rfl
    exact norm_ (by first | (simp only [putAll, Act.put, List.setIfInBounds_toArray, List.set_cons_zero, List.set_cons_succ]; done) | (simp only [putAll, Act.put, List.setIfInBounds_toArray, List.set_cons_zero, List.set_cons_succ]; rfl)) (hJr2_2_13 h2_13 _ HM.out)
   ·skip
    refine box_step ?hg (N := 13) ?hd (cs := #[.int .i64 0, .int .i64 0]) (t := 25) ?hr ?_; (case hd => rfl); (case hg => rfl); (case hr => first | (go_simp; done) | (go_simp; rfl))
    intro h2_14 hg wA hbox hb
    replace HM := Aside0.mk (HM.out.box hb hbox hg)
    clear hg hbox hb
    replace HM := Aside0.mk HM.out.swap
    refine hK.out _ _ (boxesU HM.out.tl.tl.tl.tl) (fun hHeld => ?_)
    clear hK K
    refine norm_ (a' := ?_) ?_ ?_
    rotate_left
    ·show Act.put _ (some 13) _ = _
     simp only [Act.put, List.setIfInBounds_toArray, List.set_cons_zero, List.set_cons_succ, i64_w, i32_w]
     rfl
    exact norm_ (by first | (simp only [putAll, Act.put, List.setIfInBounds_toArray, List.set_cons_zero, List.set_cons_succ]; done) | (simp only [putAll, Act.put, List.setIfInBounds_toArray, List.set_cons_zero, List.set_cons_succ]; rfl)) (hJr2_1_13_14 (h2_13, h2_14) _ HM.out)
  intro hJr2_1_13
  refine join_ (σ := Nat) 12 #[true,true,true,false,true,false,true,false,false,false,false,false,false,false,true,false,false,false] (fun s_ => [(30, .agg #[.int .i64 a0_0, .int .i64 a0_1]), (13, .pointer (some ⟨s_, 0, none⟩))]) (fun s_ w' => Hu w w' [(s_, #[.int .i64 0, .int .i64 0], 25), (h1_13, #[.int .i64 x1, .int .i64 x2], 25), (h1_14, #[.int .i64 y1, .int .i64 y2], 25), (g7, #[.int .i64 a3_0, .int .i64 a3_1], 23), (g6, #[.int .i64 a2_0, .int .i64 a2_1], 23), (g5, #[.int .i64 a1_0, .int .i64 a1_1], 23), (g4, #[.int .i64 a0_0, .int .i64 a0_1], 23)]) ?_ ?_
  ·clear HM hHeld
   rintro h2_14 wJ hM_
   have HM := Aside0.mk hM_
   clear hM_
   have hHeld := (boxesU HM.out.tl.tl.tl)
   refine norm_ (a' := ?_) ?_ ?_
   rotate_left
   ·simp only [putAll, Act.put, List.setIfInBounds_toArray, List.set_cons_zero, List.set_cons_succ]
    rfl
   refine two_ (i := 3) (j := 13) (Ni := some 32) (Nj := some 12) #[true,true,true,true,true,false,true,false,false,false,false,false,false,false,true,false,false,false] #[true,true,true,false,true,false,true,false,false,false,false,false,false,true,true,false,false,false] rfl rfl rfl rfl (two_of HT_.out (by kernel_rfl)) (by decide) (by decide) (fun K hK => ?_) (fun K hK => ?_)
   ·skip
    refine goes_ Try.func5 (by kernel_rfl) rfl #[.agg #[.int .i64 a1_0, .int .i64 a1_1]] (by rfl) rfl rfl al ?_
    with_reducible refine (laws_toPoint.calls a1_0 a1_1 a1_0 a1_1 _ rfl).mono ?_
    rintro e wC ⟨rfl, hb⟩
    refine ⟨_, rfl, ?_⟩
    replace HM := Aside0.mk (HM.out.keep hb)
    clear hb
    refine hK.out _ _ (boxesU HM.out.tl.tl.tl) (fun hHeld => ?_)
    clear hK K
    refine norm_ (a' := ?_) ?_ ?_
    rotate_left
    ·show Act.put _ (some 32) _ = _
     simp only [Act.put, List.setIfInBounds_toArray, List.set_cons_zero, List.set_cons_succ, i64_w, i32_w]
     rfl
    exact norm_ (by first | (simp only [putAll, Act.put, List.setIfInBounds_toArray, List.set_cons_zero, List.set_cons_succ]; done) | (simp only [putAll, Act.put, List.setIfInBounds_toArray, List.set_cons_zero, List.set_cons_succ]; rfl)) (hJr2_2_14 h2_14 _ HM.out)
   ·skip
    refine box_step ?hg (N := 12) ?hd (cs := #[.int .i64 0, .int .i64 0]) (t := 25) ?hr ?_; (case hd => rfl); (case hg => rfl); (case hr => first | (go_simp; done) | (go_simp; rfl))
    intro h2_13 hg wA hbox hb
    replace HM := Aside0.mk (HM.out.box hb hbox hg)
    clear hg hbox hb
    refine hK.out _ _ (boxesU HM.out.tl.tl.tl.tl) (fun hHeld => ?_)
    clear hK K
    refine norm_ (a' := ?_) ?_ ?_
    rotate_left
    ·show Act.put _ (some 12) _ = _
     simp only [Act.put, List.setIfInBounds_toArray, List.set_cons_zero, List.set_cons_succ, i64_w, i32_w]
     rfl
    exact norm_ (by first | (simp only [putAll, Act.put, List.setIfInBounds_toArray, List.set_cons_zero, List.set_cons_succ]; done) | (simp only [putAll, Act.put, List.setIfInBounds_toArray, List.set_cons_zero, List.set_cons_succ]; rfl)) (hJr2_1_13_14 (h2_13, h2_14) _ HM.out)
  intro hJr2_1_14
  refine join_ (σ := Unit) 13 #[true,true,true,false,true,false,true,false,false,false,false,false,false,false,false,false,false,false] (fun s_ => [(30, .agg #[.int .i64 a0_0, .int .i64 a0_1])]) (fun s_ w' => Hu w w' [(h1_13, #[.int .i64 x1, .int .i64 x2], 25), (h1_14, #[.int .i64 y1, .int .i64 y2], 25), (g7, #[.int .i64 a3_0, .int .i64 a3_1], 23), (g6, #[.int .i64 a2_0, .int .i64 a2_1], 23), (g5, #[.int .i64 a1_0, .int .i64 a1_1], 23), (g4, #[.int .i64 a0_0, .int .i64 a0_1], 23)]) ?_ ?_
  ·clear HM hHeld
   rintro _ wJ hM_
   have HM := Aside0.mk hM_
   clear hM_
   have hHeld := (boxesU HM.out.tl.tl)
   refine norm_ (a' := ?_) ?_ ?_
   rotate_left
   ·simp only [putAll, Act.put, List.setIfInBounds_toArray, List.set_cons_zero, List.set_cons_succ]
    rfl
   refine three_ (i := 3) (j := 13) (k := 14) (Ni := some 32) (Nj := some 12) (Nk := some 13) #[true,true,true,true,true,false,true,false,false,false,false,false,false,false,false,false,false,false] #[true,true,true,false,true,false,true,false,false,false,false,false,false,true,false,false,false,false] #[true,true,true,false,true,false,true,false,false,false,false,false,false,false,true,false,false,false] rfl rfl rfl rfl rfl rfl (three_of HT_.out (by kernel_rfl)) (by decide) (by decide) (by decide) (fun K hK => ?_) (fun K hK => ?_) (fun K hK => ?_)
   ·skip
    refine goes_ Try.func5 (by kernel_rfl) rfl #[.agg #[.int .i64 a1_0, .int .i64 a1_1]] (by rfl) rfl rfl al ?_
    with_reducible refine (laws_toPoint.calls a1_0 a1_1 a1_0 a1_1 _ rfl).mono ?_
    rintro e wC ⟨rfl, hb⟩
    refine ⟨_, rfl, ?_⟩
    replace HM := Aside0.mk (HM.out.keep hb)
    clear hb
    refine hK.out _ _ (boxesU HM.out.tl.tl) (fun hHeld => ?_)
    clear hK K
    refine norm_ (a' := ?_) ?_ ?_
    rotate_left
    ·show Act.put _ (some 32) _ = _
     simp only [Act.put, List.setIfInBounds_toArray, List.set_cons_zero, List.set_cons_succ, i64_w, i32_w]
     rfl
    exact norm_ (by first | (simp only [putAll, Act.put, List.setIfInBounds_toArray, List.set_cons_zero, List.set_cons_succ]; done) | (simp only [putAll, Act.put, List.setIfInBounds_toArray, List.set_cons_zero, List.set_cons_succ]; rfl)) (hJr2_2 () _ HM.out)
   ·skip
    refine box_step ?hg (N := 12) ?hd (cs := #[.int .i64 0, .int .i64 0]) (t := 25) ?hr ?_; (case hd => rfl); (case hg => rfl); (case hr => first | (go_simp; done) | (go_simp; rfl))
    intro h2_13 hg wA hbox hb
    replace HM := Aside0.mk (HM.out.box hb hbox hg)
    clear hg hbox hb
    refine hK.out _ _ (boxesU HM.out.tl.tl.tl) (fun hHeld => ?_)
    clear hK K
    refine norm_ (a' := ?_) ?_ ?_
    rotate_left
    ·show Act.put _ (some 12) _ = _
     simp only [Act.put, List.setIfInBounds_toArray, List.set_cons_zero, List.set_cons_succ, i64_w, i32_w]
     rfl
    exact norm_ (by first | (simp only [putAll, Act.put, List.setIfInBounds_toArray, List.set_cons_zero, List.set_cons_succ]; done) | (simp only [putAll, Act.put, List.setIfInBounds_toArray, List.set_cons_zero, List.set_cons_succ]; rfl)) (hJr2_1_13 h2_13 _ HM.out)
   ·skip
    refine box_step ?hg (N := 13) ?hd (cs := #[.int .i64 0, .int .i64 0]) (t := 25) ?hr ?_; (case hd => rfl); (case hg => rfl); (case hr => first | (go_simp; done) | (go_simp; rfl))
    intro h2_14 hg wA hbox hb
    replace HM := Aside0.mk (HM.out.box hb hbox hg)
    clear hg hbox hb
    refine hK.out _ _ (boxesU HM.out.tl.tl.tl) (fun hHeld => ?_)
    clear hK K
    refine norm_ (a' := ?_) ?_ ?_
    rotate_left
    ·show Act.put _ (some 13) _ = _
     simp only [Act.put, List.setIfInBounds_toArray, List.set_cons_zero, List.set_cons_succ, i64_w, i32_w]
     rfl
    exact norm_ (by first | (simp only [putAll, Act.put, List.setIfInBounds_toArray, List.set_cons_zero, List.set_cons_succ]; done) | (simp only [putAll, Act.put, List.setIfInBounds_toArray, List.set_cons_zero, List.set_cons_succ]; rfl)) (hJr2_1_14 h2_14 _ HM.out)
  intro hJr2_1
  refine join_ (σ := Nat × Nat) 12 #[true,false,true,false,true,false,true,false,false,false,false,false,false,true,true,false,false,false] (fun s_ => [(12, .pointer (some ⟨s_.1, 0, none⟩)), (13, .pointer (some ⟨s_.2, 0, none⟩))]) (fun s_ w' => Hu w w' [(s_.1, #[.int .i64 0, .int .i64 0], 25), (s_.2, #[.int .i64 0, .int .i64 0], 25), (h1_13, #[.int .i64 x1, .int .i64 x2], 25), (h1_14, #[.int .i64 y1, .int .i64 y2], 25), (g7, #[.int .i64 a3_0, .int .i64 a3_1], 23), (g6, #[.int .i64 a2_0, .int .i64 a2_1], 23), (g5, #[.int .i64 a1_0, .int .i64 a1_1], 23), (g4, #[.int .i64 a0_0, .int .i64 a0_1], 23)]) ?_ ?_
  ·clear HM hHeld
   rintro ⟨h2_13, h2_14⟩ wJ hM_
   have HM := Aside0.mk hM_
   clear hM_
   have hHeld := (boxesU HM.out.tl.tl.tl.tl)
   refine norm_ (a' := ?_) ?_ ?_
   rotate_left
   ·simp only [putAll, Act.put, List.setIfInBounds_toArray, List.set_cons_zero, List.set_cons_succ]
    rfl
   refine one_ (i := 1) (N := some 30) #[true,true,true,false,true,false,true,false,false,false,false,false,false,true,true,false,false,false] rfl rfl (one_of HT_.out (by kernel_rfl)) (by decide) (fun K hK => ?_)
   ·skip
    refine goes_ Try.func5 (by kernel_rfl) rfl #[.agg #[.int .i64 a0_0, .int .i64 a0_1]] (by rfl) rfl rfl al ?_
    with_reducible refine (laws_toPoint.calls a0_0 a0_1 a0_0 a0_1 _ rfl).mono ?_
    rintro e wC ⟨rfl, hb⟩
    refine ⟨_, rfl, ?_⟩
    replace HM := Aside0.mk (HM.out.keep hb)
    clear hb
    refine hK.out _ _ (boxesU HM.out.tl.tl.tl.tl) (fun hHeld => ?_)
    clear hK K
    refine norm_ (a' := ?_) ?_ ?_
    rotate_left
    ·show Act.put _ (some 30) _ = _
     simp only [Act.put, List.setIfInBounds_toArray, List.set_cons_zero, List.set_cons_succ, i64_w, i32_w]
     rfl
    exact norm_ (by first | (simp only [putAll, Act.put, List.setIfInBounds_toArray, List.set_cons_zero, List.set_cons_succ]; done) | (simp only [putAll, Act.put, List.setIfInBounds_toArray, List.set_cons_zero, List.set_cons_succ]; rfl)) (hJr2_1_13_14 (h2_13, h2_14) _ HM.out)
  intro hJr2_0_13_14
  refine join_ (σ := Nat) 13 #[true,false,true,false,true,false,true,false,false,false,false,false,false,true,false,false,false,false] (fun s_ => [(12, .pointer (some ⟨s_, 0, none⟩))]) (fun s_ w' => Hu w w' [(s_, #[.int .i64 0, .int .i64 0], 25), (h1_13, #[.int .i64 x1, .int .i64 x2], 25), (h1_14, #[.int .i64 y1, .int .i64 y2], 25), (g7, #[.int .i64 a3_0, .int .i64 a3_1], 23), (g6, #[.int .i64 a2_0, .int .i64 a2_1], 23), (g5, #[.int .i64 a1_0, .int .i64 a1_1], 23), (g4, #[.int .i64 a0_0, .int .i64 a0_1], 23)]) ?_ ?_
  ·clear HM hHeld
   rintro h2_13 wJ hM_
   have HM := Aside0.mk hM_
   clear hM_
   have hHeld := (boxesU HM.out.tl.tl.tl)
   refine norm_ (a' := ?_) ?_ ?_
   rotate_left
   ·simp only [putAll, Act.put, List.setIfInBounds_toArray, List.set_cons_zero, List.set_cons_succ]
    rfl
   refine two_ (i := 1) (j := 14) (Ni := some 30) (Nj := some 13) #[true,true,true,false,true,false,true,false,false,false,false,false,false,true,false,false,false,false] #[true,false,true,false,true,false,true,false,false,false,false,false,false,true,true,false,false,false] rfl rfl rfl rfl (two_of HT_.out (by kernel_rfl)) (by decide) (by decide) (fun K hK => ?_) (fun K hK => ?_)
   ·skip
    refine goes_ Try.func5 (by kernel_rfl) rfl #[.agg #[.int .i64 a0_0, .int .i64 a0_1]] (by rfl) rfl rfl al ?_
    with_reducible refine (laws_toPoint.calls a0_0 a0_1 a0_0 a0_1 _ rfl).mono ?_
    rintro e wC ⟨rfl, hb⟩
    refine ⟨_, rfl, ?_⟩
    replace HM := Aside0.mk (HM.out.keep hb)
    clear hb
    refine hK.out _ _ (boxesU HM.out.tl.tl.tl) (fun hHeld => ?_)
    clear hK K
    refine norm_ (a' := ?_) ?_ ?_
    rotate_left
    ·show Act.put _ (some 30) _ = _
     simp only [Act.put, List.setIfInBounds_toArray, List.set_cons_zero, List.set_cons_succ, i64_w, i32_w]
     rfl
    exact norm_ (by first | (simp only [putAll, Act.put, List.setIfInBounds_toArray, List.set_cons_zero, List.set_cons_succ]; done) | (simp only [putAll, Act.put, List.setIfInBounds_toArray, List.set_cons_zero, List.set_cons_succ]; rfl)) (hJr2_1_13 h2_13 _ HM.out)
   ·skip
    refine box_step ?hg (N := 13) ?hd (cs := #[.int .i64 0, .int .i64 0]) (t := 25) ?hr ?_; (case hd => rfl); (case hg => rfl); (case hr => first | (go_simp; done) | (go_simp; rfl))
    intro h2_14 hg wA hbox hb
    replace HM := Aside0.mk (HM.out.box hb hbox hg)
    clear hg hbox hb
    replace HM := Aside0.mk HM.out.swap
    refine hK.out _ _ (boxesU HM.out.tl.tl.tl.tl) (fun hHeld => ?_)
    clear hK K
    refine norm_ (a' := ?_) ?_ ?_
    rotate_left
    ·show Act.put _ (some 13) _ = _
     simp only [Act.put, List.setIfInBounds_toArray, List.set_cons_zero, List.set_cons_succ, i64_w, i32_w]
     rfl
    exact norm_ (by first | (simp only [putAll, Act.put, List.setIfInBounds_toArray, List.set_cons_zero, List.set_cons_succ]; done) | (simp only [putAll, Act.put, List.setIfInBounds_toArray, List.set_cons_zero, List.set_cons_succ]; rfl)) (hJr2_0_13_14 (h2_13, h2_14) _ HM.out)
  intro hJr2_0_13
  refine join_ (σ := Nat) 13 #[true,false,true,false,true,false,true,false,false,false,false,false,false,false,true,false,false,false] (fun s_ => [(13, .pointer (some ⟨s_, 0, none⟩))]) (fun s_ w' => Hu w w' [(s_, #[.int .i64 0, .int .i64 0], 25), (h1_13, #[.int .i64 x1, .int .i64 x2], 25), (h1_14, #[.int .i64 y1, .int .i64 y2], 25), (g7, #[.int .i64 a3_0, .int .i64 a3_1], 23), (g6, #[.int .i64 a2_0, .int .i64 a2_1], 23), (g5, #[.int .i64 a1_0, .int .i64 a1_1], 23), (g4, #[.int .i64 a0_0, .int .i64 a0_1], 23)]) ?_ ?_
  ·clear HM hHeld
   rintro h2_14 wJ hM_
   have HM := Aside0.mk hM_
   clear hM_
   have hHeld := (boxesU HM.out.tl.tl.tl)
   refine norm_ (a' := ?_) ?_ ?_
   rotate_left
   ·simp only [putAll, Act.put, List.setIfInBounds_toArray, List.set_cons_zero, List.set_cons_succ]
    rfl
   refine two_ (i := 1) (j := 13) (Ni := some 30) (Nj := some 12) #[true,true,true,false,true,false,true,false,false,false,false,false,false,false,true,false,false,false] #[true,false,true,false,true,false,true,false,false,false,false,false,false,true,true,false,false,false] rfl rfl rfl rfl (two_of HT_.out (by kernel_rfl)) (by decide) (by decide) (fun K hK => ?_) (fun K hK => ?_)
   ·skip
    refine goes_ Try.func5 (by kernel_rfl) rfl #[.agg #[.int .i64 a0_0, .int .i64 a0_1]] (by rfl) rfl rfl al ?_
    with_reducible refine (laws_toPoint.calls a0_0 a0_1 a0_0 a0_1 _ rfl).mono ?_
    rintro e wC ⟨rfl, hb⟩
    refine ⟨_, rfl, ?_⟩
    replace HM := Aside0.mk (HM.out.keep hb)
    clear hb
    refine hK.out _ _ (boxesU HM.out.tl.tl.tl) (fun hHeld => ?_)
    clear hK K
    refine norm_ (a' := ?_) ?_ ?_
    rotate_left
    ·show Act.put _ (some 30) _ = _
     simp only [Act.put, List.setIfInBounds_toArray, List.set_cons_zero, List.set_cons_succ, i64_w, i32_w]
     rfl
    exact norm_ (by first | (simp only [putAll, Act.put, List.setIfInBounds_toArray, List.set_cons_zero, List.set_cons_succ]; done) | (simp only [putAll, Act.put, List.setIfInBounds_toArray, List.set_cons_zero, List.set_cons_succ]; rfl)) (hJr2_1_14 h2_14 _ HM.out)
   ·skip
    refine box_step ?hg (N := 12) ?hd (cs := #[.int .i64 0, .int .i64 0]) (t := 25) ?hr ?_; (case hd => rfl); (case hg => rfl); (case hr => first | (go_simp; done) | (go_simp; rfl))
    intro h2_13 hg wA hbox hb
    replace HM := Aside0.mk (HM.out.box hb hbox hg)
    clear hg hbox hb
    refine hK.out _ _ (boxesU HM.out.tl.tl.tl.tl) (fun hHeld => ?_)
    clear hK K
    refine norm_ (a' := ?_) ?_ ?_
    rotate_left
    ·show Act.put _ (some 12) _ = _
     simp only [Act.put, List.setIfInBounds_toArray, List.set_cons_zero, List.set_cons_succ, i64_w, i32_w]
     rfl
    exact norm_ (by first | (simp only [putAll, Act.put, List.setIfInBounds_toArray, List.set_cons_zero, List.set_cons_succ]; done) | (simp only [putAll, Act.put, List.setIfInBounds_toArray, List.set_cons_zero, List.set_cons_succ]; rfl)) (hJr2_0_13_14 (h2_13, h2_14) _ HM.out)
  intro hJr2_0_14
  refine three_ (i := 1) (j := 13) (k := 14) (Ni := some 30) (Nj := some 12) (Nk := some 13) #[true,true,true,false,true,false,true,false,false,false,false,false,false,false,false,false,false,false] #[true,false,true,false,true,false,true,false,false,false,false,false,false,true,false,false,false,false] #[true,false,true,false,true,false,true,false,false,false,false,false,false,false,true,false,false,false] rfl rfl rfl rfl rfl rfl (three_of HT_.out (by kernel_rfl)) (by decide) (by decide) (by decide) (fun K hK => ?_) (fun K hK => ?_) (fun K hK => ?_)
  ·skip
   refine goes_ Try.func5 (by kernel_rfl) rfl #[.agg #[.int .i64 a0_0, .int .i64 a0_1]] (by rfl) rfl rfl al ?_
   with_reducible refine (laws_toPoint.calls a0_0 a0_1 a0_0 a0_1 _ rfl).mono ?_
   rintro e wC ⟨rfl, hb⟩
   refine ⟨_, rfl, ?_⟩
   replace HM := Aside0.mk (HM.out.keep hb)
   clear hb
   refine hK.out _ _ (boxesU HM.out.tl.tl) (fun hHeld => ?_)
   clear hK K
   refine norm_ (a' := ?_) ?_ ?_
   rotate_left
   ·show Act.put _ (some 30) _ = _
    simp only [Act.put, List.setIfInBounds_toArray, List.set_cons_zero, List.set_cons_succ, i64_w, i32_w]
    rfl
   exact norm_ (by first | (simp only [putAll, Act.put, List.setIfInBounds_toArray, List.set_cons_zero, List.set_cons_succ]; done) | (simp only [putAll, Act.put, List.setIfInBounds_toArray, List.set_cons_zero, List.set_cons_succ]; rfl)) (hJr2_1 () _ HM.out)
  ·skip
   refine box_step ?hg (N := 12) ?hd (cs := #[.int .i64 0, .int .i64 0]) (t := 25) ?hr ?_; (case hd => rfl); (case hg => rfl); (case hr => first | (go_simp; done) | (go_simp; rfl))
   intro h2_13 hg wA hbox hb
   replace HM := Aside0.mk (HM.out.box hb hbox hg)
   clear hg hbox hb
   refine hK.out _ _ (boxesU HM.out.tl.tl.tl) (fun hHeld => ?_)
   clear hK K
   refine norm_ (a' := ?_) ?_ ?_
   rotate_left
   ·show Act.put _ (some 12) _ = _
    simp only [Act.put, List.setIfInBounds_toArray, List.set_cons_zero, List.set_cons_succ, i64_w, i32_w]
    rfl
   exact norm_ (by first | (simp only [putAll, Act.put, List.setIfInBounds_toArray, List.set_cons_zero, List.set_cons_succ]; done) | (simp only [putAll, Act.put, List.setIfInBounds_toArray, List.set_cons_zero, List.set_cons_succ]; rfl)) (hJr2_0_13 h2_13 _ HM.out)
  ·skip
   refine box_step ?hg (N := 13) ?hd (cs := #[.int .i64 0, .int .i64 0]) (t := 25) ?hr ?_; (case hd => rfl); (case hg => rfl); (case hr => first | (go_simp; done) | (go_simp; rfl))
   intro h2_14 hg wA hbox hb
   replace HM := Aside0.mk (HM.out.box hb hbox hg)
   clear hg hbox hb
   refine hK.out _ _ (boxesU HM.out.tl.tl.tl) (fun hHeld => ?_)
   clear hK K
   refine norm_ (a' := ?_) ?_ ?_
   rotate_left
   ·show Act.put _ (some 13) _ = _
    simp only [Act.put, List.setIfInBounds_toArray, List.set_cons_zero, List.set_cons_succ, i64_w, i32_w]
    rfl
   exact norm_ (by first | (simp only [putAll, Act.put, List.setIfInBounds_toArray, List.set_cons_zero, List.set_cons_succ]; done) | (simp only [putAll, Act.put, List.setIfInBounds_toArray, List.set_cons_zero, List.set_cons_succ]; rfl)) (hJr2_0_14 h2_14 _ HM.out)
 intro hJr1_5_13_14
 refine join_ (σ := Nat) 4 #[true,true,true,true,true,true,true,true,true,true,true,true,true,true,false,false,false,false] (fun s_ => [(17, .agg #[.int .i64 a0_0, .int .i64 a0_1]), (19, .agg #[.int .i64 a1_0, .int .i64 a1_1]), (21, .agg #[.int .i64 a2_0, .int .i64 a2_1]), (23, .agg #[.int .i64 a3_0, .int .i64 a3_1]), (24, .tuple #[.agg #[.int .i64 x1, .int .i64 x2], .agg #[.int .i64 y1, .int .i64 y2], .bool z]), (15, .tuple #[.agg #[.int .i64 x1, .int .i64 x2], .agg #[.int .i64 y1, .int .i64 y2], .bool z]), (25, .agg #[.int .i64 x1, .int .i64 x2]), (26, .agg #[.int .i64 y1, .int .i64 y2]), (27, .bool z), (9, .pointer (some ⟨s_, 0, none⟩))]) (fun s_ w' => Hu w w' [(s_, #[.int .i64 0, .int .i64 0], 25), (g7, #[.int .i64 a3_0, .int .i64 a3_1], 23), (g6, #[.int .i64 a2_0, .int .i64 a2_1], 23), (g5, #[.int .i64 a1_0, .int .i64 a1_1], 23), (g4, #[.int .i64 a0_0, .int .i64 a0_1], 23)]) ?_ ?_
 ·clear HM hHeld
  rintro h1_13 wJ hM_
  have HM := Aside0.mk hM_
  clear hM_
  have hHeld := (boxesU HM.out.tl)
  refine norm_ (a' := ?_) ?_ ?_
  rotate_left
  ·simp only [putAll, Act.put, List.setIfInBounds_toArray, List.set_cons_zero, List.set_cons_succ]
   rfl
  refine one_ (i := 14) (N := some 10) #[true,true,true,true,true,true,true,true,true,true,true,true,true,true,true,false,false,false] rfl rfl (one_of HT_.out (by kernel_rfl)) (by decide) (fun K hK => ?_)
  ·skip
   refine box_step ?hg (N := 10) ?hd (cs := #[.int .i64 0, .int .i64 0]) (t := 25) ?hr ?_; (case hd => rfl); (case hg => rfl); (case hr => first | (go_simp; done) | (go_simp; rfl))
   intro h1_14 hg wA hbox hb
   replace HM := Aside0.mk (HM.out.box hb hbox hg)
   clear hg hbox hb
   replace HM := Aside0.mk HM.out.swap
   refine hK.out _ _ (boxesU HM.out.tl.tl) (fun hHeld => ?_)
   clear hK K
   refine norm_ (a' := ?_) ?_ ?_
   rotate_left
   ·show Act.put _ (some 10) _ = _
    simp only [Act.put, List.setIfInBounds_toArray, List.set_cons_zero, List.set_cons_succ, i64_w, i32_w]
    rfl
   exact norm_ (by first | (simp only [putAll, Act.put, List.setIfInBounds_toArray, List.set_cons_zero, List.set_cons_succ]; done) | (simp only [putAll, Act.put, List.setIfInBounds_toArray, List.set_cons_zero, List.set_cons_succ]; rfl)) (hJr1_5_13_14 (h1_13, h1_14) _ HM.out)
 intro hJr1_5_13
 refine join_ (σ := Nat) 4 #[true,true,true,true,true,true,true,true,true,true,true,true,true,false,true,false,false,false] (fun s_ => [(17, .agg #[.int .i64 a0_0, .int .i64 a0_1]), (19, .agg #[.int .i64 a1_0, .int .i64 a1_1]), (21, .agg #[.int .i64 a2_0, .int .i64 a2_1]), (23, .agg #[.int .i64 a3_0, .int .i64 a3_1]), (24, .tuple #[.agg #[.int .i64 x1, .int .i64 x2], .agg #[.int .i64 y1, .int .i64 y2], .bool z]), (15, .tuple #[.agg #[.int .i64 x1, .int .i64 x2], .agg #[.int .i64 y1, .int .i64 y2], .bool z]), (25, .agg #[.int .i64 x1, .int .i64 x2]), (26, .agg #[.int .i64 y1, .int .i64 y2]), (27, .bool z), (10, .pointer (some ⟨s_, 0, none⟩))]) (fun s_ w' => Hu w w' [(s_, #[.int .i64 0, .int .i64 0], 25), (g7, #[.int .i64 a3_0, .int .i64 a3_1], 23), (g6, #[.int .i64 a2_0, .int .i64 a2_1], 23), (g5, #[.int .i64 a1_0, .int .i64 a1_1], 23), (g4, #[.int .i64 a0_0, .int .i64 a0_1], 23)]) ?_ ?_
 ·clear HM hHeld
  rintro h1_14 wJ hM_
  have HM := Aside0.mk hM_
  clear hM_
  have hHeld := (boxesU HM.out.tl)
  refine norm_ (a' := ?_) ?_ ?_
  rotate_left
  ·simp only [putAll, Act.put, List.setIfInBounds_toArray, List.set_cons_zero, List.set_cons_succ]
   rfl
  refine one_ (i := 13) (N := some 9) #[true,true,true,true,true,true,true,true,true,true,true,true,true,true,true,false,false,false] rfl rfl (one_of HT_.out (by kernel_rfl)) (by decide) (fun K hK => ?_)
  ·skip
   refine box_step ?hg (N := 9) ?hd (cs := #[.int .i64 0, .int .i64 0]) (t := 25) ?hr ?_; (case hd => rfl); (case hg => rfl); (case hr => first | (go_simp; done) | (go_simp; rfl))
   intro h1_13 hg wA hbox hb
   replace HM := Aside0.mk (HM.out.box hb hbox hg)
   clear hg hbox hb
   refine hK.out _ _ (boxesU HM.out.tl.tl) (fun hHeld => ?_)
   clear hK K
   refine norm_ (a' := ?_) ?_ ?_
   rotate_left
   ·show Act.put _ (some 9) _ = _
    simp only [Act.put, List.setIfInBounds_toArray, List.set_cons_zero, List.set_cons_succ, i64_w, i32_w]
    rfl
   exact norm_ (by first | (simp only [putAll, Act.put, List.setIfInBounds_toArray, List.set_cons_zero, List.set_cons_succ]; done) | (simp only [putAll, Act.put, List.setIfInBounds_toArray, List.set_cons_zero, List.set_cons_succ]; rfl)) (hJr1_5_13_14 (h1_13, h1_14) _ HM.out)
 intro hJr1_5_14
 refine join_ (σ := Unit) 5 #[true,true,true,true,true,true,true,true,true,true,true,true,true,false,false,false,false,false] (fun s_ => [(17, .agg #[.int .i64 a0_0, .int .i64 a0_1]), (19, .agg #[.int .i64 a1_0, .int .i64 a1_1]), (21, .agg #[.int .i64 a2_0, .int .i64 a2_1]), (23, .agg #[.int .i64 a3_0, .int .i64 a3_1]), (24, .tuple #[.agg #[.int .i64 x1, .int .i64 x2], .agg #[.int .i64 y1, .int .i64 y2], .bool z]), (15, .tuple #[.agg #[.int .i64 x1, .int .i64 x2], .agg #[.int .i64 y1, .int .i64 y2], .bool z]), (25, .agg #[.int .i64 x1, .int .i64 x2]), (26, .agg #[.int .i64 y1, .int .i64 y2]), (27, .bool z)]) (fun s_ w' => Hu w w' [(g7, #[.int .i64 a3_0, .int .i64 a3_1], 23), (g6, #[.int .i64 a2_0, .int .i64 a2_1], 23), (g5, #[.int .i64 a1_0, .int .i64 a1_1], 23), (g4, #[.int .i64 a0_0, .int .i64 a0_1], 23)]) ?_ ?_
 ·clear HM hHeld
  rintro _ wJ hM_
  have HM := Aside0.mk hM_
  clear hM_
  have hHeld := (boxesU HM.out)
  refine norm_ (a' := ?_) ?_ ?_
  rotate_left
  ·simp only [putAll, Act.put, List.setIfInBounds_toArray, List.set_cons_zero, List.set_cons_succ]
   rfl
  refine two_ (i := 13) (j := 14) (Ni := some 9) (Nj := some 10) #[true,true,true,true,true,true,true,true,true,true,true,true,true,true,false,false,false,false] #[true,true,true,true,true,true,true,true,true,true,true,true,true,false,true,false,false,false] rfl rfl rfl rfl (two_of HT_.out (by kernel_rfl)) (by decide) (by decide) (fun K hK => ?_) (fun K hK => ?_)
  ·skip
   refine box_step ?hg (N := 9) ?hd (cs := #[.int .i64 0, .int .i64 0]) (t := 25) ?hr ?_; (case hd => rfl); (case hg => rfl); (case hr => first | (go_simp; done) | (go_simp; rfl))
   intro h1_13 hg wA hbox hb
   replace HM := Aside0.mk (HM.out.box hb hbox hg)
   clear hg hbox hb
   refine hK.out _ _ (boxesU HM.out.tl) (fun hHeld => ?_)
   clear hK K
   refine norm_ (a' := ?_) ?_ ?_
   rotate_left
   ·show Act.put _ (some 9) _ = _
    simp only [Act.put, List.setIfInBounds_toArray, List.set_cons_zero, List.set_cons_succ, i64_w, i32_w]
    rfl
   exact norm_ (by first | (simp only [putAll, Act.put, List.setIfInBounds_toArray, List.set_cons_zero, List.set_cons_succ]; done) | (simp only [putAll, Act.put, List.setIfInBounds_toArray, List.set_cons_zero, List.set_cons_succ]; rfl)) (hJr1_5_13 h1_13 _ HM.out)
  ·skip
   refine box_step ?hg (N := 10) ?hd (cs := #[.int .i64 0, .int .i64 0]) (t := 25) ?hr ?_; (case hd => rfl); (case hg => rfl); (case hr => first | (go_simp; done) | (go_simp; rfl))
   intro h1_14 hg wA hbox hb
   replace HM := Aside0.mk (HM.out.box hb hbox hg)
   clear hg hbox hb
   refine hK.out _ _ (boxesU HM.out.tl) (fun hHeld => ?_)
   clear hK K
   refine norm_ (a' := ?_) ?_ ?_
   rotate_left
   ·show Act.put _ (some 10) _ = _
    simp only [Act.put, List.setIfInBounds_toArray, List.set_cons_zero, List.set_cons_succ, i64_w, i32_w]
    rfl
   exact norm_ (by first | (simp only [putAll, Act.put, List.setIfInBounds_toArray, List.set_cons_zero, List.set_cons_succ]; done) | (simp only [putAll, Act.put, List.setIfInBounds_toArray, List.set_cons_zero, List.set_cons_succ]; rfl)) (hJr1_5_14 h1_14 _ HM.out)
 intro hJr1_5
 refine join_ (σ := Nat × Nat) 8 #[true,true,true,true,true,true,true,true,false,false,false,false,false,true,true,false,false,false] (fun s_ => [(17, .agg #[.int .i64 a0_0, .int .i64 a0_1]), (19, .agg #[.int .i64 a1_0, .int .i64 a1_1]), (21, .agg #[.int .i64 a2_0, .int .i64 a2_1]), (23, .agg #[.int .i64 a3_0, .int .i64 a3_1]), (9, .pointer (some ⟨s_.1, 0, none⟩)), (10, .pointer (some ⟨s_.2, 0, none⟩))]) (fun s_ w' => Hu w w' [(s_.1, #[.int .i64 0, .int .i64 0], 25), (s_.2, #[.int .i64 0, .int .i64 0], 25), (g7, #[.int .i64 a3_0, .int .i64 a3_1], 23), (g6, #[.int .i64 a2_0, .int .i64 a2_1], 23), (g5, #[.int .i64 a1_0, .int .i64 a1_1], 23), (g4, #[.int .i64 a0_0, .int .i64 a0_1], 23)]) ?_ ?_
 ·clear HM hHeld
  rintro ⟨h1_13, h1_14⟩ wJ hM_
  have HM := Aside0.mk hM_
  clear hM_
  have hHeld := (boxesU HM.out.tl.tl)
  refine norm_ (a' := ?_) ?_ ?_
  rotate_left
  ·simp only [putAll, Act.put, List.setIfInBounds_toArray, List.set_cons_zero, List.set_cons_succ]
   rfl
  refine one_ (i := 8) (N := some 24) #[true,true,true,true,true,true,true,true,true,false,false,false,false,true,true,false,false,false] rfl rfl (one_of HT_.out (by kernel_rfl)) (by decide) (fun K hK => ?_)
  ·skip
   refine goes_ Try.func4 (by kernel_rfl) rfl #[.agg #[.int .i64 a0_0, .int .i64 a0_1], .agg #[.int .i64 a1_0, .int .i64 a1_1], .agg #[.int .i64 a2_0, .int .i64 a2_1], .agg #[.int .i64 a3_0, .int .i64 a3_1]] (by rfl) rfl rfl al ?_
   with_reducible refine (spec_CrossAt.calls k a0_0 a0_1 a1_0 a1_1 a2_0 a2_1 a3_0 a3_1 x1 x2 y1 y2 z _ HS.out).mono ?_
   rintro e wC ⟨rfl, hb⟩
   refine ⟨_, rfl, ?_⟩
   replace HM := Aside0.mk (HM.out.keep hb)
   clear hb
   refine hK.out _ _ (boxesU HM.out.tl.tl) (fun hHeld => ?_)
   clear hK K
   refine norm_ (a' := ?_) ?_ ?_
   rotate_left
   ·show Act.put _ (some 24) _ = _
    simp only [Act.put, List.setIfInBounds_toArray, List.set_cons_zero, List.set_cons_succ, i64_w, i32_w]
    rfl
   refine pq_ 9 (some 15) ?_
   refine pq_ 10 (some 25) ?_
   refine pq_ 11 (some 26) ?_
   refine pq_ 12 (some 27) ?_
   exact norm_ (by first | (simp only [putAll, Act.put, List.setIfInBounds_toArray, List.set_cons_zero, List.set_cons_succ]; done) | (simp only [putAll, Act.put, List.setIfInBounds_toArray, List.set_cons_zero, List.set_cons_succ]; rfl)) (hJr1_5_13_14 (h1_13, h1_14) _ HM.out)
 intro hJr1_4_13_14
 refine join_ (σ := Nat) 9 #[true,true,true,true,true,true,true,true,false,false,false,false,false,true,false,false,false,false] (fun s_ => [(17, .agg #[.int .i64 a0_0, .int .i64 a0_1]), (19, .agg #[.int .i64 a1_0, .int .i64 a1_1]), (21, .agg #[.int .i64 a2_0, .int .i64 a2_1]), (23, .agg #[.int .i64 a3_0, .int .i64 a3_1]), (9, .pointer (some ⟨s_, 0, none⟩))]) (fun s_ w' => Hu w w' [(s_, #[.int .i64 0, .int .i64 0], 25), (g7, #[.int .i64 a3_0, .int .i64 a3_1], 23), (g6, #[.int .i64 a2_0, .int .i64 a2_1], 23), (g5, #[.int .i64 a1_0, .int .i64 a1_1], 23), (g4, #[.int .i64 a0_0, .int .i64 a0_1], 23)]) ?_ ?_
 ·clear HM hHeld
  rintro h1_13 wJ hM_
  have HM := Aside0.mk hM_
  clear hM_
  have hHeld := (boxesU HM.out.tl)
  refine norm_ (a' := ?_) ?_ ?_
  rotate_left
  ·simp only [putAll, Act.put, List.setIfInBounds_toArray, List.set_cons_zero, List.set_cons_succ]
   rfl
  refine two_ (i := 8) (j := 14) (Ni := some 24) (Nj := some 10) #[true,true,true,true,true,true,true,true,true,false,false,false,false,true,false,false,false,false] #[true,true,true,true,true,true,true,true,false,false,false,false,false,true,true,false,false,false] rfl rfl rfl rfl (two_of HT_.out (by kernel_rfl)) (by decide) (by decide) (fun K hK => ?_) (fun K hK => ?_)
  ·skip
   refine goes_ Try.func4 (by kernel_rfl) rfl #[.agg #[.int .i64 a0_0, .int .i64 a0_1], .agg #[.int .i64 a1_0, .int .i64 a1_1], .agg #[.int .i64 a2_0, .int .i64 a2_1], .agg #[.int .i64 a3_0, .int .i64 a3_1]] (by rfl) rfl rfl al ?_
   with_reducible refine (spec_CrossAt.calls k a0_0 a0_1 a1_0 a1_1 a2_0 a2_1 a3_0 a3_1 x1 x2 y1 y2 z _ HS.out).mono ?_
   rintro e wC ⟨rfl, hb⟩
   refine ⟨_, rfl, ?_⟩
   replace HM := Aside0.mk (HM.out.keep hb)
   clear hb
   refine hK.out _ _ (boxesU HM.out.tl) (fun hHeld => ?_)
   clear hK K
   refine norm_ (a' := ?_) ?_ ?_
   rotate_left
   ·show Act.put _ (some 24) _ = _
    simp only [Act.put, List.setIfInBounds_toArray, List.set_cons_zero, List.set_cons_succ, i64_w, i32_w]
    rfl
   refine pq_ 9 (some 15) ?_
   refine pq_ 10 (some 25) ?_
   refine pq_ 11 (some 26) ?_
   refine pq_ 12 (some 27) ?_
   exact norm_ (by first | (simp only [putAll, Act.put, List.setIfInBounds_toArray, List.set_cons_zero, List.set_cons_succ]; done) | (simp only [putAll, Act.put, List.setIfInBounds_toArray, List.set_cons_zero, List.set_cons_succ]; rfl)) (hJr1_5_13 h1_13 _ HM.out)
  ·skip
   refine box_step ?hg (N := 10) ?hd (cs := #[.int .i64 0, .int .i64 0]) (t := 25) ?hr ?_; (case hd => rfl); (case hg => rfl); (case hr => first | (go_simp; done) | (go_simp; rfl))
   intro h1_14 hg wA hbox hb
   replace HM := Aside0.mk (HM.out.box hb hbox hg)
   clear hg hbox hb
   replace HM := Aside0.mk HM.out.swap
   refine hK.out _ _ (boxesU HM.out.tl.tl) (fun hHeld => ?_)
   clear hK K
   refine norm_ (a' := ?_) ?_ ?_
   rotate_left
   ·show Act.put _ (some 10) _ = _
    simp only [Act.put, List.setIfInBounds_toArray, List.set_cons_zero, List.set_cons_succ, i64_w, i32_w]
    rfl
   exact norm_ (by first | (simp only [putAll, Act.put, List.setIfInBounds_toArray, List.set_cons_zero, List.set_cons_succ]; done) | (simp only [putAll, Act.put, List.setIfInBounds_toArray, List.set_cons_zero, List.set_cons_succ]; rfl)) (hJr1_4_13_14 (h1_13, h1_14) _ HM.out)
 intro hJr1_4_13
 refine join_ (σ := Nat) 9 #[true,true,true,true,true,true,true,true,false,false,false,false,false,false,true,false,false,false] (fun s_ => [(17, .agg #[.int .i64 a0_0, .int .i64 a0_1]), (19, .agg #[.int .i64 a1_0, .int .i64 a1_1]), (21, .agg #[.int .i64 a2_0, .int .i64 a2_1]), (23, .agg #[.int .i64 a3_0, .int .i64 a3_1]), (10, .pointer (some ⟨s_, 0, none⟩))]) (fun s_ w' => Hu w w' [(s_, #[.int .i64 0, .int .i64 0], 25), (g7, #[.int .i64 a3_0, .int .i64 a3_1], 23), (g6, #[.int .i64 a2_0, .int .i64 a2_1], 23), (g5, #[.int .i64 a1_0, .int .i64 a1_1], 23), (g4, #[.int .i64 a0_0, .int .i64 a0_1], 23)]) ?_ ?_
 ·clear HM hHeld
  rintro h1_14 wJ hM_
  have HM := Aside0.mk hM_
  clear hM_
  have hHeld := (boxesU HM.out.tl)
  refine norm_ (a' := ?_) ?_ ?_
  rotate_left
  ·simp only [putAll, Act.put, List.setIfInBounds_toArray, List.set_cons_zero, List.set_cons_succ]
   rfl
  refine two_ (i := 8) (j := 13) (Ni := some 24) (Nj := some 9) #[true,true,true,true,true,true,true,true,true,false,false,false,false,false,true,false,false,false] #[true,true,true,true,true,true,true,true,false,false,false,false,false,true,true,false,false,false] rfl rfl rfl rfl (two_of HT_.out (by kernel_rfl)) (by decide) (by decide) (fun K hK => ?_) (fun K hK => ?_)
  ·skip
   refine goes_ Try.func4 (by kernel_rfl) rfl #[.agg #[.int .i64 a0_0, .int .i64 a0_1], .agg #[.int .i64 a1_0, .int .i64 a1_1], .agg #[.int .i64 a2_0, .int .i64 a2_1], .agg #[.int .i64 a3_0, .int .i64 a3_1]] (by rfl) rfl rfl al ?_
   with_reducible refine (spec_CrossAt.calls k a0_0 a0_1 a1_0 a1_1 a2_0 a2_1 a3_0 a3_1 x1 x2 y1 y2 z _ HS.out).mono ?_
   rintro e wC ⟨rfl, hb⟩
   refine ⟨_, rfl, ?_⟩
   replace HM := Aside0.mk (HM.out.keep hb)
   clear hb
   refine hK.out _ _ (boxesU HM.out.tl) (fun hHeld => ?_)
   clear hK K
   refine norm_ (a' := ?_) ?_ ?_
   rotate_left
   ·show Act.put _ (some 24) _ = _
    simp only [Act.put, List.setIfInBounds_toArray, List.set_cons_zero, List.set_cons_succ, i64_w, i32_w]
    rfl
   refine pq_ 9 (some 15) ?_
   refine pq_ 10 (some 25) ?_
   refine pq_ 11 (some 26) ?_
   refine pq_ 12 (some 27) ?_
   exact norm_ (by first | (simp only [putAll, Act.put, List.setIfInBounds_toArray, List.set_cons_zero, List.set_cons_succ]; done) | (simp only [putAll, Act.put, List.setIfInBounds_toArray, List.set_cons_zero, List.set_cons_succ]; rfl)) (hJr1_5_14 h1_14 _ HM.out)
  ·skip
   refine box_step ?hg (N := 9) ?hd (cs := #[.int .i64 0, .int .i64 0]) (t := 25) ?hr ?_; (case hd => rfl); (case hg => rfl); (case hr => first | (go_simp; done) | (go_simp; rfl))
   intro h1_13 hg wA hbox hb
   replace HM := Aside0.mk (HM.out.box hb hbox hg)
   clear hg hbox hb
   refine hK.out _ _ (boxesU HM.out.tl.tl) (fun hHeld => ?_)
   clear hK K
   refine norm_ (a' := ?_) ?_ ?_
   rotate_left
   ·show Act.put _ (some 9) _ = _
    simp only [Act.put, List.setIfInBounds_toArray, List.set_cons_zero, List.set_cons_succ, i64_w, i32_w]
    rfl
   exact norm_ (by first | (simp only [putAll, Act.put, List.setIfInBounds_toArray, List.set_cons_zero, List.set_cons_succ]; done) | (simp only [putAll, Act.put, List.setIfInBounds_toArray, List.set_cons_zero, List.set_cons_succ]; rfl)) (hJr1_4_13_14 (h1_13, h1_14) _ HM.out)
 intro hJr1_4_14
 refine join_ (σ := Unit) 10 #[true,true,true,true,true,true,true,true,false,false,false,false,false,false,false,false,false,false] (fun s_ => [(17, .agg #[.int .i64 a0_0, .int .i64 a0_1]), (19, .agg #[.int .i64 a1_0, .int .i64 a1_1]), (21, .agg #[.int .i64 a2_0, .int .i64 a2_1]), (23, .agg #[.int .i64 a3_0, .int .i64 a3_1])]) (fun s_ w' => Hu w w' [(g7, #[.int .i64 a3_0, .int .i64 a3_1], 23), (g6, #[.int .i64 a2_0, .int .i64 a2_1], 23), (g5, #[.int .i64 a1_0, .int .i64 a1_1], 23), (g4, #[.int .i64 a0_0, .int .i64 a0_1], 23)]) ?_ ?_
 ·clear HM hHeld
  rintro _ wJ hM_
  have HM := Aside0.mk hM_
  clear hM_
  have hHeld := (boxesU HM.out)
  refine norm_ (a' := ?_) ?_ ?_
  rotate_left
  ·simp only [putAll, Act.put, List.setIfInBounds_toArray, List.set_cons_zero, List.set_cons_succ]
   rfl
  refine three_ (i := 8) (j := 13) (k := 14) (Ni := some 24) (Nj := some 9) (Nk := some 10) #[true,true,true,true,true,true,true,true,true,false,false,false,false,false,false,false,false,false] #[true,true,true,true,true,true,true,true,false,false,false,false,false,true,false,false,false,false] #[true,true,true,true,true,true,true,true,false,false,false,false,false,false,true,false,false,false] rfl rfl rfl rfl rfl rfl (three_of HT_.out (by kernel_rfl)) (by decide) (by decide) (by decide) (fun K hK => ?_) (fun K hK => ?_) (fun K hK => ?_)
  ·skip
   refine goes_ Try.func4 (by kernel_rfl) rfl #[.agg #[.int .i64 a0_0, .int .i64 a0_1], .agg #[.int .i64 a1_0, .int .i64 a1_1], .agg #[.int .i64 a2_0, .int .i64 a2_1], .agg #[.int .i64 a3_0, .int .i64 a3_1]] (by rfl) rfl rfl al ?_
   with_reducible refine (spec_CrossAt.calls k a0_0 a0_1 a1_0 a1_1 a2_0 a2_1 a3_0 a3_1 x1 x2 y1 y2 z _ HS.out).mono ?_
   rintro e wC ⟨rfl, hb⟩
   refine ⟨_, rfl, ?_⟩
   replace HM := Aside0.mk (HM.out.keep hb)
   clear hb
   refine hK.out _ _ (boxesU HM.out) (fun hHeld => ?_)
   clear hK K
   refine norm_ (a' := ?_) ?_ ?_
   rotate_left
   ·show Act.put _ (some 24) _ = _
    simp only [Act.put, List.setIfInBounds_toArray, List.set_cons_zero, List.set_cons_succ, i64_w, i32_w]
    rfl
   refine pq_ 9 (some 15) ?_
   refine pq_ 10 (some 25) ?_
   refine pq_ 11 (some 26) ?_
   refine pq_ 12 (some 27) ?_
   exact norm_ (by first | (simp only [putAll, Act.put, List.setIfInBounds_toArray, List.set_cons_zero, List.set_cons_succ]; done) | (simp only [putAll, Act.put, List.setIfInBounds_toArray, List.set_cons_zero, List.set_cons_succ]; rfl)) (hJr1_5 () _ HM.out)
  ·skip
   refine box_step ?hg (N := 9) ?hd (cs := #[.int .i64 0, .int .i64 0]) (t := 25) ?hr ?_; (case hd => rfl); (case hg => rfl); (case hr => first | (go_simp; done) | (go_simp; rfl))
   intro h1_13 hg wA hbox hb
   replace HM := Aside0.mk (HM.out.box hb hbox hg)
   clear hg hbox hb
   refine hK.out _ _ (boxesU HM.out.tl) (fun hHeld => ?_)
   clear hK K
   refine norm_ (a' := ?_) ?_ ?_
   rotate_left
   ·show Act.put _ (some 9) _ = _
    simp only [Act.put, List.setIfInBounds_toArray, List.set_cons_zero, List.set_cons_succ, i64_w, i32_w]
    rfl
   exact norm_ (by first | (simp only [putAll, Act.put, List.setIfInBounds_toArray, List.set_cons_zero, List.set_cons_succ]; done) | (simp only [putAll, Act.put, List.setIfInBounds_toArray, List.set_cons_zero, List.set_cons_succ]; rfl)) (hJr1_4_13 h1_13 _ HM.out)
  ·skip
   refine box_step ?hg (N := 10) ?hd (cs := #[.int .i64 0, .int .i64 0]) (t := 25) ?hr ?_; (case hd => rfl); (case hg => rfl); (case hr => first | (go_simp; done) | (go_simp; rfl))
   intro h1_14 hg wA hbox hb
   replace HM := Aside0.mk (HM.out.box hb hbox hg)
   clear hg hbox hb
   refine hK.out _ _ (boxesU HM.out.tl) (fun hHeld => ?_)
   clear hK K
   refine norm_ (a' := ?_) ?_ ?_
   rotate_left
   ·show Act.put _ (some 10) _ = _
    simp only [Act.put, List.setIfInBounds_toArray, List.set_cons_zero, List.set_cons_succ, i64_w, i32_w]
    rfl
   exact norm_ (by first | (simp only [putAll, Act.put, List.setIfInBounds_toArray, List.set_cons_zero, List.set_cons_succ]; done) | (simp only [putAll, Act.put, List.setIfInBounds_toArray, List.set_cons_zero, List.set_cons_succ]; rfl)) (hJr1_4_14 h1_14 _ HM.out)
 intro hJr1_4
 refine join_ (σ := Nat × Nat) 9 #[true,true,true,true,true,true,true,false,false,false,false,false,false,true,true,false,false,false] (fun s_ => [(17, .agg #[.int .i64 a0_0, .int .i64 a0_1]), (19, .agg #[.int .i64 a1_0, .int .i64 a1_1]), (21, .agg #[.int .i64 a2_0, .int .i64 a2_1]), (9, .pointer (some ⟨s_.1, 0, none⟩)), (10, .pointer (some ⟨s_.2, 0, none⟩))]) (fun s_ w' => Hu w w' [(s_.1, #[.int .i64 0, .int .i64 0], 25), (s_.2, #[.int .i64 0, .int .i64 0], 25), (g7, #[.int .i64 a3_0, .int .i64 a3_1], 23), (g6, #[.int .i64 a2_0, .int .i64 a2_1], 23), (g5, #[.int .i64 a1_0, .int .i64 a1_1], 23), (g4, #[.int .i64 a0_0, .int .i64 a0_1], 23)]) ?_ ?_
 ·clear HM hHeld
  rintro ⟨h1_13, h1_14⟩ wJ hM_
  have HM := Aside0.mk hM_
  clear hM_
  have hHeld := (boxesU HM.out.tl.tl)
  refine norm_ (a' := ?_) ?_ ?_
  rotate_left
  ·simp only [putAll, Act.put, List.setIfInBounds_toArray, List.set_cons_zero, List.set_cons_succ]
   rfl
  refine one_ (i := 7) (N := some 23) #[true,true,true,true,true,true,true,true,false,false,false,false,false,true,true,false,false,false] rfl rfl (one_of HT_.out (by kernel_rfl)) (by decide) (fun K hK => ?_)
  ·skip
   refine goes_ Try.func5 (by kernel_rfl) rfl #[.agg #[.int .i64 a3_0, .int .i64 a3_1]] (by rfl) rfl rfl al ?_
   with_reducible refine (laws_toPoint.calls a3_0 a3_1 a3_0 a3_1 _ rfl).mono ?_
   rintro e wC ⟨rfl, hb⟩
   refine ⟨_, rfl, ?_⟩
   replace HM := Aside0.mk (HM.out.keep hb)
   clear hb
   refine hK.out _ _ (boxesU HM.out.tl.tl) (fun hHeld => ?_)
   clear hK K
   refine norm_ (a' := ?_) ?_ ?_
   rotate_left
   ·show Act.put _ (some 23) _ = _
    simp only [Act.put, List.setIfInBounds_toArray, List.set_cons_zero, List.set_cons_succ, i64_w, i32_w]
    rfl
   exact norm_ (by first | (simp only [putAll, Act.put, List.setIfInBounds_toArray, List.set_cons_zero, List.set_cons_succ]; done) | (simp only [putAll, Act.put, List.setIfInBounds_toArray, List.set_cons_zero, List.set_cons_succ]; rfl)) (hJr1_4_13_14 (h1_13, h1_14) _ HM.out)
 intro hJr1_3_13_14
 refine join_ (σ := Nat) 10 #[true,true,true,true,true,true,true,false,false,false,false,false,false,true,false,false,false,false] (fun s_ => [(17, .agg #[.int .i64 a0_0, .int .i64 a0_1]), (19, .agg #[.int .i64 a1_0, .int .i64 a1_1]), (21, .agg #[.int .i64 a2_0, .int .i64 a2_1]), (9, .pointer (some ⟨s_, 0, none⟩))]) (fun s_ w' => Hu w w' [(s_, #[.int .i64 0, .int .i64 0], 25), (g7, #[.int .i64 a3_0, .int .i64 a3_1], 23), (g6, #[.int .i64 a2_0, .int .i64 a2_1], 23), (g5, #[.int .i64 a1_0, .int .i64 a1_1], 23), (g4, #[.int .i64 a0_0, .int .i64 a0_1], 23)]) ?_ ?_
 ·clear HM hHeld
  rintro h1_13 wJ hM_
  have HM := Aside0.mk hM_
  clear hM_
  have hHeld := (boxesU HM.out.tl)
  refine norm_ (a' := ?_) ?_ ?_
  rotate_left
  ·simp only [putAll, Act.put, List.setIfInBounds_toArray, List.set_cons_zero, List.set_cons_succ]
   rfl
  refine two_ (i := 7) (j := 14) (Ni := some 23) (Nj := some 10) #[true,true,true,true,true,true,true,true,false,false,false,false,false,true,false,false,false,false] #[true,true,true,true,true,true,true,false,false,false,false,false,false,true,true,false,false,false] rfl rfl rfl rfl (two_of HT_.out (by kernel_rfl)) (by decide) (by decide) (fun K hK => ?_) (fun K hK => ?_)
  ·skip
   refine goes_ Try.func5 (by kernel_rfl) rfl #[.agg #[.int .i64 a3_0, .int .i64 a3_1]] (by rfl) rfl rfl al ?_
   with_reducible refine (laws_toPoint.calls a3_0 a3_1 a3_0 a3_1 _ rfl).mono ?_
   rintro e wC ⟨rfl, hb⟩
   refine ⟨_, rfl, ?_⟩
   replace HM := Aside0.mk (HM.out.keep hb)
   clear hb
   refine hK.out _ _ (boxesU HM.out.tl) (fun hHeld => ?_)
   clear hK K
   refine norm_ (a' := ?_) ?_ ?_
   rotate_left
   ·show Act.put _ (some 23) _ = _
    simp only [Act.put, List.setIfInBounds_toArray, List.set_cons_zero, List.set_cons_succ, i64_w, i32_w]
    rfl
   exact norm_ (by first | (simp only [putAll, Act.put, List.setIfInBounds_toArray, List.set_cons_zero, List.set_cons_succ]; done) | (simp only [putAll, Act.put, List.setIfInBounds_toArray, List.set_cons_zero, List.set_cons_succ]; rfl)) (hJr1_4_13 h1_13 _ HM.out)
  ·skip
   refine box_step ?hg (N := 10) ?hd (cs := #[.int .i64 0, .int .i64 0]) (t := 25) ?hr ?_; (case hd => rfl); (case hg => rfl); (case hr => first | (go_simp; done) | (go_simp; rfl))
   intro h1_14 hg wA hbox hb
   replace HM := Aside0.mk (HM.out.box hb hbox hg)
   clear hg hbox hb
   replace HM := Aside0.mk HM.out.swap
   refine hK.out _ _ (boxesU HM.out.tl.tl) (fun hHeld => ?_)
   clear hK K
   refine norm_ (a' := ?_) ?_ ?_
   rotate_left
   ·show Act.put _ (some 10) _ = _
    simp only [Act.put, List.setIfInBounds_toArray, List.set_cons_zero, List.set_cons_succ, i64_w, i32_w]
    rfl
   exact norm_ (by first | (simp only [putAll, Act.put, List.setIfInBounds_toArray, List.set_cons_zero, List.set_cons_succ]; done) | (simp only [putAll, Act.put, List.setIfInBounds_toArray, List.set_cons_zero, List.set_cons_succ]; rfl)) (hJr1_3_13_14 (h1_13, h1_14) _ HM.out)
 intro hJr1_3_13
 refine join_ (σ := Nat) 10 #[true,true,true,true,true,true,true,false,false,false,false,false,false,false,true,false,false,false] (fun s_ => [(17, .agg #[.int .i64 a0_0, .int .i64 a0_1]), (19, .agg #[.int .i64 a1_0, .int .i64 a1_1]), (21, .agg #[.int .i64 a2_0, .int .i64 a2_1]), (10, .pointer (some ⟨s_, 0, none⟩))]) (fun s_ w' => Hu w w' [(s_, #[.int .i64 0, .int .i64 0], 25), (g7, #[.int .i64 a3_0, .int .i64 a3_1], 23), (g6, #[.int .i64 a2_0, .int .i64 a2_1], 23), (g5, #[.int .i64 a1_0, .int .i64 a1_1], 23), (g4, #[.int .i64 a0_0, .int .i64 a0_1], 23)]) ?_ ?_
 ·clear HM hHeld
  rintro h1_14 wJ hM_
  have HM := Aside0.mk hM_
  clear hM_
  have hHeld := (boxesU HM.out.tl)
  refine norm_ (a' := ?_) ?_ ?_
  rotate_left
  ·simp only [putAll, Act.put, List.setIfInBounds_toArray, List.set_cons_zero, List.set_cons_succ]
   rfl
  refine two_ (i := 7) (j := 13) (Ni := some 23) (Nj := some 9) #[true,true,true,true,true,true,true,true,false,false,false,false,false,false,true,false,false,false] #[true,true,true,true,true,true,true,false,false,false,false,false,false,true,true,false,false,false] rfl rfl rfl rfl (two_of HT_.out (by kernel_rfl)) (by decide) (by decide) (fun K hK => ?_) (fun K hK => ?_)
  ·skip
   refine goes_ Try.func5 (by kernel_rfl) rfl #[.agg #[.int .i64 a3_0, .int .i64 a3_1]] (by rfl) rfl rfl al ?_
   with_reducible refine (laws_toPoint.calls a3_0 a3_1 a3_0 a3_1 _ rfl).mono ?_
   rintro e wC ⟨rfl, hb⟩
   refine ⟨_, rfl, ?_⟩
   replace HM := Aside0.mk (HM.out.keep hb)
   clear hb
   refine hK.out _ _ (boxesU HM.out.tl) (fun hHeld => ?_)
   clear hK K
   refine norm_ (a' := ?_) ?_ ?_
   rotate_left
   ·show Act.put _ (some 23) _ = _
    simp only [Act.put, List.setIfInBounds_toArray, List.set_cons_zero, List.set_cons_succ, i64_w, i32_w]
    rfl
   exact norm_ (by first | (simp only [putAll, Act.put, List.setIfInBounds_toArray, List.set_cons_zero, List.set_cons_succ]; done) | (simp only [putAll, Act.put, List.setIfInBounds_toArray, List.set_cons_zero, List.set_cons_succ]; rfl)) (hJr1_4_14 h1_14 _ HM.out)
  ·skip
   refine box_step ?hg (N := 9) ?hd (cs := #[.int .i64 0, .int .i64 0]) (t := 25) ?hr ?_; (case hd => rfl); (case hg => rfl); (case hr => first | (go_simp; done) | (go_simp; rfl))
   intro h1_13 hg wA hbox hb
   replace HM := Aside0.mk (HM.out.box hb hbox hg)
   clear hg hbox hb
   refine hK.out _ _ (boxesU HM.out.tl.tl) (fun hHeld => ?_)
   clear hK K
   refine norm_ (a' := ?_) ?_ ?_
   rotate_left
   ·show Act.put _ (some 9) _ = _
    simp only [Act.put, List.setIfInBounds_toArray, List.set_cons_zero, List.set_cons_succ, i64_w, i32_w]
    rfl
   exact norm_ (by first | (simp only [putAll, Act.put, List.setIfInBounds_toArray, List.set_cons_zero, List.set_cons_succ]; done) | (simp only [putAll, Act.put, List.setIfInBounds_toArray, List.set_cons_zero, List.set_cons_succ]; rfl)) (hJr1_3_13_14 (h1_13, h1_14) _ HM.out)
 intro hJr1_3_14
 refine join_ (σ := Unit) 11 #[true,true,true,true,true,true,true,false,false,false,false,false,false,false,false,false,false,false] (fun s_ => [(17, .agg #[.int .i64 a0_0, .int .i64 a0_1]), (19, .agg #[.int .i64 a1_0, .int .i64 a1_1]), (21, .agg #[.int .i64 a2_0, .int .i64 a2_1])]) (fun s_ w' => Hu w w' [(g7, #[.int .i64 a3_0, .int .i64 a3_1], 23), (g6, #[.int .i64 a2_0, .int .i64 a2_1], 23), (g5, #[.int .i64 a1_0, .int .i64 a1_1], 23), (g4, #[.int .i64 a0_0, .int .i64 a0_1], 23)]) ?_ ?_
 ·clear HM hHeld
  rintro _ wJ hM_
  have HM := Aside0.mk hM_
  clear hM_
  have hHeld := (boxesU HM.out)
  refine norm_ (a' := ?_) ?_ ?_
  rotate_left
  ·simp only [putAll, Act.put, List.setIfInBounds_toArray, List.set_cons_zero, List.set_cons_succ]
   rfl
  refine three_ (i := 7) (j := 13) (k := 14) (Ni := some 23) (Nj := some 9) (Nk := some 10) #[true,true,true,true,true,true,true,true,false,false,false,false,false,false,false,false,false,false] #[true,true,true,true,true,true,true,false,false,false,false,false,false,true,false,false,false,false] #[true,true,true,true,true,true,true,false,false,false,false,false,false,false,true,false,false,false] rfl rfl rfl rfl rfl rfl (three_of HT_.out (by kernel_rfl)) (by decide) (by decide) (by decide) (fun K hK => ?_) (fun K hK => ?_) (fun K hK => ?_)
  ·skip
   refine goes_ Try.func5 (by kernel_rfl) rfl #[.agg #[.int .i64 a3_0, .int .i64 a3_1]] (by rfl) rfl rfl al ?_
   with_reducible refine (laws_toPoint.calls a3_0 a3_1 a3_0 a3_1 _ rfl).mono ?_
   rintro e wC ⟨rfl, hb⟩
   refine ⟨_, rfl, ?_⟩
   replace HM := Aside0.mk (HM.out.keep hb)
   clear hb
   refine hK.out _ _ (boxesU HM.out) (fun hHeld => ?_)
   clear hK K
   refine norm_ (a' := ?_) ?_ ?_
   rotate_left
   ·show Act.put _ (some 23) _ = _
    simp only [Act.put, List.setIfInBounds_toArray, List.set_cons_zero, List.set_cons_succ, i64_w, i32_w]
    rfl
   exact norm_ (by first | (simp only [putAll, Act.put, List.setIfInBounds_toArray, List.set_cons_zero, List.set_cons_succ]; done) | (simp only [putAll, Act.put, List.setIfInBounds_toArray, List.set_cons_zero, List.set_cons_succ]; rfl)) (hJr1_4 () _ HM.out)
  ·skip
   refine box_step ?hg (N := 9) ?hd (cs := #[.int .i64 0, .int .i64 0]) (t := 25) ?hr ?_; (case hd => rfl); (case hg => rfl); (case hr => first | (go_simp; done) | (go_simp; rfl))
   intro h1_13 hg wA hbox hb
   replace HM := Aside0.mk (HM.out.box hb hbox hg)
   clear hg hbox hb
   refine hK.out _ _ (boxesU HM.out.tl) (fun hHeld => ?_)
   clear hK K
   refine norm_ (a' := ?_) ?_ ?_
   rotate_left
   ·show Act.put _ (some 9) _ = _
    simp only [Act.put, List.setIfInBounds_toArray, List.set_cons_zero, List.set_cons_succ, i64_w, i32_w]
    rfl
   exact norm_ (by first | (simp only [putAll, Act.put, List.setIfInBounds_toArray, List.set_cons_zero, List.set_cons_succ]; done) | (simp only [putAll, Act.put, List.setIfInBounds_toArray, List.set_cons_zero, List.set_cons_succ]; rfl)) (hJr1_3_13 h1_13 _ HM.out)
  ·skip
   refine box_step ?hg (N := 10) ?hd (cs := #[.int .i64 0, .int .i64 0]) (t := 25) ?hr ?_; (case hd => rfl); (case hg => rfl); (case hr => first | (go_simp; done) | (go_simp; rfl))
   intro h1_14 hg wA hbox hb
   replace HM := Aside0.mk (HM.out.box hb hbox hg)
   clear hg hbox hb
   refine hK.out _ _ (boxesU HM.out.tl) (fun hHeld => ?_)
   clear hK K
   refine norm_ (a' := ?_) ?_ ?_
   rotate_left
   ·show Act.put _ (some 10) _ = _
    simp only [Act.put, List.setIfInBounds_toArray, List.set_cons_zero, List.set_cons_succ, i64_w, i32_w]
    rfl
   exact norm_ (by first | (simp only [putAll, Act.put, List.setIfInBounds_toArray, List.set_cons_zero, List.set_cons_succ]; done) | (simp only [putAll, Act.put, List.setIfInBounds_toArray, List.set_cons_zero, List.set_cons_succ]; rfl)) (hJr1_3_14 h1_14 _ HM.out)
 intro hJr1_3
 refine join_ (σ := Nat × Nat) 10 #[true,true,true,true,true,false,true,false,false,false,false,false,false,true,true,false,false,false] (fun s_ => [(17, .agg #[.int .i64 a0_0, .int .i64 a0_1]), (19, .agg #[.int .i64 a1_0, .int .i64 a1_1]), (9, .pointer (some ⟨s_.1, 0, none⟩)), (10, .pointer (some ⟨s_.2, 0, none⟩))]) (fun s_ w' => Hu w w' [(s_.1, #[.int .i64 0, .int .i64 0], 25), (s_.2, #[.int .i64 0, .int .i64 0], 25), (g7, #[.int .i64 a3_0, .int .i64 a3_1], 23), (g6, #[.int .i64 a2_0, .int .i64 a2_1], 23), (g5, #[.int .i64 a1_0, .int .i64 a1_1], 23), (g4, #[.int .i64 a0_0, .int .i64 a0_1], 23)]) ?_ ?_
 ·clear HM hHeld
  rintro ⟨h1_13, h1_14⟩ wJ hM_
  have HM := Aside0.mk hM_
  clear hM_
  have hHeld := (boxesU HM.out.tl.tl)
  refine norm_ (a' := ?_) ?_ ?_
  rotate_left
  ·simp only [putAll, Act.put, List.setIfInBounds_toArray, List.set_cons_zero, List.set_cons_succ]
   rfl
  refine one_ (i := 5) (N := some 21) #[true,true,true,true,true,true,true,false,false,false,false,false,false,true,true,false,false,false] rfl rfl (one_of HT_.out (by kernel_rfl)) (by decide) (fun K hK => ?_)
  ·skip
   refine goes_ Try.func5 (by kernel_rfl) rfl #[.agg #[.int .i64 a2_0, .int .i64 a2_1]] (by rfl) rfl rfl al ?_
   with_reducible refine (laws_toPoint.calls a2_0 a2_1 a2_0 a2_1 _ rfl).mono ?_
   rintro e wC ⟨rfl, hb⟩
   refine ⟨_, rfl, ?_⟩
   replace HM := Aside0.mk (HM.out.keep hb)
   clear hb
   refine hK.out _ _ (boxesU HM.out.tl.tl) (fun hHeld => ?_)
   clear hK K
   refine norm_ (a' := ?_) ?_ ?_
   rotate_left
   ·show Act.put _ (some 21) _ = _
    simp only [Act.put, List.setIfInBounds_toArray, List.set_cons_zero, List.set_cons_succ, i64_w, i32_w]
    rfl
   exact norm_ (by first | (simp only [putAll, Act.put, List.setIfInBounds_toArray, List.set_cons_zero, List.set_cons_succ]; done) | (simp only [putAll, Act.put, List.setIfInBounds_toArray, List.set_cons_zero, List.set_cons_succ]; rfl)) (hJr1_3_13_14 (h1_13, h1_14) _ HM.out)
 intro hJr1_2_13_14
 refine join_ (σ := Nat) 11 #[true,true,true,true,true,false,true,false,false,false,false,false,false,true,false,false,false,false] (fun s_ => [(17, .agg #[.int .i64 a0_0, .int .i64 a0_1]), (19, .agg #[.int .i64 a1_0, .int .i64 a1_1]), (9, .pointer (some ⟨s_, 0, none⟩))]) (fun s_ w' => Hu w w' [(s_, #[.int .i64 0, .int .i64 0], 25), (g7, #[.int .i64 a3_0, .int .i64 a3_1], 23), (g6, #[.int .i64 a2_0, .int .i64 a2_1], 23), (g5, #[.int .i64 a1_0, .int .i64 a1_1], 23), (g4, #[.int .i64 a0_0, .int .i64 a0_1], 23)]) ?_ ?_
 ·clear HM hHeld
  rintro h1_13 wJ hM_
  have HM := Aside0.mk hM_
  clear hM_
  have hHeld := (boxesU HM.out.tl)
  refine norm_ (a' := ?_) ?_ ?_
  rotate_left
  ·simp only [putAll, Act.put, List.setIfInBounds_toArray, List.set_cons_zero, List.set_cons_succ]
   rfl
  refine two_ (i := 5) (j := 14) (Ni := some 21) (Nj := some 10) #[true,true,true,true,true,true,true,false,false,false,false,false,false,true,false,false,false,false] #[true,true,true,true,true,false,true,false,false,false,false,false,false,true,true,false,false,false] rfl rfl rfl rfl (two_of HT_.out (by kernel_rfl)) (by decide) (by decide) (fun K hK => ?_) (fun K hK => ?_)
  ·skip
   refine goes_ Try.func5 (by kernel_rfl) rfl #[.agg #[.int .i64 a2_0, .int .i64 a2_1]] (by rfl) rfl rfl al ?_
   with_reducible refine (laws_toPoint.calls a2_0 a2_1 a2_0 a2_1 _ rfl).mono ?_
   rintro e wC ⟨rfl, hb⟩
   refine ⟨_, rfl, ?_⟩
   replace HM := Aside0.mk (HM.out.keep hb)
   clear hb
   refine hK.out _ _ (boxesU HM.out.tl) (fun hHeld => ?_)
   clear hK K
   refine norm_ (a' := ?_) ?_ ?_
   rotate_left
   ·show Act.put _ (some 21) _ = _
    simp only [Act.put, List.setIfInBounds_toArray, List.set_cons_zero, List.set_cons_succ, i64_w, i32_w]
    rfl
   exact norm_ (by first | (simp only [putAll, Act.put, List.setIfInBounds_toArray, List.set_cons_zero, List.set_cons_succ]; done) | (simp only [putAll, Act.put, List.setIfInBounds_toArray, List.set_cons_zero, List.set_cons_succ]; rfl)) (hJr1_3_13 h1_13 _ HM.out)
  ·skip
   refine box_step ?hg (N := 10) ?hd (cs := #[.int .i64 0, .int .i64 0]) (t := 25) ?hr ?_; (case hd => rfl); (case hg => rfl); (case hr => first | (go_simp; done) | (go_simp; rfl))
   intro h1_14 hg wA hbox hb
   replace HM := Aside0.mk (HM.out.box hb hbox hg)
   clear hg hbox hb
   replace HM := Aside0.mk HM.out.swap
   refine hK.out _ _ (boxesU HM.out.tl.tl) (fun hHeld => ?_)
   clear hK K
   refine norm_ (a' := ?_) ?_ ?_
   rotate_left
   ·show Act.put _ (some 10) _ = _
    simp only [Act.put, List.setIfInBounds_toArray, List.set_cons_zero, List.set_cons_succ, i64_w, i32_w]
    rfl
   exact norm_ (by first | (simp only [putAll, Act.put, List.setIfInBounds_toArray, List.set_cons_zero, List.set_cons_succ]; done) | (simp only [putAll, Act.put, List.setIfInBounds_toArray, List.set_cons_zero, List.set_cons_succ]; rfl)) (hJr1_2_13_14 (h1_13, h1_14) _ HM.out)
 intro hJr1_2_13
 refine join_ (σ := Nat) 11 #[true,true,true,true,true,false,true,false,false,false,false,false,false,false,true,false,false,false] (fun s_ => [(17, .agg #[.int .i64 a0_0, .int .i64 a0_1]), (19, .agg #[.int .i64 a1_0, .int .i64 a1_1]), (10, .pointer (some ⟨s_, 0, none⟩))]) (fun s_ w' => Hu w w' [(s_, #[.int .i64 0, .int .i64 0], 25), (g7, #[.int .i64 a3_0, .int .i64 a3_1], 23), (g6, #[.int .i64 a2_0, .int .i64 a2_1], 23), (g5, #[.int .i64 a1_0, .int .i64 a1_1], 23), (g4, #[.int .i64 a0_0, .int .i64 a0_1], 23)]) ?_ ?_
 ·clear HM hHeld
  rintro h1_14 wJ hM_
  have HM := Aside0.mk hM_
  clear hM_
  have hHeld := (boxesU HM.out.tl)
  refine norm_ (a' := ?_) ?_ ?_
  rotate_left
  ·simp only [putAll, Act.put, List.setIfInBounds_toArray, List.set_cons_zero, List.set_cons_succ]
   rfl
  refine two_ (i := 5) (j := 13) (Ni := some 21) (Nj := some 9) #[true,true,true,true,true,true,true,false,false,false,false,false,false,false,true,false,false,false] #[true,true,true,true,true,false,true,false,false,false,false,false,false,true,true,false,false,false] rfl rfl rfl rfl (two_of HT_.out (by kernel_rfl)) (by decide) (by decide) (fun K hK => ?_) (fun K hK => ?_)
  ·skip
   refine goes_ Try.func5 (by kernel_rfl) rfl #[.agg #[.int .i64 a2_0, .int .i64 a2_1]] (by rfl) rfl rfl al ?_
   with_reducible refine (laws_toPoint.calls a2_0 a2_1 a2_0 a2_1 _ rfl).mono ?_
   rintro e wC ⟨rfl, hb⟩
   refine ⟨_, rfl, ?_⟩
   replace HM := Aside0.mk (HM.out.keep hb)
   clear hb
   refine hK.out _ _ (boxesU HM.out.tl) (fun hHeld => ?_)
   clear hK K
   refine norm_ (a' := ?_) ?_ ?_
   rotate_left
   ·show Act.put _ (some 21) _ = _
    simp only [Act.put, List.setIfInBounds_toArray, List.set_cons_zero, List.set_cons_succ, i64_w, i32_w]
    rfl
   exact norm_ (by first | (simp only [putAll, Act.put, List.setIfInBounds_toArray, List.set_cons_zero, List.set_cons_succ]; done) | (simp only [putAll, Act.put, List.setIfInBounds_toArray, List.set_cons_zero, List.set_cons_succ]; rfl)) (hJr1_3_14 h1_14 _ HM.out)
  ·skip
   refine box_step ?hg (N := 9) ?hd (cs := #[.int .i64 0, .int .i64 0]) (t := 25) ?hr ?_; (case hd => rfl); (case hg => rfl); (case hr => first | (go_simp; done) | (go_simp; rfl))
   intro h1_13 hg wA hbox hb
   replace HM := Aside0.mk (HM.out.box hb hbox hg)
   clear hg hbox hb
   refine hK.out _ _ (boxesU HM.out.tl.tl) (fun hHeld => ?_)
   clear hK K
   refine norm_ (a' := ?_) ?_ ?_
   rotate_left
   ·show Act.put _ (some 9) _ = _
    simp only [Act.put, List.setIfInBounds_toArray, List.set_cons_zero, List.set_cons_succ, i64_w, i32_w]
    rfl
   exact norm_ (by first | (simp only [putAll, Act.put, List.setIfInBounds_toArray, List.set_cons_zero, List.set_cons_succ]; done) | (simp only [putAll, Act.put, List.setIfInBounds_toArray, List.set_cons_zero, List.set_cons_succ]; rfl)) (hJr1_2_13_14 (h1_13, h1_14) _ HM.out)
 intro hJr1_2_14
 refine join_ (σ := Unit) 12 #[true,true,true,true,true,false,true,false,false,false,false,false,false,false,false,false,false,false] (fun s_ => [(17, .agg #[.int .i64 a0_0, .int .i64 a0_1]), (19, .agg #[.int .i64 a1_0, .int .i64 a1_1])]) (fun s_ w' => Hu w w' [(g7, #[.int .i64 a3_0, .int .i64 a3_1], 23), (g6, #[.int .i64 a2_0, .int .i64 a2_1], 23), (g5, #[.int .i64 a1_0, .int .i64 a1_1], 23), (g4, #[.int .i64 a0_0, .int .i64 a0_1], 23)]) ?_ ?_
 ·clear HM hHeld
  rintro _ wJ hM_
  have HM := Aside0.mk hM_
  clear hM_
  have hHeld := (boxesU HM.out)
  refine norm_ (a' := ?_) ?_ ?_
  rotate_left
  ·simp only [putAll, Act.put, List.setIfInBounds_toArray, List.set_cons_zero, List.set_cons_succ]
   rfl
  refine three_ (i := 5) (j := 13) (k := 14) (Ni := some 21) (Nj := some 9) (Nk := some 10) #[true,true,true,true,true,true,true,false,false,false,false,false,false,false,false,false,false,false] #[true,true,true,true,true,false,true,false,false,false,false,false,false,true,false,false,false,false] #[true,true,true,true,true,false,true,false,false,false,false,false,false,false,true,false,false,false] rfl rfl rfl rfl rfl rfl (three_of HT_.out (by kernel_rfl)) (by decide) (by decide) (by decide) (fun K hK => ?_) (fun K hK => ?_) (fun K hK => ?_)
  ·skip
   refine goes_ Try.func5 (by kernel_rfl) rfl #[.agg #[.int .i64 a2_0, .int .i64 a2_1]] (by rfl) rfl rfl al ?_
   with_reducible refine (laws_toPoint.calls a2_0 a2_1 a2_0 a2_1 _ rfl).mono ?_
   rintro e wC ⟨rfl, hb⟩
   refine ⟨_, rfl, ?_⟩
   replace HM := Aside0.mk (HM.out.keep hb)
   clear hb
   refine hK.out _ _ (boxesU HM.out) (fun hHeld => ?_)
   clear hK K
   refine norm_ (a' := ?_) ?_ ?_
   rotate_left
   ·show Act.put _ (some 21) _ = _
    simp only [Act.put, List.setIfInBounds_toArray, List.set_cons_zero, List.set_cons_succ, i64_w, i32_w]
    rfl
   exact norm_ (by first | (simp only [putAll, Act.put, List.setIfInBounds_toArray, List.set_cons_zero, List.set_cons_succ]; done) | (simp only [putAll, Act.put, List.setIfInBounds_toArray, List.set_cons_zero, List.set_cons_succ]; rfl)) (hJr1_3 () _ HM.out)
  ·skip
   refine box_step ?hg (N := 9) ?hd (cs := #[.int .i64 0, .int .i64 0]) (t := 25) ?hr ?_; (case hd => rfl); (case hg => rfl); (case hr => first | (go_simp; done) | (go_simp; rfl))
   intro h1_13 hg wA hbox hb
   replace HM := Aside0.mk (HM.out.box hb hbox hg)
   clear hg hbox hb
   refine hK.out _ _ (boxesU HM.out.tl) (fun hHeld => ?_)
   clear hK K
   refine norm_ (a' := ?_) ?_ ?_
   rotate_left
   ·show Act.put _ (some 9) _ = _
    simp only [Act.put, List.setIfInBounds_toArray, List.set_cons_zero, List.set_cons_succ, i64_w, i32_w]
    rfl
   exact norm_ (by first | (simp only [putAll, Act.put, List.setIfInBounds_toArray, List.set_cons_zero, List.set_cons_succ]; done) | (simp only [putAll, Act.put, List.setIfInBounds_toArray, List.set_cons_zero, List.set_cons_succ]; rfl)) (hJr1_2_13 h1_13 _ HM.out)
  ·skip
   refine box_step ?hg (N := 10) ?hd (cs := #[.int .i64 0, .int .i64 0]) (t := 25) ?hr ?_; (case hd => rfl); (case hg => rfl); (case hr => first | (go_simp; done) | (go_simp; rfl))
   intro h1_14 hg wA hbox hb
   replace HM := Aside0.mk (HM.out.box hb hbox hg)
   clear hg hbox hb
   refine hK.out _ _ (boxesU HM.out.tl) (fun hHeld => ?_)
   clear hK K
   refine norm_ (a' := ?_) ?_ ?_
   rotate_left
   ·show Act.put _ (some 10) _ = _
    simp only [Act.put, List.setIfInBounds_toArray, List.set_cons_zero, List.set_cons_succ, i64_w, i32_w]
    rfl
   exact norm_ (by first | (simp only [putAll, Act.put, List.setIfInBounds_toArray, List.set_cons_zero, List.set_cons_succ]; done) | (simp only [putAll, Act.put, List.setIfInBounds_toArray, List.set_cons_zero, List.set_cons_succ]; rfl)) (hJr1_2_14 h1_14 _ HM.out)
 intro hJr1_2
 refine join_ (σ := Nat × Nat) 11 #[true,true,true,false,true,false,true,false,false,false,false,false,false,true,true,false,false,false] (fun s_ => [(17, .agg #[.int .i64 a0_0, .int .i64 a0_1]), (9, .pointer (some ⟨s_.1, 0, none⟩)), (10, .pointer (some ⟨s_.2, 0, none⟩))]) (fun s_ w' => Hu w w' [(s_.1, #[.int .i64 0, .int .i64 0], 25), (s_.2, #[.int .i64 0, .int .i64 0], 25), (g7, #[.int .i64 a3_0, .int .i64 a3_1], 23), (g6, #[.int .i64 a2_0, .int .i64 a2_1], 23), (g5, #[.int .i64 a1_0, .int .i64 a1_1], 23), (g4, #[.int .i64 a0_0, .int .i64 a0_1], 23)]) ?_ ?_
 ·clear HM hHeld
  rintro ⟨h1_13, h1_14⟩ wJ hM_
  have HM := Aside0.mk hM_
  clear hM_
  have hHeld := (boxesU HM.out.tl.tl)
  refine norm_ (a' := ?_) ?_ ?_
  rotate_left
  ·simp only [putAll, Act.put, List.setIfInBounds_toArray, List.set_cons_zero, List.set_cons_succ]
   rfl
  refine one_ (i := 3) (N := some 19) #[true,true,true,true,true,false,true,false,false,false,false,false,false,true,true,false,false,false] rfl rfl (one_of HT_.out (by kernel_rfl)) (by decide) (fun K hK => ?_)
  ·skip
   refine goes_ Try.func5 (by kernel_rfl) rfl #[.agg #[.int .i64 a1_0, .int .i64 a1_1]] (by rfl) rfl rfl al ?_
   with_reducible refine (laws_toPoint.calls a1_0 a1_1 a1_0 a1_1 _ rfl).mono ?_
   rintro e wC ⟨rfl, hb⟩
   refine ⟨_, rfl, ?_⟩
   replace HM := Aside0.mk (HM.out.keep hb)
   clear hb
   refine hK.out _ _ (boxesU HM.out.tl.tl) (fun hHeld => ?_)
   clear hK K
   refine norm_ (a' := ?_) ?_ ?_
   rotate_left
   ·show Act.put _ (some 19) _ = _
    simp only [Act.put, List.setIfInBounds_toArray, List.set_cons_zero, List.set_cons_succ, i64_w, i32_w]
    rfl
   exact norm_ (by first | (simp only [putAll, Act.put, List.setIfInBounds_toArray, List.set_cons_zero, List.set_cons_succ]; done) | (simp only [putAll, Act.put, List.setIfInBounds_toArray, List.set_cons_zero, List.set_cons_succ]; rfl)) (hJr1_2_13_14 (h1_13, h1_14) _ HM.out)
 intro hJr1_1_13_14
 refine join_ (σ := Nat) 12 #[true,true,true,false,true,false,true,false,false,false,false,false,false,true,false,false,false,false] (fun s_ => [(17, .agg #[.int .i64 a0_0, .int .i64 a0_1]), (9, .pointer (some ⟨s_, 0, none⟩))]) (fun s_ w' => Hu w w' [(s_, #[.int .i64 0, .int .i64 0], 25), (g7, #[.int .i64 a3_0, .int .i64 a3_1], 23), (g6, #[.int .i64 a2_0, .int .i64 a2_1], 23), (g5, #[.int .i64 a1_0, .int .i64 a1_1], 23), (g4, #[.int .i64 a0_0, .int .i64 a0_1], 23)]) ?_ ?_
 ·clear HM hHeld
  rintro h1_13 wJ hM_
  have HM := Aside0.mk hM_
  clear hM_
  have hHeld := (boxesU HM.out.tl)
  refine norm_ (a' := ?_) ?_ ?_
  rotate_left
  ·simp only [putAll, Act.put, List.setIfInBounds_toArray, List.set_cons_zero, List.set_cons_succ]
   rfl
  refine two_ (i := 3) (j := 14) (Ni := some 19) (Nj := some 10) #[true,true,true,true,true,false,true,false,false,false,false,false,false,true,false,false,false,false] #[true,true,true,false,true,false,true,false,false,false,false,false,false,true,true,false,false,false] rfl rfl rfl rfl (two_of HT_.out (by kernel_rfl)) (by decide) (by decide) (fun K hK => ?_) (fun K hK => ?_)
  ·skip
   refine goes_ Try.func5 (by kernel_rfl) rfl #[.agg #[.int .i64 a1_0, .int .i64 a1_1]] (by rfl) rfl rfl al ?_
   with_reducible refine (laws_toPoint.calls a1_0 a1_1 a1_0 a1_1 _ rfl).mono ?_
   rintro e wC ⟨rfl, hb⟩
   refine ⟨_, rfl, ?_⟩
   replace HM := Aside0.mk (HM.out.keep hb)
   clear hb
   refine hK.out _ _ (boxesU HM.out.tl) (fun hHeld => ?_)
   clear hK K
   refine norm_ (a' := ?_) ?_ ?_
   rotate_left
   ·show Act.put _ (some 19) _ = _
    simp only [Act.put, List.setIfInBounds_toArray, List.set_cons_zero, List.set_cons_succ, i64_w, i32_w]
    rfl
   exact norm_ (by first | (simp only [putAll, Act.put, List.setIfInBounds_toArray, List.set_cons_zero, List.set_cons_succ]; done) | (simp only [putAll, Act.put, List.setIfInBounds_toArray, List.set_cons_zero, List.set_cons_succ]; rfl)) (hJr1_2_13 h1_13 _ HM.out)
  ·skip
   refine box_step ?hg (N := 10) ?hd (cs := #[.int .i64 0, .int .i64 0]) (t := 25) ?hr ?_; (case hd => rfl); (case hg => rfl); (case hr => first | (go_simp; done) | (go_simp; rfl))
   intro h1_14 hg wA hbox hb
   replace HM := Aside0.mk (HM.out.box hb hbox hg)
   clear hg hbox hb
   replace HM := Aside0.mk HM.out.swap
   refine hK.out _ _ (boxesU HM.out.tl.tl) (fun hHeld => ?_)
   clear hK K
   refine norm_ (a' := ?_) ?_ ?_
   rotate_left
   ·show Act.put _ (some 10) _ = _
    simp only [Act.put, List.setIfInBounds_toArray, List.set_cons_zero, List.set_cons_succ, i64_w, i32_w]
    rfl
   exact norm_ (by first | (simp only [putAll, Act.put, List.setIfInBounds_toArray, List.set_cons_zero, List.set_cons_succ]; done) | (simp only [putAll, Act.put, List.setIfInBounds_toArray, List.set_cons_zero, List.set_cons_succ]; rfl)) (hJr1_1_13_14 (h1_13, h1_14) _ HM.out)
 intro hJr1_1_13
 refine join_ (σ := Nat) 12 #[true,true,true,false,true,false,true,false,false,false,false,false,false,false,true,false,false,false] (fun s_ => [(17, .agg #[.int .i64 a0_0, .int .i64 a0_1]), (10, .pointer (some ⟨s_, 0, none⟩))]) (fun s_ w' => Hu w w' [(s_, #[.int .i64 0, .int .i64 0], 25), (g7, #[.int .i64 a3_0, .int .i64 a3_1], 23), (g6, #[.int .i64 a2_0, .int .i64 a2_1], 23), (g5, #[.int .i64 a1_0, .int .i64 a1_1], 23), (g4, #[.int .i64 a0_0, .int .i64 a0_1], 23)]) ?_ ?_
 ·clear HM hHeld
  rintro h1_14 wJ hM_
  have HM := Aside0.mk hM_
  clear hM_
  have hHeld := (boxesU HM.out.tl)
  refine norm_ (a' := ?_) ?_ ?_
  rotate_left
  ·simp only [putAll, Act.put, List.setIfInBounds_toArray, List.set_cons_zero, List.set_cons_succ]
   rfl
  refine two_ (i := 3) (j := 13) (Ni := some 19) (Nj := some 9) #[true,true,true,true,true,false,true,false,false,false,false,false,false,false,true,false,false,false] #[true,true,true,false,true,false,true,false,false,false,false,false,false,true,true,false,false,false] rfl rfl rfl rfl (two_of HT_.out (by kernel_rfl)) (by decide) (by decide) (fun K hK => ?_) (fun K hK => ?_)
  ·skip
   refine goes_ Try.func5 (by kernel_rfl) rfl #[.agg #[.int .i64 a1_0, .int .i64 a1_1]] (by rfl) rfl rfl al ?_
   with_reducible refine (laws_toPoint.calls a1_0 a1_1 a1_0 a1_1 _ rfl).mono ?_
   rintro e wC ⟨rfl, hb⟩
   refine ⟨_, rfl, ?_⟩
   replace HM := Aside0.mk (HM.out.keep hb)
   clear hb
   refine hK.out _ _ (boxesU HM.out.tl) (fun hHeld => ?_)
   clear hK K
   refine norm_ (a' := ?_) ?_ ?_
   rotate_left
   ·show Act.put _ (some 19) _ = _
    simp only [Act.put, List.setIfInBounds_toArray, List.set_cons_zero, List.set_cons_succ, i64_w, i32_w]
    rfl
   exact norm_ (by first | (simp only [putAll, Act.put, List.setIfInBounds_toArray, List.set_cons_zero, List.set_cons_succ]; done) | (simp only [putAll, Act.put, List.setIfInBounds_toArray, List.set_cons_zero, List.set_cons_succ]; rfl)) (hJr1_2_14 h1_14 _ HM.out)
  ·skip
   refine box_step ?hg (N := 9) ?hd (cs := #[.int .i64 0, .int .i64 0]) (t := 25) ?hr ?_; (case hd => rfl); (case hg => rfl); (case hr => first | (go_simp; done) | (go_simp; rfl))
   intro h1_13 hg wA hbox hb
   replace HM := Aside0.mk (HM.out.box hb hbox hg)
   clear hg hbox hb
   refine hK.out _ _ (boxesU HM.out.tl.tl) (fun hHeld => ?_)
   clear hK K
   refine norm_ (a' := ?_) ?_ ?_
   rotate_left
   ·show Act.put _ (some 9) _ = _
    simp only [Act.put, List.setIfInBounds_toArray, List.set_cons_zero, List.set_cons_succ, i64_w, i32_w]
    rfl
   exact norm_ (by first | (simp only [putAll, Act.put, List.setIfInBounds_toArray, List.set_cons_zero, List.set_cons_succ]; done) | (simp only [putAll, Act.put, List.setIfInBounds_toArray, List.set_cons_zero, List.set_cons_succ]; rfl)) (hJr1_1_13_14 (h1_13, h1_14) _ HM.out)
 intro hJr1_1_14
 refine join_ (σ := Unit) 13 #[true,true,true,false,true,false,true,false,false,false,false,false,false,false,false,false,false,false] (fun s_ => [(17, .agg #[.int .i64 a0_0, .int .i64 a0_1])]) (fun s_ w' => Hu w w' [(g7, #[.int .i64 a3_0, .int .i64 a3_1], 23), (g6, #[.int .i64 a2_0, .int .i64 a2_1], 23), (g5, #[.int .i64 a1_0, .int .i64 a1_1], 23), (g4, #[.int .i64 a0_0, .int .i64 a0_1], 23)]) ?_ ?_
 ·clear HM hHeld
  rintro _ wJ hM_
  have HM := Aside0.mk hM_
  clear hM_
  have hHeld := (boxesU HM.out)
  refine norm_ (a' := ?_) ?_ ?_
  rotate_left
  ·simp only [putAll, Act.put, List.setIfInBounds_toArray, List.set_cons_zero, List.set_cons_succ]
   rfl
  refine three_ (i := 3) (j := 13) (k := 14) (Ni := some 19) (Nj := some 9) (Nk := some 10) #[true,true,true,true,true,false,true,false,false,false,false,false,false,false,false,false,false,false] #[true,true,true,false,true,false,true,false,false,false,false,false,false,true,false,false,false,false] #[true,true,true,false,true,false,true,false,false,false,false,false,false,false,true,false,false,false] rfl rfl rfl rfl rfl rfl (three_of HT_.out (by kernel_rfl)) (by decide) (by decide) (by decide) (fun K hK => ?_) (fun K hK => ?_) (fun K hK => ?_)
  ·skip
   refine goes_ Try.func5 (by kernel_rfl) rfl #[.agg #[.int .i64 a1_0, .int .i64 a1_1]] (by rfl) rfl rfl al ?_
   with_reducible refine (laws_toPoint.calls a1_0 a1_1 a1_0 a1_1 _ rfl).mono ?_
   rintro e wC ⟨rfl, hb⟩
   refine ⟨_, rfl, ?_⟩
   replace HM := Aside0.mk (HM.out.keep hb)
   clear hb
   refine hK.out _ _ (boxesU HM.out) (fun hHeld => ?_)
   clear hK K
   refine norm_ (a' := ?_) ?_ ?_
   rotate_left
   ·show Act.put _ (some 19) _ = _
    simp only [Act.put, List.setIfInBounds_toArray, List.set_cons_zero, List.set_cons_succ, i64_w, i32_w]
    rfl
   exact norm_ (by first | (simp only [putAll, Act.put, List.setIfInBounds_toArray, List.set_cons_zero, List.set_cons_succ]; done) | (simp only [putAll, Act.put, List.setIfInBounds_toArray, List.set_cons_zero, List.set_cons_succ]; rfl)) (hJr1_2 () _ HM.out)
  ·skip
   refine box_step ?hg (N := 9) ?hd (cs := #[.int .i64 0, .int .i64 0]) (t := 25) ?hr ?_; (case hd => rfl); (case hg => rfl); (case hr => first | (go_simp; done) | (go_simp; rfl))
   intro h1_13 hg wA hbox hb
   replace HM := Aside0.mk (HM.out.box hb hbox hg)
   clear hg hbox hb
   refine hK.out _ _ (boxesU HM.out.tl) (fun hHeld => ?_)
   clear hK K
   refine norm_ (a' := ?_) ?_ ?_
   rotate_left
   ·show Act.put _ (some 9) _ = _
    simp only [Act.put, List.setIfInBounds_toArray, List.set_cons_zero, List.set_cons_succ, i64_w, i32_w]
    rfl
   exact norm_ (by first | (simp only [putAll, Act.put, List.setIfInBounds_toArray, List.set_cons_zero, List.set_cons_succ]; done) | (simp only [putAll, Act.put, List.setIfInBounds_toArray, List.set_cons_zero, List.set_cons_succ]; rfl)) (hJr1_1_13 h1_13 _ HM.out)
  ·skip
   refine box_step ?hg (N := 10) ?hd (cs := #[.int .i64 0, .int .i64 0]) (t := 25) ?hr ?_; (case hd => rfl); (case hg => rfl); (case hr => first | (go_simp; done) | (go_simp; rfl))
   intro h1_14 hg wA hbox hb
   replace HM := Aside0.mk (HM.out.box hb hbox hg)
   clear hg hbox hb
   refine hK.out _ _ (boxesU HM.out.tl) (fun hHeld => ?_)
   clear hK K
   refine norm_ (a' := ?_) ?_ ?_
   rotate_left
   ·show Act.put _ (some 10) _ = _
    simp only [Act.put, List.setIfInBounds_toArray, List.set_cons_zero, List.set_cons_succ, i64_w, i32_w]
    rfl
   exact norm_ (by first | (simp only [putAll, Act.put, List.setIfInBounds_toArray, List.set_cons_zero, List.set_cons_succ]; done) | (simp only [putAll, Act.put, List.setIfInBounds_toArray, List.set_cons_zero, List.set_cons_succ]; rfl)) (hJr1_1_14 h1_14 _ HM.out)
 intro hJr1_1
 refine join_ (σ := Nat × Nat) 12 #[true,false,true,false,true,false,true,false,false,false,false,false,false,true,true,false,false,false] (fun s_ => [(9, .pointer (some ⟨s_.1, 0, none⟩)), (10, .pointer (some ⟨s_.2, 0, none⟩))]) (fun s_ w' => Hu w w' [(s_.1, #[.int .i64 0, .int .i64 0], 25), (s_.2, #[.int .i64 0, .int .i64 0], 25), (g7, #[.int .i64 a3_0, .int .i64 a3_1], 23), (g6, #[.int .i64 a2_0, .int .i64 a2_1], 23), (g5, #[.int .i64 a1_0, .int .i64 a1_1], 23), (g4, #[.int .i64 a0_0, .int .i64 a0_1], 23)]) ?_ ?_
 ·clear HM hHeld
  rintro ⟨h1_13, h1_14⟩ wJ hM_
  have HM := Aside0.mk hM_
  clear hM_
  have hHeld := (boxesU HM.out.tl.tl)
  refine norm_ (a' := ?_) ?_ ?_
  rotate_left
  ·simp only [putAll, Act.put, List.setIfInBounds_toArray, List.set_cons_zero, List.set_cons_succ]
   rfl
  refine one_ (i := 1) (N := some 17) #[true,true,true,false,true,false,true,false,false,false,false,false,false,true,true,false,false,false] rfl rfl (one_of HT_.out (by kernel_rfl)) (by decide) (fun K hK => ?_)
  ·skip
   refine goes_ Try.func5 (by kernel_rfl) rfl #[.agg #[.int .i64 a0_0, .int .i64 a0_1]] (by rfl) rfl rfl al ?_
   with_reducible refine (laws_toPoint.calls a0_0 a0_1 a0_0 a0_1 _ rfl).mono ?_
   rintro e wC ⟨rfl, hb⟩
   refine ⟨_, rfl, ?_⟩
   replace HM := Aside0.mk (HM.out.keep hb)
   clear hb
   refine hK.out _ _ (boxesU HM.out.tl.tl) (fun hHeld => ?_)
   clear hK K
   refine norm_ (a' := ?_) ?_ ?_
   rotate_left
   ·show Act.put _ (some 17) _ = _
    simp only [Act.put, List.setIfInBounds_toArray, List.set_cons_zero, List.set_cons_succ, i64_w, i32_w]
    rfl
   exact norm_ (by first | (simp only [putAll, Act.put, List.setIfInBounds_toArray, List.set_cons_zero, List.set_cons_succ]; done) | (simp only [putAll, Act.put, List.setIfInBounds_toArray, List.set_cons_zero, List.set_cons_succ]; rfl)) (hJr1_1_13_14 (h1_13, h1_14) _ HM.out)
 intro hJr1_0_13_14
 refine join_ (σ := Nat) 13 #[true,false,true,false,true,false,true,false,false,false,false,false,false,true,false,false,false,false] (fun s_ => [(9, .pointer (some ⟨s_, 0, none⟩))]) (fun s_ w' => Hu w w' [(s_, #[.int .i64 0, .int .i64 0], 25), (g7, #[.int .i64 a3_0, .int .i64 a3_1], 23), (g6, #[.int .i64 a2_0, .int .i64 a2_1], 23), (g5, #[.int .i64 a1_0, .int .i64 a1_1], 23), (g4, #[.int .i64 a0_0, .int .i64 a0_1], 23)]) ?_ ?_
 ·clear HM hHeld
  rintro h1_13 wJ hM_
  have HM := Aside0.mk hM_
  clear hM_
  have hHeld := (boxesU HM.out.tl)
  refine norm_ (a' := ?_) ?_ ?_
  rotate_left
  ·simp only [putAll, Act.put, List.setIfInBounds_toArray, List.set_cons_zero, List.set_cons_succ]
   rfl
  refine two_ (i := 1) (j := 14) (Ni := some 17) (Nj := some 10) #[true,true,true,false,true,false,true,false,false,false,false,false,false,true,false,false,false,false] #[true,false,true,false,true,false,true,false,false,false,false,false,false,true,true,false,false,false] rfl rfl rfl rfl (two_of HT_.out (by kernel_rfl)) (by decide) (by decide) (fun K hK => ?_) (fun K hK => ?_)
  ·skip
   refine goes_ Try.func5 (by kernel_rfl) rfl #[.agg #[.int .i64 a0_0, .int .i64 a0_1]] (by rfl) rfl rfl al ?_
   with_reducible refine (laws_toPoint.calls a0_0 a0_1 a0_0 a0_1 _ rfl).mono ?_
   rintro e wC ⟨rfl, hb⟩
   refine ⟨_, rfl, ?_⟩
   replace HM := Aside0.mk (HM.out.keep hb)
   clear hb
   refine hK.out _ _ (boxesU HM.out.tl) (fun hHeld => ?_)
   clear hK K
   refine norm_ (a' := ?_) ?_ ?_
   rotate_left
   ·show Act.put _ (some 17) _ = _
    simp only [Act.put, List.setIfInBounds_toArray, List.set_cons_zero, List.set_cons_succ, i64_w, i32_w]
    rfl
   exact norm_ (by first | (simp only [putAll, Act.put, List.setIfInBounds_toArray, List.set_cons_zero, List.set_cons_succ]; done) | (simp only [putAll, Act.put, List.setIfInBounds_toArray, List.set_cons_zero, List.set_cons_succ]; rfl)) (hJr1_1_13 h1_13 _ HM.out)
  ·skip
   refine box_step ?hg (N := 10) ?hd (cs := #[.int .i64 0, .int .i64 0]) (t := 25) ?hr ?_; (case hd => rfl); (case hg => rfl); (case hr => first | (go_simp; done) | (go_simp; rfl))
   intro h1_14 hg wA hbox hb
   replace HM := Aside0.mk (HM.out.box hb hbox hg)
   clear hg hbox hb
   replace HM := Aside0.mk HM.out.swap
   refine hK.out _ _ (boxesU HM.out.tl.tl) (fun hHeld => ?_)
   clear hK K
   refine norm_ (a' := ?_) ?_ ?_
   rotate_left
   ·show Act.put _ (some 10) _ = _
    simp only [Act.put, List.setIfInBounds_toArray, List.set_cons_zero, List.set_cons_succ, i64_w, i32_w]
    rfl
   exact norm_ (by first | (simp only [putAll, Act.put, List.setIfInBounds_toArray, List.set_cons_zero, List.set_cons_succ]; done) | (simp only [putAll, Act.put, List.setIfInBounds_toArray, List.set_cons_zero, List.set_cons_succ]; rfl)) (hJr1_0_13_14 (h1_13, h1_14) _ HM.out)
 intro hJr1_0_13
 refine join_ (σ := Nat) 13 #[true,false,true,false,true,false,true,false,false,false,false,false,false,false,true,false,false,false] (fun s_ => [(10, .pointer (some ⟨s_, 0, none⟩))]) (fun s_ w' => Hu w w' [(s_, #[.int .i64 0, .int .i64 0], 25), (g7, #[.int .i64 a3_0, .int .i64 a3_1], 23), (g6, #[.int .i64 a2_0, .int .i64 a2_1], 23), (g5, #[.int .i64 a1_0, .int .i64 a1_1], 23), (g4, #[.int .i64 a0_0, .int .i64 a0_1], 23)]) ?_ ?_
 ·clear HM hHeld
  rintro h1_14 wJ hM_
  have HM := Aside0.mk hM_
  clear hM_
  have hHeld := (boxesU HM.out.tl)
  refine norm_ (a' := ?_) ?_ ?_
  rotate_left
  ·simp only [putAll, Act.put, List.setIfInBounds_toArray, List.set_cons_zero, List.set_cons_succ]
   rfl
  refine two_ (i := 1) (j := 13) (Ni := some 17) (Nj := some 9) #[true,true,true,false,true,false,true,false,false,false,false,false,false,false,true,false,false,false] #[true,false,true,false,true,false,true,false,false,false,false,false,false,true,true,false,false,false] rfl rfl rfl rfl (two_of HT_.out (by kernel_rfl)) (by decide) (by decide) (fun K hK => ?_) (fun K hK => ?_)
  ·skip
   refine goes_ Try.func5 (by kernel_rfl) rfl #[.agg #[.int .i64 a0_0, .int .i64 a0_1]] (by rfl) rfl rfl al ?_
   with_reducible refine (laws_toPoint.calls a0_0 a0_1 a0_0 a0_1 _ rfl).mono ?_
   rintro e wC ⟨rfl, hb⟩
   refine ⟨_, rfl, ?_⟩
   replace HM := Aside0.mk (HM.out.keep hb)
   clear hb
   refine hK.out _ _ (boxesU HM.out.tl) (fun hHeld => ?_)
   clear hK K
   refine norm_ (a' := ?_) ?_ ?_
   rotate_left
   ·show Act.put _ (some 17) _ = _
    simp only [Act.put, List.setIfInBounds_toArray, List.set_cons_zero, List.set_cons_succ, i64_w, i32_w]
    rfl
   exact norm_ (by first | (simp only [putAll, Act.put, List.setIfInBounds_toArray, List.set_cons_zero, List.set_cons_succ]; done) | (simp only [putAll, Act.put, List.setIfInBounds_toArray, List.set_cons_zero, List.set_cons_succ]; rfl)) (hJr1_1_14 h1_14 _ HM.out)
  ·skip
   refine box_step ?hg (N := 9) ?hd (cs := #[.int .i64 0, .int .i64 0]) (t := 25) ?hr ?_; (case hd => rfl); (case hg => rfl); (case hr => first | (go_simp; done) | (go_simp; rfl))
   intro h1_13 hg wA hbox hb
   replace HM := Aside0.mk (HM.out.box hb hbox hg)
   clear hg hbox hb
   refine hK.out _ _ (boxesU HM.out.tl.tl) (fun hHeld => ?_)
   clear hK K
   refine norm_ (a' := ?_) ?_ ?_
   rotate_left
   ·show Act.put _ (some 9) _ = _
    simp only [Act.put, List.setIfInBounds_toArray, List.set_cons_zero, List.set_cons_succ, i64_w, i32_w]
    rfl
   exact norm_ (by first | (simp only [putAll, Act.put, List.setIfInBounds_toArray, List.set_cons_zero, List.set_cons_succ]; done) | (simp only [putAll, Act.put, List.setIfInBounds_toArray, List.set_cons_zero, List.set_cons_succ]; rfl)) (hJr1_0_13_14 (h1_13, h1_14) _ HM.out)
 intro hJr1_0_14
 refine three_ (i := 1) (j := 13) (k := 14) (Ni := some 17) (Nj := some 9) (Nk := some 10) #[true,true,true,false,true,false,true,false,false,false,false,false,false,false,false,false,false,false] #[true,false,true,false,true,false,true,false,false,false,false,false,false,true,false,false,false,false] #[true,false,true,false,true,false,true,false,false,false,false,false,false,false,true,false,false,false] rfl rfl rfl rfl rfl rfl (three_of HT_.out (by kernel_rfl)) (by decide) (by decide) (by decide) (fun K hK => ?_) (fun K hK => ?_) (fun K hK => ?_)
 ·skip
  refine goes_ Try.func5 (by kernel_rfl) rfl #[.agg #[.int .i64 a0_0, .int .i64 a0_1]] (by rfl) rfl rfl al ?_
  with_reducible refine (laws_toPoint.calls a0_0 a0_1 a0_0 a0_1 _ rfl).mono ?_
  rintro e wC ⟨rfl, hb⟩
  refine ⟨_, rfl, ?_⟩
  replace HM := Aside0.mk (HM.out.keep hb)
  clear hb
  refine hK.out _ _ (boxesU HM.out) (fun hHeld => ?_)
  clear hK K
  refine norm_ (a' := ?_) ?_ ?_
  rotate_left
  ·show Act.put _ (some 17) _ = _
   simp only [Act.put, List.setIfInBounds_toArray, List.set_cons_zero, List.set_cons_succ, i64_w, i32_w]
   rfl
  exact norm_ (by first | (simp only [putAll, Act.put, List.setIfInBounds_toArray, List.set_cons_zero, List.set_cons_succ]; done) | (simp only [putAll, Act.put, List.setIfInBounds_toArray, List.set_cons_zero, List.set_cons_succ]; rfl)) (hJr1_1 () _ HM.out)
 ·skip
  refine box_step ?hg (N := 9) ?hd (cs := #[.int .i64 0, .int .i64 0]) (t := 25) ?hr ?_; (case hd => rfl); (case hg => rfl); (case hr => first | (go_simp; done) | (go_simp; rfl))
  intro h1_13 hg wA hbox hb
  replace HM := Aside0.mk (HM.out.box hb hbox hg)
  clear hg hbox hb
  refine hK.out _ _ (boxesU HM.out.tl) (fun hHeld => ?_)
  clear hK K
  refine norm_ (a' := ?_) ?_ ?_
  rotate_left
  ·show Act.put _ (some 9) _ = _
   simp only [Act.put, List.setIfInBounds_toArray, List.set_cons_zero, List.set_cons_succ, i64_w, i32_w]
   rfl
  exact norm_ (by first | (simp only [putAll, Act.put, List.setIfInBounds_toArray, List.set_cons_zero, List.set_cons_succ]; done) | (simp only [putAll, Act.put, List.setIfInBounds_toArray, List.set_cons_zero, List.set_cons_succ]; rfl)) (hJr1_0_13 h1_13 _ HM.out)
 ·skip
  refine box_step ?hg (N := 10) ?hd (cs := #[.int .i64 0, .int .i64 0]) (t := 25) ?hr ?_; (case hd => rfl); (case hg => rfl); (case hr => first | (go_simp; done) | (go_simp; rfl))
  intro h1_14 hg wA hbox hb
  replace HM := Aside0.mk (HM.out.box hb hbox hg)
  clear hg hbox hb
  refine hK.out _ _ (boxesU HM.out.tl) (fun hHeld => ?_)
  clear hK K
  refine norm_ (a' := ?_) ?_ ?_
  rotate_left
  ·show Act.put _ (some 10) _ = _
   simp only [Act.put, List.setIfInBounds_toArray, List.set_cons_zero, List.set_cons_succ, i64_w, i32_w]
   rfl
  exact norm_ (by first | (simp only [putAll, Act.put, List.setIfInBounds_toArray, List.set_cons_zero, List.set_cons_succ]; done) | (simp only [putAll, Act.put, List.setIfInBounds_toArray, List.set_cons_zero, List.set_cons_succ]; rfl)) (hJr1_0_14 h1_14 _ HM.out)
def laws_FnExactCrossAt.f (k : Nat) (a0_0 : Int) (a0_1 : Int) (a1_0 : Int) (a1_1 : Int) (a2_0 : Int) (a2_1 : Int) (a3_0 : Int) (a3_1 : Int) : Option Bool := (spec_CrossAt.f k a0_0 a0_1 a1_0 a1_1 a2_0 a2_1 a3_0 a3_1).bind fun s => ((impl_CrossAt.f k a0_0 a0_1 a1_0 a1_1 a2_0 a2_1 a3_0 a3_1).bind fun i => (if laws_eqQuo.f i.1 i.2.1 s.1 s.2.1 = some true ∧ laws_eqQuo.f i.2.2.1 i.2.2.2.1 s.2.2.1 s.2.2.2.1 = some true ∧ i.2.2.2.2 = s.2.2.2.2 then some true else none))
theorem laws_FnExactCrossAt.mono : ∀ a0_0 a0_1 a1_0 a1_1 a2_0 a2_1 a3_0 a3_1 k, LeO (laws_FnExactCrossAt.f k a0_0 a0_1 a1_0 a1_1 a2_0 a2_1 a3_0 a3_1) (laws_FnExactCrossAt.f (k + 1) a0_0 a0_1 a1_0 a1_1 a2_0 a2_1 a3_0 a3_1) := by
 intro a0_0 a0_1 a1_0 a1_1 a2_0 a2_1 a3_0 a3_1 k
 unfold laws_FnExactCrossAt.f
 exact LeO.bind (spec_CrossAt.mono _ _ _ _ _ _ _ _ _) (fun _ => LeO.bind (impl_CrossAt.mono _ _ _ _ _ _ _ _ _) (fun _ => LeO.refl _))
theorem laws_FnExactCrossAt.calls (k : Nat) (a0_0 : Int) (a0_1 : Int) (a1_0 : Int) (a1_1 : Int) (a2_0 : Int) (a2_1 : Int) (a3_0 : Int) (a3_1 : Int) (r : Bool) (w : World) (h : laws_FnExactCrossAt.f k a0_0 a0_1 a1_0 a1_1 a2_0 a2_1 a3_0 a3_1 = some r) :
  Calls Try.prog 3 #[.agg #[.int .i64 a0_0, .int .i64 a0_1], .agg #[.int .i64 a1_0, .int .i64 a1_1], .agg #[.int .i64 a2_0, .int .i64 a2_1], .agg #[.int .i64 a3_0, .int .i64 a3_1]] w fun e w' => e = .returned (.bool r) ∧ Below w.heap.size w w' := by
 unfold laws_FnExactCrossAt.f at h
 obtain ⟨⟨x1, x2, y1, y2, z⟩, hs, h⟩ := Option.bind_eq_some_iff.1 h
 obtain ⟨⟨u1, u2, v1, v2, t⟩, hi, h⟩ := Option.bind_eq_some_iff.1 h
 have hh : (if laws_eqQuo.f u1 u2 x1 x2 = some true ∧ laws_eqQuo.f v1 v2 y1 y2 = some true ∧ t = z then some true else none) = some r := h
 by_cases hc : laws_eqQuo.f u1 u2 x1 x2 = some true ∧ laws_eqQuo.f v1 v2 y1 y2 = some true ∧ t = z
 ·rw [if_pos hc] at hh
  obtain ⟨c1, c2, c3⟩ := hc
  subst c3
  obtain rfl := Option.some.inj hh
  exact exactAt_calls k a0_0 a0_1 a1_0 a1_1 a2_0 a2_1 a3_0 a3_1 x1 x2 y1 y2 u1 u2 v1 v2 _ hs hi c1 c2 w
 ·rw [if_neg hc] at hh
  cases hh
def laws_FnExactCrossAt.Pure : Prop := ∀ (a0_0 : Int) (a0_1 : Int) (a1_0 : Int) (a1_1 : Int) (a2_0 : Int) (a2_1 : Int) (a3_0 : Int) (a3_1 : Int), (Lit.int .i64 a0_0).wf = true → (Lit.int .i64 a0_1).wf = true → (Lit.int .i64 a1_0).wf = true → (Lit.int .i64 a1_1).wf = true → (Lit.int .i64 a2_0).wf = true → (Lit.int .i64 a2_1).wf = true → (Lit.int .i64 a3_0).wf = true → (Lit.int .i64 a3_1).wf = true → ∃ k, laws_FnExactCrossAt.f k a0_0 a0_1 a1_0 a1_1 a2_0 a2_1 a3_0 a3_1 = some true
end Go.Proofs.Ytppfoebalhdibaa.P
-- squeezed

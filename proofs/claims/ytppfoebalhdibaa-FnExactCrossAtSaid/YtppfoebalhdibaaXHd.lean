import Derived.Test.YtppfoebalhdibaaXPair
set_option linter.unusedVariables false
namespace Go.Proofs.YtppfoebalhdibaaW.PrintWords
open Go.RowKit Go.Proofs.YtppfoebalhdibaaW.PrintLast Go.Proofs.YtppfoebalhdibaaW.PrintMore
def Hd (w W : World) (L : List (Nat × Array Value × TypeId)) : Prop := Below w.heap.size w W ∧ (∀ e ∈ L, w.heap.size ≤ e.1 ∧ W.heap[e.1]? = some (.cells e.2.1 e.2.2 (0, 0))) ∧ L.Pairwise (fun a b => b.1 < a.1)
section
variable {w W W' : World} {L : List (Nat × Array Value × TypeId)} {g : Nat} {cs : Array Value} {t : TypeId} {e1 e2 e3 e4 e5 e6 e7 e8 : Nat × Array Value × TypeId}
theorem Hd.nil (w : World) : Hd w w [] := ⟨Below.refl _ _, (fun _ h => by cases h), List.Pairwise.nil⟩
theorem Hd.keep (h : Hd w W L) (hb : Below W.heap.size W W') : Hd w W' L :=
  ⟨below_then h.1 h.1.size hb, fun e he => ⟨(h.2.1 e he).1, (hb.block _ (blk_lt (h.2.1 e he).2)).trans (h.2.1 e he).2⟩, h.2.2⟩
theorem Hd.drew (h : Hd w W L) : Hd w W.drew L := h.keep (below_drew1 (Below.refl _ _))
theorem Hd.box (h : Hd w W L) (hb : Below W.heap.size W W') (hg : W'.heap[g]? = some (.cells cs t (0, 0))) (he : g = W.heap.size) : Hd w W' ((g, cs, t) :: L) := by
  refine ⟨below_then h.1 h.1.size hb, fun e hm => ?_, List.pairwise_cons.2 ⟨fun e hm => ?_, h.2.2⟩⟩
  · rcases List.mem_cons.1 hm with rfl | hm
    · exact ⟨by rw [he]; exact h.1.size, hg⟩
    · exact (h.keep hb).2.1 e hm
  · have := blk_lt (h.2.1 e hm).2
    rw [he]; exact this
theorem Hd.alloc (h : Hd w W L) (cs : Array Value) (t : TypeId) : Hd w (W.alloc (.cells cs t (0, 0))) ((W.heap.size, cs, t) :: L) := h.box (below_alloc (Below.refl _ _) _) (heap_alloc_new W _) rfl
theorem Hd.allocDrew (h : Hd w W L) (cs : Array Value) (t : TypeId) : Hd w (W.drew.alloc (.cells cs t (0, 0))) ((W.heap.size, cs, t) :: L) := h.drew.alloc cs t
theorem Hd.tl (h : Hd w W (e1 :: L)) : Hd w W L := ⟨h.1, fun e he => h.2.1 e (List.mem_cons_of_mem _ he), (List.pairwise_cons.1 h.2.2).2⟩
theorem Hd.a0 (h : Hd w W ((g, cs, t) :: L)) : W.heap[g]? = some (.cells cs t (0, 0)) := (h.2.1 _ List.mem_cons_self).2
theorem Hd.a1 (h : Hd w W (e1 :: (g, cs, t) :: L)) : W.heap[g]? = some (.cells cs t (0, 0)) := h.tl.a0
theorem Hd.a2 (h : Hd w W (e1 :: e2 :: (g, cs, t) :: L)) : W.heap[g]? = some (.cells cs t (0, 0)) := h.tl.tl.a0
theorem Hd.a3 (h : Hd w W (e1 :: e2 :: e3 :: (g, cs, t) :: L)) : W.heap[g]? = some (.cells cs t (0, 0)) := h.tl.tl.tl.a0
theorem Hd.a4 (h : Hd w W (e1 :: e2 :: e3 :: e4 :: (g, cs, t) :: L)) : W.heap[g]? = some (.cells cs t (0, 0)) := h.tl.tl.tl.tl.a0
theorem Hd.a5 (h : Hd w W (e1 :: e2 :: e3 :: e4 :: e5 :: (g, cs, t) :: L)) : W.heap[g]? = some (.cells cs t (0, 0)) := h.tl.tl.tl.tl.tl.a0
theorem Hd.a6 (h : Hd w W (e1 :: e2 :: e3 :: e4 :: e5 :: e6 :: (g, cs, t) :: L)) : W.heap[g]? = some (.cells cs t (0, 0)) := h.tl.tl.tl.tl.tl.tl.a0
theorem Hd.a7 (h : Hd w W (e1 :: e2 :: e3 :: e4 :: e5 :: e6 :: e7 :: (g, cs, t) :: L)) : W.heap[g]? = some (.cells cs t (0, 0)) := h.tl.tl.tl.tl.tl.tl.tl.a0
theorem Hd.ne (h : Hd w W (e1 :: e2 :: L)) : e1.1 ≠ e2.1 ∧ e2.1 ≠ e1.1 := by
  have := (List.pairwise_cons.1 h.2.2).1 e2 List.mem_cons_self
  exact ⟨by omega, by omega⟩
theorem Hd.below (h : Hd w W (e1 :: L)) {e : Nat × Array Value × TypeId} (he : e ∈ L) : e.1 < e1.1 := (List.pairwise_cons.1 h.2.2).1 e he
theorem Hd.lt3 (h : Hd w W (e1 :: e2 :: e3 :: e4 :: L)) : e4.1 < e1.1 := h.below (List.mem_cons_of_mem _ (List.mem_cons_of_mem _ List.mem_cons_self))
theorem Hd.lt4 (h : Hd w W (e1 :: e2 :: e3 :: e4 :: e5 :: L)) : e5.1 < e1.1 := h.below (List.mem_cons_of_mem _ (List.mem_cons_of_mem _ (List.mem_cons_of_mem _ List.mem_cons_self)))
theorem Hd.lt5 (h : Hd w W (e1 :: e2 :: e3 :: e4 :: e5 :: e6 :: L)) : e6.1 < e1.1 := h.below (List.mem_cons_of_mem _ (List.mem_cons_of_mem _ (List.mem_cons_of_mem _ (List.mem_cons_of_mem _ List.mem_cons_self))))
theorem Hd.two (h : Hd w W (e1 :: e2 :: L)) : Hd w W [e1, e2] := by
  obtain ⟨h1, h2, h3⟩ := h
  refine ⟨h1, fun e he => h2 e ?_, List.pairwise_cons.2 ⟨fun b hb => ?_, List.pairwise_cons.2 ⟨fun _ h => (by cases h), List.Pairwise.nil⟩⟩⟩
  · rcases List.mem_cons.1 he with rfl | he
    · exact List.mem_cons_self
    · rw [List.mem_singleton] at he; subst he; exact List.mem_cons_of_mem _ List.mem_cons_self
  · rw [List.mem_singleton] at hb; subst hb; exact (List.pairwise_cons.1 h3).1 _ List.mem_cons_self
theorem Hd.put {pre post : List (Nat × Array Value × TypeId)} (h : Hd w W (pre ++ (g, cs, t) :: post)) (i : Nat) (v : Value) : Hd w (W.setCell ⟨g, i, none⟩ v) (pre ++ (g, cs.setIfInBounds i v, t) :: post) := by
  have hm : (g, cs, t) ∈ pre ++ (g, cs, t) :: post := List.mem_append_right _ List.mem_cons_self
  have hg := h.2.1 _ hm
  obtain ⟨p1, p2, p3⟩ := List.pairwise_append.1 h.2.2
  obtain ⟨p4, p5⟩ := List.pairwise_cons.1 p2
  refine ⟨h.1.setCell hg.1 v, fun e he => ?_, List.pairwise_append.2 ⟨p1, List.pairwise_cons.2 ⟨p4, p5⟩, fun a ha b hb => ?_⟩⟩
  · rcases List.mem_append.1 he with he | he
    · have h1 := p3 e he (g, cs, t) List.mem_cons_self
      have h2 := h.2.1 e (List.mem_append_left _ he)
      exact ⟨h2.1, blk_far (p := ⟨g, i, none⟩) h2.2 (by show e.1 ≠ g; simp only [] at h1; omega) v⟩
    · rcases List.mem_cons.1 he with rfl | he
      · exact ⟨hg.1, blk_put hg.2 i v rfl⟩
      · have h1 := p4 e he
        have h2 := h.2.1 e (List.mem_append_right _ (List.mem_cons_of_mem _ he))
        exact ⟨h2.1, blk_far (p := ⟨g, i, none⟩) h2.2 (by show e.1 ≠ g; simp only [] at h1; omega) v⟩
  · rcases List.mem_cons.1 hb with rfl | hb
    · exact p3 a ha (g, cs, t) List.mem_cons_self
    · exact p3 a ha b (List.mem_cons_of_mem _ hb)
theorem Hd.put2 {u v : Value} (h : Hd w W ((g, #[u, v], t) :: L)) (p q : Value) : Hd w ((W.setCell ⟨g, 0, none⟩ p).setCell ⟨g, 1, none⟩ q) ((g, #[p, q], t) :: L) := Hd.put (pre := []) (Hd.put (pre := []) h 0 p) 1 q
theorem Hd.put2_1 {u v : Value} (h : Hd w W (e1 :: (g, #[u, v], t) :: L)) (p q : Value) : Hd w ((W.setCell ⟨g, 0, none⟩ p).setCell ⟨g, 1, none⟩ q) (e1 :: (g, #[p, q], t) :: L) := Hd.put (pre := [e1]) (Hd.put (pre := [e1]) h 0 p) 1 q
theorem Hd.put2_4 {u v : Value} (h : Hd w W (e1 :: e2 :: e3 :: e4 :: (g, #[u, v], t) :: L)) (p q : Value) : Hd w ((W.setCell ⟨g, 0, none⟩ p).setCell ⟨g, 1, none⟩ q) (e1 :: e2 :: e3 :: e4 :: (g, #[p, q], t) :: L) := Hd.put (pre := [e1, e2, e3, e4]) (Hd.put (pre := [e1, e2, e3, e4]) h 0 p) 1 q
theorem Hd.put2_5 {u v : Value} (h : Hd w W (e1 :: e2 :: e3 :: e4 :: e5 :: (g, #[u, v], t) :: L)) (p q : Value) : Hd w ((W.setCell ⟨g, 0, none⟩ p).setCell ⟨g, 1, none⟩ q) (e1 :: e2 :: e3 :: e4 :: e5 :: (g, #[p, q], t) :: L) := Hd.put (pre := [e1, e2, e3, e4, e5]) (Hd.put (pre := [e1, e2, e3, e4, e5]) h 0 p) 1 q
end
theorem Hd.lines {w W W' : World} {L : List (Nat × Array Value × TypeId)} {g1 g2 : Nat} {c1 c2 : Array Value} {t : TypeId} (h : Hd w W L) (k : Hd W W' [(g2, c2, t), (g1, c1, t)]) : Hd w W' ((g2, c2, t) :: (g1, c1, t) :: L) := by
  obtain ⟨k1, k2, k3⟩ := k
  have hk := h.keep k1
  have b2 := k2 (g2, c2, t) List.mem_cons_self
  have b1 := k2 (g1, c1, t) (List.mem_cons_of_mem _ List.mem_cons_self)
  have lt : ∀ e ∈ L, e.1 < W.heap.size := fun e he => blk_lt (h.2.1 e he).2
  have hz := h.1.size
  refine ⟨hk.1, fun e he => ?_, List.pairwise_cons.2 ⟨fun e he => ?_, List.pairwise_cons.2 ⟨fun e he => ?_, h.2.2⟩⟩⟩
  · rcases List.mem_cons.1 he with rfl | he
    · exact ⟨Nat.le_trans hz b2.1, b2.2⟩
    · rcases List.mem_cons.1 he with rfl | he
      · exact ⟨Nat.le_trans hz b1.1, b1.2⟩
      · exact hk.2.1 e he
  · rcases List.mem_cons.1 he with rfl | he
    · exact (List.pairwise_cons.1 k3).1 _ List.mem_cons_self
    · exact Nat.lt_of_lt_of_le (lt e he) b2.1
  · exact Nat.lt_of_lt_of_le (lt e he) b1.1
structure Up (w w' : World) : Prop where
  up : ∀ (g : Nat) (o : Obj), w.heap[g]? = some o → w'.heap[g]? = some o
theorem Up.refl (w : World) : Up w w := ⟨fun _ _ h => h⟩
theorem Up.drewN {w w' : World} (h : Up w w') (n : Nat) : Up w (w'.drewN n) := ⟨fun g o k => blk_drewN (h.up g o k) n⟩
theorem Up.drew {w w' : World} (h : Up w w') : Up w w'.drew := ⟨fun g o k => blk_drew (h.up g o k)⟩
theorem Up.alloc {w w' : World} (h : Up w w') (x : Obj) : Up w (w'.alloc x) := ⟨fun g o k => blk_alloc (h.up g o k) x⟩
theorem bu {w w' : World} {g : Nat} {o : Obj} (h : w.heap[g]? = some o) (u : Up w w' := by ((with_reducible repeat (first | refine Up.drewN ?_ _ | refine Up.drew ?_ | refine Up.alloc ?_ _)); exact Up.refl _)) : w'.heap[g]? = some o := u.up _ _ h
structure Uf (g : Nat) (w w' : World) : Prop where
  uf : ∀ (o : Obj), w.heap[g]? = some o → w'.heap[g]? = some o
theorem Uf.refl (g : Nat) (w : World) : Uf g w w := ⟨fun _ h => h⟩
theorem Uf.drewN {g : Nat} {w w' : World} (h : Uf g w w') (n : Nat) : Uf g w (w'.drewN n) := ⟨fun o k => blk_drewN (h.uf o k) n⟩
theorem Uf.drew {g : Nat} {w w' : World} (h : Uf g w w') : Uf g w w'.drew := ⟨fun o k => blk_drew (h.uf o k)⟩
theorem Uf.alloc {g : Nat} {w w' : World} (h : Uf g w w') (x : Obj) : Uf g w (w'.alloc x) := ⟨fun o k => blk_alloc (h.uf o k) x⟩
theorem Uf.far {g g' : Nat} {w w' : World} {i : Nat} (h : Uf g w w') (hn : Aside0 (g ≠ g')) (v : Value) : Uf g w (w'.setCell ⟨g', i, none⟩ v) := ⟨fun o k => (Below.heap_setCell _ _ _ _ (show g ≠ g' from hn.out)).trans (h.uf o k)⟩
theorem bf {w w' : World} {g : Nat} {o : Obj} (h : w.heap[g]? = some o) (u : Uf g w w' := by ((with_reducible repeat (first | refine Uf.drewN ?_ _ | refine Uf.drew ?_ | refine Uf.alloc ?_ _ | refine Uf.far ?_ (by with_reducible assumption) _)); with_reducible exact Uf.refl _ _)) : w'.heap[g]? = some o := u.uf _ h
structure Lo (v w w' : World) : Prop where
  lo : Below v.heap.size v w → Below v.heap.size v w'
theorem Lo.refl (v w : World) : Lo v w w := ⟨fun h => h⟩
theorem Lo.drewN {v w w' : World} (h : Lo v w w') (m : Nat) : Lo v w (w'.drewN m) := ⟨fun k => pw_below_drewN (h.lo k) m⟩
theorem Lo.drew {v w w' : World} (h : Lo v w w') : Lo v w w'.drew := ⟨fun k => below_drew1 (h.lo k)⟩
theorem Lo.alloc {v w w' : World} (h : Lo v w w') (x : Obj) : Lo v w (w'.alloc x) := ⟨fun k => below_alloc (h.lo k) x⟩
theorem Lo.set {v w w' : World} {g i : Nat} (h : Lo v w w') (hn : Aside0 (v.heap.size ≤ g)) (x : Value) : Lo v w (w'.setCell ⟨g, i, none⟩ x) := ⟨fun k => (h.lo k).setCell (p := ⟨g, i, none⟩) hn.out x⟩
theorem lb {v w w' : World} (h : Below v.heap.size v w) (u : Lo v w w' := by ((with_reducible repeat (first | refine Lo.drewN ?_ _ | refine Lo.drew ?_ | refine Lo.alloc ?_ _ | refine Lo.set ?_ (by with_reducible assumption) _)); with_reducible exact Lo.refl _ _)) : Below v.heap.size v w' := u.lo h
theorem al {P : Prop} (h : P := by (try simp only [List.map_toArray, List.map_cons, List.map_nil]); first | done | rfl | (simp only [List.length_drop, List.length_take]; rfl)) : P := h
theorem er {P : Prop} (h : P := by first | rfl | (simp [errW_none, errW_some] <;> rfl) | (simp [*, errW_none, errW_some] <;> rfl)) : P := h
structure Ax (w w' : World) : Prop where
  ax : Below w.heap.size w w'
theorem Ax.refl (w : World) : Ax w w := ⟨Below.refl _ _⟩
theorem Ax.drewN {w w' : World} (h : Ax w w') (n : Nat) : Ax w (w'.drewN n) := ⟨pw_below_drewN h.ax n⟩
theorem Ax.drew {w w' : World} (h : Ax w w') : Ax w w'.drew := ⟨below_drew1 h.ax⟩
theorem Ax.alloc {w w' : World} (h : Ax w w') (x : Obj) : Ax w (w'.alloc x) := ⟨below_alloc h.ax x⟩
section
variable {α : Type} {d : Kd α} {e base n : Nat} {ok : Nat → Prop} {w w' : World} {v : Value} {xs : List α} {A : Option Addr}
end
theorem bp {w W1 W2 W' : World} {g : Nat} {a b p q : Value} {t : TypeId} (h : w.heap[g]? = some (.cells #[a, b] t (0, 0))) (u3 : Up (W2.setCell ⟨g, 1, none⟩ q) W' := by ((with_reducible repeat (first | refine Up.drewN ?_ _ | refine Up.drew ?_ | refine Up.alloc ?_ _)); with_reducible exact Up.refl _)) (u2 : Up (W1.setCell ⟨g, 0, none⟩ p) W2 := by ((with_reducible repeat (first | refine Up.drewN ?_ _ | refine Up.drew ?_ | refine Up.alloc ?_ _)); with_reducible exact Up.refl _)) (u1 : Up w W1 := by ((with_reducible repeat (first | refine Up.drewN ?_ _ | refine Up.drew ?_ | refine Up.alloc ?_ _)); with_reducible exact Up.refl _)) : W'.heap[g]? = some (.cells #[p, q] t (0, 0)) :=
  u3.up _ _ (blk_put (u2.up _ _ (blk_put (u1.up _ _ h) 0 p (cs' := #[p, b]) rfl)) 1 q rfl)
theorem bz {P : Prop} (h : P := by repeat (first | (with_reducible first | exact HB.out | apply below_alloc | apply pw_below_drewN | apply below_drew1 | refine below_set ?_ (IsS93.ge HI0.out)) | exact HB.out)) : P := h
section
variable {P : Program} {o : Oper} {ops : Array Oper} {rest : List Oper} {Q : Exit → Act → World → Prop} {a : Act} {W : World}
theorem bx_ (N : Tmp) {cs : Array Value} {t : TypeId} (h : ∀ g, g = W.heap.size → ∀ w1, w1.heap[g]? = some (.cells cs t (0, 0)) → Below W.heap.size W w1 → wpList P ops Q rest (a.put o.dst (.pointer (some ⟨g, 0, none⟩))) w1) (hd : o.dst = some N := by rfl) (hgd : o.guard = none := by rfl)
    (hrun : (execOp a.eval o).run P W = .ok (.value (.pointer (some ⟨W.heap.size, 0, none⟩))) (W.alloc (.cells cs t (0, 0))) := by first | (go_simp; done) | (go_simp; rfl)) : wpList P ops Q (o :: rest) a W := box_event hgd hd hrun h
end
section
variable {P : Program} {ops : Array Oper} {Q : Exit → Act → World → Prop} {md : Region.Mode} {S : World → Prop} {ds : List Nat} {T : Bool × List (List Nat × List Nat)} {oi : Oper} {v : Value} {fuel : Nat} {l l' : Array Bool} {a a' : Act} {w : World}
theorem pq_ (i : Nat) (N : Option Tmp) (h : wpAnyLast P md ops Q S ds fuel l' a' w) (HT : Aside0 (rtab md ops = T) := by with_reducible exact HT_) (hl : l.setIfInBounds i true = l' := by (simp only [List.setIfInBounds_toArray, List.set_cons_zero, List.set_cons_succ]; rfl)) (hi : ops[i]? = some oi := by rfl) (hN : oi.dst = N := by rfl)
    (hc : anyT T l.toList l'.toList i = true := by kernel_rfl) (hw : Region.wanted oi (yielded ops a.tmps) = true := by rfl) (hr : ∀ w', (execOp a.eval oi).run P w' = .ok (.value v) w' := by (intro w'; go_simp; with_reducible rfl))
    (hQ : ∀ c a w, Q (.panic c) (a.put oi.dst v) w → Q (.panic c) a w := by exact fun _ _ _ h => h) (ha : a.put N v = a' := by (simp only [Act.put, List.setIfInBounds_toArray, List.set_cons_zero, List.set_cons_succ, i64_w, i32_w]; rfl)) : wpAnyLast P md ops Q S ds (fuel + 1) l a w :=
  pure_ l' hi hN (any_of HT.out hc) hQ (Or.inl ⟨hw, hr⟩) ha h
theorem tq_ {B : List Nat} (i : Nat) (N : Option Tmp) (h : wpAnyLast P md ops Q S ds fuel l' a' w) (HT : Aside0 (rtab md ops = T) := by with_reducible exact HT_) (HW : Aside0 (waitsOk T.2 B = true) := by with_reducible exact HW_) (hl : l.setIfInBounds i true = l' := by (simp only [List.setIfInBounds_toArray, List.set_cons_zero, List.set_cons_succ]; rfl)) (hi : ops[i]? = some oi := by rfl) (hN : oi.dst = N := by rfl)
    (hc : takeW T B ds l.toList l'.toList i = true := by kernel_rfl) (hw : Region.wanted oi (yielded ops a.tmps) = true := by rfl) (hr : ∀ w', S w' → (execOp a.eval oi).run P w' = .ok (.value v) w' := by (intro w' hs; (repeat (obtain ⟨s_, hs⟩ := hs)); go_simp; with_reducible rfl))
    (hQ : ∀ c a w, Q (.panic c) (a.put oi.dst v) w → Q (.panic c) a w := by exact fun _ _ _ h => h) (hS : S w := by with_reducible exact hHeld) (ha : a.put N v = a' := by (simp only [Act.put, List.setIfInBounds_toArray, List.set_cons_zero, List.set_cons_succ, i64_w, i32_w]; rfl)) : wpAnyLast P md ops Q S ds (fuel + 1) l a w :=
  take_ l' hi hN (take_ofW HT.out HW.out hc) hQ (Or.inl ⟨hw, hr⟩) hS ha h
end
end Go.Proofs.YtppfoebalhdibaaW.PrintWords

import Derived.Test.YtolkcbnolbkgmaaXPair
set_option linter.unusedVariables false
namespace Go.Proofs.YtolkcbnolbkgmaaW.PrintWords
open Go.RowKit Go.Proofs.YtolkcbnolbkgmaaW.PrintLast Go.Proofs.YtolkcbnolbkgmaaW.PrintMore
def Hd (w W : World) (L : List (Nat × Array Value × TypeId)) : Prop := Below w.heap.size w W ∧ (∀ e ∈ L, w.heap.size ≤ e.1 ∧ W.heap[e.1]? = some (.cells e.2.1 e.2.2 (0, 0))) ∧ L.Pairwise (fun a b => b.1 < a.1)
section
variable {w W W' : World} {L : List (Nat × Array Value × TypeId)} {g : Nat} {cs : Array Value} {t : TypeId} {e1 e2 e3 e4 e5 e6 e7 e8 : Nat × Array Value × TypeId}
theorem Hd.nil (w : World) : Hd w w [] := ⟨Below.refl _ _, (fun _ h => by cases h), List.Pairwise.nil⟩
theorem Hd.keep (h : Hd w W L) (hb : Below W.heap.size W W') : Hd w W' L :=
  ⟨below_then h.1 h.1.size hb, fun e he => ⟨(h.2.1 e he).1, (hb.block _ (blk_lt (h.2.1 e he).2)).trans (h.2.1 e he).2⟩, h.2.2⟩
theorem Hd.drew (h : Hd w W L) : Hd w W.drew L := h.keep (below_drew1 (Below.refl _ _))
theorem Hd.box (h : Hd w W L) (hb : Below W.heap.size W W') (hg : W'.heap[g]? = some (.cells cs t (0, 0))) (he : g = W.heap.size) : Hd w W' ((g, cs, t) :: L) := by
  refine ⟨below_then h.1 h.1.size hb, fun e hm => ?_, List.pairwise_cons.2 ⟨fun e hm => ?_, h.2.2⟩⟩
  · rcases List.mem_cons.1 hm with rfl | hm
    · exact ⟨by rw [he]; exact h.1.size, hg⟩
    · exact (h.keep hb).2.1 e hm
  · have := blk_lt (h.2.1 e hm).2
    rw [he]; exact this
theorem Hd.alloc (h : Hd w W L) (cs : Array Value) (t : TypeId) : Hd w (W.alloc (.cells cs t (0, 0))) ((W.heap.size, cs, t) :: L) := h.box (below_alloc (Below.refl _ _) _) (heap_alloc_new W _) rfl
theorem Hd.tl (h : Hd w W (e1 :: L)) : Hd w W L := ⟨h.1, fun e he => h.2.1 e (List.mem_cons_of_mem _ he), (List.pairwise_cons.1 h.2.2).2⟩
theorem Hd.a0 (h : Hd w W ((g, cs, t) :: L)) : W.heap[g]? = some (.cells cs t (0, 0)) := (h.2.1 _ List.mem_cons_self).2
theorem Hd.a1 (h : Hd w W (e1 :: (g, cs, t) :: L)) : W.heap[g]? = some (.cells cs t (0, 0)) := h.tl.a0
theorem Hd.a2 (h : Hd w W (e1 :: e2 :: (g, cs, t) :: L)) : W.heap[g]? = some (.cells cs t (0, 0)) := h.tl.tl.a0
theorem Hd.a3 (h : Hd w W (e1 :: e2 :: e3 :: (g, cs, t) :: L)) : W.heap[g]? = some (.cells cs t (0, 0)) := h.tl.tl.tl.a0
theorem Hd.a4 (h : Hd w W (e1 :: e2 :: e3 :: e4 :: (g, cs, t) :: L)) : W.heap[g]? = some (.cells cs t (0, 0)) := h.tl.tl.tl.tl.a0
theorem Hd.ne (h : Hd w W (e1 :: e2 :: L)) : e1.1 ≠ e2.1 ∧ e2.1 ≠ e1.1 := by
  have := (List.pairwise_cons.1 h.2.2).1 e2 List.mem_cons_self
  exact ⟨by omega, by omega⟩
theorem Hd.below (h : Hd w W (e1 :: L)) {e : Nat × Array Value × TypeId} (he : e ∈ L) : e.1 < e1.1 := (List.pairwise_cons.1 h.2.2).1 e he
theorem Hd.two (h : Hd w W (e1 :: e2 :: L)) : Hd w W [e1, e2] := by
  obtain ⟨h1, h2, h3⟩ := h
  refine ⟨h1, fun e he => h2 e ?_, List.pairwise_cons.2 ⟨fun b hb => ?_, List.pairwise_cons.2 ⟨fun _ h => (by cases h), List.Pairwise.nil⟩⟩⟩
  · rcases List.mem_cons.1 he with rfl | he
    · exact List.mem_cons_self
    · rw [List.mem_singleton] at he; subst he; exact List.mem_cons_of_mem _ List.mem_cons_self
  · rw [List.mem_singleton] at hb; subst hb; exact (List.pairwise_cons.1 h3).1 _ List.mem_cons_self
theorem Hd.put {pre post : List (Nat × Array Value × TypeId)} (h : Hd w W (pre ++ (g, cs, t) :: post)) (i : Nat) (v : Value) : Hd w (W.setCell ⟨g, i, none⟩ v) (pre ++ (g, cs.setIfInBounds i v, t) :: post) := by
  have hm : (g, cs, t) ∈ pre ++ (g, cs, t) :: post := List.mem_append_right _ List.mem_cons_self
  have hg := h.2.1 _ hm
  obtain ⟨p1, p2, p3⟩ := List.pairwise_append.1 h.2.2
  obtain ⟨p4, p5⟩ := List.pairwise_cons.1 p2
  refine ⟨h.1.setCell hg.1 v, fun e he => ?_, List.pairwise_append.2 ⟨p1, List.pairwise_cons.2 ⟨p4, p5⟩, fun a ha b hb => ?_⟩⟩
  · rcases List.mem_append.1 he with he | he
    · have h1 := p3 e he (g, cs, t) List.mem_cons_self
      have h2 := h.2.1 e (List.mem_append_left _ he)
      exact ⟨h2.1, blk_far (p := ⟨g, i, none⟩) h2.2 (by show e.1 ≠ g; simp only [] at h1; omega) v⟩
    · rcases List.mem_cons.1 he with rfl | he
      · exact ⟨hg.1, blk_put hg.2 i v rfl⟩
      · have h1 := p4 e he
        have h2 := h.2.1 e (List.mem_append_right _ (List.mem_cons_of_mem _ he))
        exact ⟨h2.1, blk_far (p := ⟨g, i, none⟩) h2.2 (by show e.1 ≠ g; simp only [] at h1; omega) v⟩
  · rcases List.mem_cons.1 hb with rfl | hb
    · exact p3 a ha (g, cs, t) List.mem_cons_self
    · exact p3 a ha b (List.mem_cons_of_mem _ hb)
theorem Hd.put2 {u v : Value} (h : Hd w W ((g, #[u, v], t) :: L)) (p q : Value) : Hd w ((W.setCell ⟨g, 0, none⟩ p).setCell ⟨g, 1, none⟩ q) ((g, #[p, q], t) :: L) := Hd.put (pre := []) (Hd.put (pre := []) h 0 p) 1 q
end
structure Up (w w' : World) : Prop where
  up : ∀ (g : Nat) (o : Obj), w.heap[g]? = some o → w'.heap[g]? = some o
theorem Up.refl (w : World) : Up w w := ⟨fun _ _ h => h⟩
theorem Up.drewN {w w' : World} (h : Up w w') (n : Nat) : Up w (w'.drewN n) := ⟨fun g o k => blk_drewN (h.up g o k) n⟩
theorem Up.drew {w w' : World} (h : Up w w') : Up w w'.drew := ⟨fun g o k => blk_drew (h.up g o k)⟩
theorem Up.alloc {w w' : World} (h : Up w w') (x : Obj) : Up w (w'.alloc x) := ⟨fun g o k => blk_alloc (h.up g o k) x⟩
structure Uf (g : Nat) (w w' : World) : Prop where
  uf : ∀ (o : Obj), w.heap[g]? = some o → w'.heap[g]? = some o
theorem Uf.refl (g : Nat) (w : World) : Uf g w w := ⟨fun _ h => h⟩
theorem Uf.drewN {g : Nat} {w w' : World} (h : Uf g w w') (n : Nat) : Uf g w (w'.drewN n) := ⟨fun o k => blk_drewN (h.uf o k) n⟩
theorem Uf.drew {g : Nat} {w w' : World} (h : Uf g w w') : Uf g w w'.drew := ⟨fun o k => blk_drew (h.uf o k)⟩
theorem Uf.alloc {g : Nat} {w w' : World} (h : Uf g w w') (x : Obj) : Uf g w (w'.alloc x) := ⟨fun o k => blk_alloc (h.uf o k) x⟩
theorem Uf.far {g g' : Nat} {w w' : World} {i : Nat} (h : Uf g w w') (hn : Aside0 (g ≠ g')) (v : Value) : Uf g w (w'.setCell ⟨g', i, none⟩ v) := ⟨fun o k => (Below.heap_setCell _ _ _ _ (show g ≠ g' from hn.out)).trans (h.uf o k)⟩
theorem bf {w w' : World} {g : Nat} {o : Obj} (h : w.heap[g]? = some o) (u : Uf g w w' := by ((with_reducible repeat (first | refine Uf.drewN ?_ _ | refine Uf.drew ?_ | refine Uf.alloc ?_ _ | refine Uf.far ?_ (by with_reducible assumption) _)); with_reducible exact Uf.refl _ _)) : w'.heap[g]? = some o := u.uf _ h
structure Lo (v w w' : World) : Prop where
  lo : Below v.heap.size v w → Below v.heap.size v w'
theorem Lo.refl (v w : World) : Lo v w w := ⟨fun h => h⟩
theorem Lo.drewN {v w w' : World} (h : Lo v w w') (m : Nat) : Lo v w (w'.drewN m) := ⟨fun k => pw_below_drewN (h.lo k) m⟩
theorem Lo.drew {v w w' : World} (h : Lo v w w') : Lo v w w'.drew := ⟨fun k => below_drew1 (h.lo k)⟩
theorem Lo.alloc {v w w' : World} (h : Lo v w w') (x : Obj) : Lo v w (w'.alloc x) := ⟨fun k => below_alloc (h.lo k) x⟩
theorem Lo.set {v w w' : World} {g i : Nat} (h : Lo v w w') (hn : Aside0 (v.heap.size ≤ g)) (x : Value) : Lo v w (w'.setCell ⟨g, i, none⟩ x) := ⟨fun k => (h.lo k).setCell (p := ⟨g, i, none⟩) hn.out x⟩
theorem lb {v w w' : World} (h : Below v.heap.size v w) (u : Lo v w w' := by ((with_reducible repeat (first | refine Lo.drewN ?_ _ | refine Lo.drew ?_ | refine Lo.alloc ?_ _ | refine Lo.set ?_ (by with_reducible assumption) _)); with_reducible exact Lo.refl _ _)) : Below v.heap.size v w' := u.lo h
theorem al {P : Prop} (h : P := by (try simp only [List.map_toArray, List.map_cons, List.map_nil]); first | done | rfl | (simp only [List.length_drop, List.length_take]; rfl)) : P := h
theorem er {P : Prop} (h : P := by first | rfl | (simp [errW_none, errW_some] <;> rfl) | (simp [*, errW_none, errW_some] <;> rfl)) : P := h
end Go.Proofs.YtolkcbnolbkgmaaW.PrintWords

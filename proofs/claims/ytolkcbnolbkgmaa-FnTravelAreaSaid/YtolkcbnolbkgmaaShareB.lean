import Derived.Test.YtolkcbnolbkgmaaShareA
set_option linter.unusedVariables false
set_option linter.unusedSimpArgs false
namespace Go.Proofs.Ytolkcbnolbkgmaa.Sh
open Go.RowKit Go.Proofs.Ytolkcbnolbkgmaa.P Go.Proofs.YtolkcbnolbkgmaaW.PrintWords Go.Proofs.YtolkcbnolbkgmaaW.PrintLast Go.Proofs.YtolkcbnolbkgmaaW.PrintMore Go.Proofs.Ytolkcbnolbkgmaa.Ev
abbrev gt (l : List Int) (i : Nat) : Int := l.getD i 0
theorem gt_set {l : List Int} {k i : Nat} {v : Int} (hk : k < l.length) : gt (l.set k v) i = if i = k then v else gt l i := by
  unfold gt
  simp only [List.getD_eq_getElem?_getD, List.getElem?_set]
  by_cases h : i = k
  · subst h; simp [hk]
  · rw [if_neg h, if_neg (fun e => h e.symm)]
theorem sum_set : ∀ {l : List Int} {k : Nat} {v : Int}, k < l.length → (l.set k v).sum = l.sum - gt l k + v
  | x :: l, 0, v, _ => by simp [gt]; omega
  | x :: l, k + 1, v, h => by
    have := sum_set (l := l) (k := k) (v := v) (by simpa using h)
    simp only [List.set_cons_succ, List.sum_cons, this]
    simp only [gt, List.getD_cons_succ]; omega
def best (l : List Int) : Nat → Nat
  | 0 => 0
  | n + 1 => if gt l (best l n) < gt l n then n else best l n
theorem best_all (l : List Int) : ∀ n, (∀ i, i < n → gt l i ≤ gt l (best l n)) ∧ (∀ i, i < best l n → gt l i < gt l (best l n)) ∧ (best l n < n ∨ best l n = 0)
  | 0 => ⟨fun i h => by omega, fun i h => by simp [best] at h, .inr rfl⟩
  | n + 1 => by
    obtain ⟨h1, h2, h3⟩ := best_all l n
    unfold best
    split
    · rename_i h
      refine ⟨fun i hi => ?_, fun i hi => ?_, by omega⟩
      · rcases Nat.lt_or_ge i n with hl | hl
        · have := h1 i hl; omega
        · obtain rfl : i = n := by omega
          omega
      · have := h1 i hi; omega
    · rename_i h
      refine ⟨fun i hi => ?_, h2, by omega⟩
      rcases Nat.lt_or_ge i n with hl | hl
      · exact h1 i hl
      · obtain rfl : i = n := by omega
        omega
def serve : Nat → List Int → List Int → List Int
  | 0, out, _ => out
  | t + 1, out, r => serve t (out.set (best r r.length) (gt out (best r r.length) + 1)) (r.set (best r r.length) (-1))
structure St (ls : List Int) (a S : Int) (t : Nat) (out r : List Int) : Prop where
  lo : out.length = ls.length
  lr : r.length = ls.length
  sum : out.sum + t = a
  pos : 0 < S
  tot : ls.sum = S
  each : ∀ i, i < ls.length → (0 ≤ gt r i ∧ gt r i < S ∧ gt out i * S - a * gt ls i = - gt r i) ∨ (gt r i = -1 ∧ 0 ≤ gt out i * S - a * gt ls i ∧ gt out i * S - a * gt ls i < S)
theorem sum_ge {S a : Int} : ∀ {out ls : List Int}, out.length = ls.length → (∀ i, i < ls.length → 0 ≤ gt out i * S - a * gt ls i) → 0 ≤ out.sum * S - a * ls.sum
  | [], [], _, _ => by simp
  | [], _ :: _, h, _ => by simp at h
  | _ :: _, [], h, _ => by simp at h
  | x :: out, y :: ls, h, hi => by
    have h1 := sum_ge (S := S) (a := a) (out := out) (ls := ls) (by simpa using h) (fun i hl => by simpa [gt] using hi (i + 1) (by simpa using hl))
    have h2 := hi 0 (by simp)
    simp only [gt, List.getD_cons_zero] at h2
    simp only [List.sum_cons, Int.add_mul, Int.mul_add]
    omega
theorem St.ne {ls out r : List Int} {a S : Int} {t : Nat} (h : St ls a S t out r) : 0 < ls.length := by
  rcases Nat.eq_zero_or_pos ls.length with h0 | h0
  · have := List.length_eq_zero_iff.1 h0
    have h1 := h.tot; have h2 := h.pos
    subst this; simp at h1; omega
  · exact h0
theorem St.bst {ls out r : List Int} {a S : Int} {t : Nat} (h : St ls a S (t + 1) out r) : best r r.length < ls.length ∧ 0 < gt r (best r r.length) := by
  obtain ⟨b1, b2, b3⟩ := best_all r r.length
  have hn := h.ne
  have hl := h.lr
  refine ⟨by omega, ?_⟩
  rcases Int.lt_or_le 0 (gt r (Sh.best r r.length)) with h0 | h0
  · exact h0
  · exfalso
    have h1 := sum_ge (S := S) (a := a) h.lo (fun i hi => by
      have := b1 i (by omega)
      rcases h.each i hi with ⟨e1, e2, e3⟩ | ⟨e1, e2, e3⟩ <;> omega)
    have h2 := h.sum
    have h3 := h.pos
    rw [h.tot, show out.sum = a - ((t : Int) + 1) by push_cast at h2; omega, Int.sub_mul, Int.add_mul] at h1
    have h4 : 0 ≤ (t : Int) * S := Int.mul_nonneg (by omega) (by omega)
    omega
theorem St.step {ls out r : List Int} {a S : Int} {t : Nat} (h : St ls a S (t + 1) out r) : St ls a S t (out.set (best r r.length) (gt out (best r r.length) + 1)) (r.set (best r r.length) (-1)) := by
  obtain ⟨hb, hp⟩ := h.bst
  generalize best r r.length = k at hb hp ⊢
  have h1 := h.lo; have h2 := h.lr
  refine ⟨by rw [List.length_set]; exact h.lo, by rw [List.length_set]; exact h.lr, ?_, h.pos, h.tot, fun i hi => ?_⟩
  · rw [sum_set (by omega)]; have := h.sum; push_cast at this; omega
  · rw [gt_set (by omega), gt_set (by omega)]
    by_cases hk : i = k
    · subst hk
      rw [if_pos rfl, if_pos rfl]
      right
      rcases h.each i hi with ⟨e1, e2, e3⟩ | ⟨e1, e2, e3⟩
      · rw [Int.add_mul, Int.one_mul]; omega
      · omega
    · rw [if_neg hk, if_neg hk]; exact h.each i hi
theorem serve_St {ls : List Int} {a S : Int} : ∀ {t : Nat} {out r : List Int}, St ls a S t out r → ∃ r', St ls a S 0 (serve t out r) r'
  | 0, out, r, h => ⟨r, h⟩
  | t + 1, out, r, h => by unfold serve; exact serve_St h.step
theorem bound {x S a A l : Int} (hS : 0 < S) (h0 : 0 ≤ l) (h1 : l ≤ S) (ha : -A ≤ a ∧ a ≤ A) (hx : -S < x * S - a * l ∧ x * S - a * l < S) : -A ≤ x ∧ x ≤ A := by
  have h2 : a * l ≤ A * l := Int.mul_le_mul_of_nonneg_right ha.2 h0
  have h3 : -A * l ≤ a * l := Int.mul_le_mul_of_nonneg_right ha.1 h0
  have hA : 0 ≤ A := by omega
  have h4 : A * l ≤ A * S := Int.mul_le_mul_of_nonneg_left h1 hA
  have h5 : -A * l = -(A * l) := Int.neg_mul _ _
  constructor
  · have : (-A - 1) * S < x * S := by rw [Int.sub_mul, Int.neg_mul]; omega
    have := Int.lt_of_mul_lt_mul_right this (by omega)
    omega
  · have : x * S < (A + 1) * S := by rw [Int.add_mul]; omega
    have := Int.lt_of_mul_lt_mul_right this (by omega)
    omega
theorem St.near {ls out r : List Int} {a S A : Int} {t : Nat} (h : St ls a S t out r) (hl : ∀ i, i < ls.length → 0 ≤ gt ls i ∧ gt ls i ≤ S) (ha : -A ≤ a ∧ a ≤ A) {i : Nat} (hi : i < ls.length) : (-S < gt out i * S - a * gt ls i ∧ gt out i * S - a * gt ls i < S) ∧ -A ≤ gt out i ∧ gt out i ≤ A := by
  have h1 : -S < gt out i * S - a * gt ls i ∧ gt out i * S - a * gt ls i < S := by
    have := h.pos
    rcases h.each i hi with ⟨e1, e2, e3⟩ | ⟨e1, e2, e3⟩ <;> omega
  exact ⟨h1, bound h.pos (hl i hi).1 (hl i hi).2 ha h1⟩
structure Inv (r : List Int) (L : List Rem) : Prop where
  mem : ∀ x ∈ L, 0 ≤ x.f0 ∧ x.f0.toNat < r.length ∧ gt r x.f0.toNat = x.f1 ∧ 0 ≤ x.f1
  all : ∀ i, i < r.length → 0 ≤ gt r i → ∃ x ∈ L, x.f0 = (i : Int)
  nd : (L.map (·.f0)).Nodup
  hp : Heap L L.length 0
theorem Inv.top {r : List Int} {L : List Rem} (h : Inv r L) (hb : best r r.length < r.length) (hp : 0 < gt r (best r r.length)) : 0 < L.length ∧ (shGet L 0).f0 = (best r r.length : Int) := by
  obtain ⟨b1, b2, b3⟩ := best_all r r.length
  obtain ⟨y, hy, ey⟩ := h.all _ hb (by omega)
  have hL : 0 < L.length := List.length_pos_of_mem hy
  refine ⟨hL, ?_⟩
  have ht := get_mem (L := L) (i := 0) hL
  have hle := top_le h.hp hy
  obtain ⟨x1, x2, x3, x4⟩ := h.mem _ ht
  obtain ⟨y1, y2, y3, y4⟩ := h.mem _ hy
  have e1 : y.f0.toNat = best r r.length := by omega
  rw [e1] at y3
  have c1 := b1 _ x2
  have c2 := b2 (shGet L 0).f0.toNat
  unfold le at hle
  omega
theorem Inv.pop {r : List Int} {L : List Rem} {n : Nat} (h : Inv r L) (hn : L.length = n + 1) : Inv (r.set (shGet L 0).f0.toNat (-1)) ((shPop L).take n) := by
  obtain ⟨p1, p2, p3⟩ := pop_all hn h.hp
  have ht := get_mem (L := L) (i := 0) (by omega)
  obtain ⟨x1, x2, x3, x4⟩ := h.mem _ ht
  have hnd := (p2.map (·.f0)).nodup_iff.1 h.nd
  rw [List.map_append, List.nodup_append] at hnd
  have hne : ∀ y ∈ (shPop L).take n, y.f0 ≠ (shGet L 0).f0 := fun y hy => hnd.2.2 _ (List.mem_map_of_mem hy) _ (by simp)
  refine ⟨fun y hy => ?_, fun i hi h0 => ?_, hnd.1, p3⟩
  · obtain ⟨y1, y2, y3, y4⟩ := h.mem y (p2.mem_iff.2 (List.mem_append_left _ hy))
    have := hne y hy
    refine ⟨y1, by rw [List.length_set]; exact y2, ?_, y4⟩
    rw [gt_set x2, if_neg (by omega)]
    exact y3
  · rw [List.length_set] at hi
    rw [gt_set x2] at h0
    split at h0
    · omega
    · rename_i hk
      obtain ⟨y, hy, ey⟩ := h.all i hi h0
      rcases List.mem_append.1 (p2.mem_iff.1 hy) with hm | hm
      · exact ⟨y, hm, ey⟩
      · rw [List.mem_singleton] at hm
        subst hm
        omega
theorem serve_eq {ls : List Int} {a S : Int} (hl : ∀ i, i < ls.length → 0 ≤ gt ls i ∧ gt ls i ≤ S) (ha : -10000000 ≤ a ∧ a ≤ 10000000) : ∀ {t : Nat} {out r : List Int} {L : List Rem}, St ls a S t out r → Inv r L → shServe t out L = some (serve t out r)
  | 0, out, r, L, _, _ => rfl
  | t + 1, out, r, L, h, hI => by
    obtain ⟨hb, hp⟩ := h.bst
    have h1 := h.lo; have h2 := h.lr
    obtain ⟨hL, htop⟩ := hI.top (by omega) hp
    obtain ⟨n, hn⟩ : ∃ n, L.length = n + 1 := ⟨L.length - 1, by omega⟩
    have hpop := hI.pop hn
    obtain ⟨p1, p2, p3⟩ := pop_all hn hI.hp
    have hnear := (h.near hl ha hb).2
    have ih := serve_eq hl ha h.step (by rw [htop] at hpop; exact hpop)
    unfold shServe serve
    rw [if_neg (fun e => by rw [e] at hL; simp at hL), hn, Nat.add_sub_cancel, p1, htop, if_pos (by omega), if_pos (by omega), show rd out (best r r.length : Int) = gt out (best r r.length) from rd_nat _ _, Int.toNat_natCast, w64 (by omega) (by omega)]
    exact ih
end Go.Proofs.Ytolkcbnolbkgmaa.Sh

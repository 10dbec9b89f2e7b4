import Derived.Test.YtolkcbnolbkgmaaEv
import Derived.Test.YtolkcbnolbkgmaaPx5
set_option linter.unusedVariables false
set_option linter.unusedSimpArgs false
namespace Go.Proofs.Ytolkcbnolbkgmaa.Sh
open Go.RowKit Go.Proofs.Ytolkcbnolbkgmaa.P Go.Proofs.YtolkcbnolbkgmaaW.PrintWords Go.Proofs.YtolkcbnolbkgmaaW.PrintLast Go.Proofs.YtolkcbnolbkgmaaW.PrintMore Go.Proofs.Ytolkcbnolbkgmaa.Ev
abbrev Rem := S82
def le (a b : Rem) : Prop := b.f1 < a.f1 ∨ (a.f1 = b.f1 ∧ a.f0 ≤ b.f0)
theorem le_trans {a b c : Rem} (h : le a b) (h' : le b c) : le a c := by unfold le at *; omega
theorem le_refl (a : Rem) : le a a := by unfold le; omega
theorem less_iff (a b : Rem) : shLess a b = true ↔ ¬ le b a := by
  unfold shLess le
  by_cases h : a.f1 = b.f1
  · rw [if_neg (by simpa using h)]; simp only [decide_eq_true_eq]; omega
  · rw [if_pos h]; simp only [decide_eq_true_eq]; omega
theorem less_le {a b : Rem} (h : shLess a b = true) : le a b := by have := (less_iff a b).1 h; unfold le at *; omega
theorem not_less {a b : Rem} (h : ¬ shLess a b = true) : le b a := by rw [less_iff] at h; exact Classical.not_not.1 h
theorem get_swap {L : List Rem} {i j m : Nat} (hi : i < L.length) (hj : j < L.length) : shGet (shSwap L i j) m = if m = j then shGet L i else if m = i then shGet L j else shGet L m := by
  unfold shSwap shGet
  simp only [List.getD_eq_getElem?_getD, List.getElem?_set, List.length_set]
  by_cases h1 : m = j
  · subst h1; simp [hj, hi]
  · rw [if_neg h1, if_neg (fun h => h1 h.symm)]
    by_cases h2 : m = i
    · subst h2; simp [hi, hj]
    · rw [if_neg h2, if_neg (fun h => h2 h.symm)]
theorem swap_perm {L : List Rem} {i j : Nat} (hi : i < L.length) (hj : j < L.length) : (shSwap L i j).Perm L := by
  have h : shSwap L i j = (L.set i L[j]).set j L[i] := by unfold shSwap shGet; simp [List.getD_eq_getElem?_getD, hi, hj]
  rw [h]; exact List.set_set_perm hi hj
theorem kid_lt {L : List Rem} {i n : Nat} (h : 2 * i + 1 < n) : shKid L i n < n ∧ (shKid L i n = 2 * i + 1 ∨ shKid L i n = 2 * i + 2) := by
  unfold shKid; split <;> omega
theorem kid_le {L : List Rem} {i n c : Nat} (hc : c < n) (h : c = 2 * i + 1 ∨ c = 2 * i + 2) : le (shGet L (shKid L i n)) (shGet L c) := by
  unfold shKid
  split
  · rename_i hk
    rcases h with rfl | rfl
    · exact less_le hk.2
    · exact le_refl _
  · rename_i hk
    rcases h with rfl | rfl
    · exact le_refl _
    · exact not_less (fun h => hk ⟨hc, h⟩)
theorem down_perm : ∀ (d : Nat) (L : List Rem) (i n : Nat), n ≤ L.length → (shDown d L i n).Perm L
  | 0, L, _, _, _ => List.Perm.refl _
  | d + 1, L, i, n, hn => by
    rw [shDown_succ]
    split
    · rename_i h
      split
      · have hk := kid_lt (L := L) h
        exact (down_perm d _ _ n (by rw [shSwap_len]; exact hn)).trans (swap_perm (by omega) (by omega))
      · exact List.Perm.refl _
    · exact List.Perm.refl _
theorem down_ge : ∀ (d : Nat) (L : List Rem) (i n m : Nat), n ≤ L.length → n ≤ m → shGet (shDown d L i n) m = shGet L m
  | 0, _, _, _, _, _, _ => rfl
  | d + 1, L, i, n, m, hn, hm => by
    rw [shDown_succ]
    split
    · rename_i h
      split
      · have hk := kid_lt (L := L) h
        rw [down_ge d _ _ n m (by rw [shSwap_len]; exact hn) hm, get_swap (by omega) (by omega), if_neg (by omega), if_neg (by omega)]
      · rfl
    · rfl
def Heap (L : List Rem) (n lo : Nat) : Prop := ∀ j, 1 ≤ j → j < n → lo ≤ (j - 1) / 2 → le (shGet L ((j - 1) / 2)) (shGet L j)
def HeapBut (L : List Rem) (n lo i : Nat) : Prop := (∀ j, 1 ≤ j → j < n → lo ≤ (j - 1) / 2 → (j - 1) / 2 ≠ i → le (shGet L ((j - 1) / 2)) (shGet L j)) ∧
  (∀ j, 1 ≤ i → lo ≤ (i - 1) / 2 → 1 ≤ j → j < n → (j - 1) / 2 = i → le (shGet L ((i - 1) / 2)) (shGet L j))
theorem down_heap (n lo : Nat) : ∀ (d : Nat) (L : List Rem) (i : Nat), n ≤ L.length → n ≤ d + i → lo ≤ i → HeapBut L n lo i → Heap (shDown d L i n) n lo
  | 0, L, i, _, hd, _, h => fun j h1 h2 h3 => h.1 j h1 h2 h3 (by omega)
  | d + 1, L, i, hn, hd, hlo, h => by
    rw [shDown_succ]
    split
    · rename_i h1
      have hk := kid_lt (L := L) h1
      have hkl : ∀ c, 1 ≤ c → c < n → (c - 1) / 2 = i → le (shGet L (shKid L i n)) (shGet L c) := fun c h0 hc hp => kid_le hc (by omega)
      generalize shKid L i n = k at hk hkl ⊢
      split
      · rename_i hl
        have hle := less_le hl
        refine down_heap n lo d _ k (by rw [shSwap_len]; exact hn) (by omega) (by omega) ⟨fun j j1 j2 j3 j4 => ?_, fun j _ _ j1 j2 j3 => ?_⟩
        · rw [get_swap (by omega) (by omega), get_swap (by omega) (by omega), if_neg j4]
          by_cases c1 : (j - 1) / 2 = i
          · rw [if_pos c1]
            split
            · exact hle
            · rw [if_neg (by omega)]; exact hkl j j1 j2 c1
          · rw [if_neg c1]
            split
            · rename_i e; subst e; exact absurd (by omega) c1
            · split
              · rename_i e; subst e
                exact h.2 k (by omega) j3 (by omega) (by omega) (by omega)
              · exact h.1 j j1 j2 j3 c1
        · rw [get_swap (by omega) (by omega), get_swap (by omega) (by omega), if_neg (by omega), if_pos (by omega), if_neg (by omega), if_neg (by omega)]
          have := h.1 j j1 j2 (by omega) (by omega)
          rwa [j3] at this
      · rename_i hl
        have hle := not_less hl
        intro j j1 j2 j3
        by_cases c1 : (j - 1) / 2 = i
        · rw [c1]; exact le_trans hle (hkl j j1 j2 c1)
        · exact h.1 j j1 j2 j3 c1
    · intro j j1 j2 j3
      exact h.1 j j1 j2 j3 (by omega)
theorem init_perm : ∀ (i : Nat) (L : List Rem), (shInit i L).Perm L
  | 0, L => List.Perm.refl _
  | i + 1, L => by
    unfold shInit
    exact (init_perm i _).trans (down_perm _ _ _ _ (Nat.le_refl _))
theorem init_heap : ∀ (i : Nat) (L : List Rem), Heap L L.length i → Heap (shInit i L) L.length 0
  | 0, L, h => h
  | i + 1, L, h => by
    unfold shInit
    have := init_heap i (shDown L.length L i L.length) (by
      rw [shDown_len]
      exact down_heap L.length i L.length L i (Nat.le_refl _) (by omega) (Nat.le_refl _) ⟨fun j j1 j2 j3 j4 => h j j1 j2 (by omega), fun j j1 j2 => by omega⟩)
    rwa [shDown_len] at this
theorem init_all (L : List Rem) : Heap (shInit (L.length / 2) L) (shInit (L.length / 2) L).length 0 := by
  rw [shInit_len]
  exact init_heap _ L (fun j j1 j2 j3 => by omega)
theorem heap_top {L : List Rem} {n : Nat} (h : Heap L n 0) : ∀ j, j < n → le (shGet L 0) (shGet L j) := by
  intro j
  induction j using Nat.strongRecOn with
  | ind j ih =>
    intro hj
    by_cases h0 : j = 0
    · subst h0; exact le_refl _
    · exact le_trans (ih ((j - 1) / 2) (by omega) (by omega)) (h j (by omega) hj (by omega))
theorem get_mem {L : List Rem} {i : Nat} (h : i < L.length) : shGet L i ∈ L := by unfold shGet; rw [List.getD_eq_getElem?_getD, List.getElem?_eq_getElem h]; exact List.getElem_mem h
theorem mem_get {L : List Rem} {x : Rem} (h : x ∈ L) : ∃ i, i < L.length ∧ shGet L i = x := by
  obtain ⟨i, hi, rfl⟩ := List.mem_iff_getElem.1 h
  exact ⟨i, hi, by unfold shGet; rw [List.getD_eq_getElem?_getD, List.getElem?_eq_getElem hi]; rfl⟩
theorem top_le {L : List Rem} (h : Heap L L.length 0) {x : Rem} (hx : x ∈ L) : le (shGet L 0) x := by
  obtain ⟨i, hi, rfl⟩ := mem_get hx
  exact heap_top h i hi
theorem pop_all {L : List Rem} {n : Nat} (hn : L.length = n + 1) (h : Heap L L.length 0) : shGet (shPop L) n = shGet L 0 ∧ L.Perm ((shPop L).take n ++ [shGet L 0]) ∧ Heap ((shPop L).take n) ((shPop L).take n).length 0 := by
  have hl := shPop_len L
  have hg : shGet (shPop L) n = shGet L 0 := by
    unfold shPop
    rw [hn, Nat.add_sub_cancel, down_ge _ _ _ _ _ (by rw [shSwap_len]; omega) (Nat.le_refl _), get_swap (by omega) (by omega), if_pos rfl]
  have hp : (shPop L).Perm L := by
    unfold shPop
    exact (down_perm _ _ _ _ (by rw [shSwap_len]; omega)).trans (swap_perm (by omega) (by omega))
  have hs : shPop L = (shPop L).take n ++ [shGet L 0] := by
    rw [← hg]
    have h1 : n < (shPop L).length := by omega
    have h2 : shGet (shPop L) n = (shPop L)[n] := by unfold shGet; rw [List.getD_eq_getElem?_getD, List.getElem?_eq_getElem h1]; rfl
    rw [h2, ← List.take_succ_eq_append_getElem h1, List.take_of_length_le (by omega)]
  refine ⟨hg, by rw [← hs]; exact hp.symm, ?_⟩
  have hlt : ((shPop L).take n).length = n := by rw [List.length_take]; omega
  rw [hlt]
  intro j j1 j2 j3
  have ht : ∀ m, m < n → shGet ((shPop L).take n) m = shGet (shPop L) m := fun m hm => by unfold shGet; rw [List.getD_eq_getElem?_getD, List.getD_eq_getElem?_getD, List.getElem?_take, if_pos hm]
  rw [ht _ (by omega), ht _ j2]
  unfold shPop
  rw [hn, Nat.add_sub_cancel]
  refine down_heap n 0 (n + 1) _ 0 (by rw [shSwap_len]; omega) (by omega) (Nat.le_refl _) ⟨fun m m1 m2 m3 m4 => ?_, fun m m1 => by omega⟩ j j1 j2 j3
  rw [get_swap (by omega) (by omega), get_swap (by omega) (by omega), if_neg (by omega), if_neg m4, if_neg (by omega), if_neg (by omega)]
  exact h m m1 (by omega) (by omega)
end Go.Proofs.Ytolkcbnolbkgmaa.Sh

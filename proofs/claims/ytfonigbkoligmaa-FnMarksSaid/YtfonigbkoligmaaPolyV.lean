import Derived.Test.YtfonigbkoligmaaPolyA
set_option linter.unusedVariables false
set_option linter.unusedSimpArgs false
namespace Go.Proofs.Ytfonigbkoligmaa.Cr
open Go.RowKit Go.Proofs.Ytfonigbkoligmaa.P Go.Proofs.YtfonigbkoligmaaW.PrintWords Go.Proofs.YtfonigbkoligmaaW.PrintLast Go.Proofs.YtfonigbkoligmaaW.PrintMore Go.Proofs.Ytfonigbkoligmaa.Ev
theorem Meet.symm {ax ay bx by_ cx cy dx dy : Int} (h : Meet ax ay bx by_ cx cy dx dy) : Meet cx cy dx dy ax ay bx by_ := by
  rcases h with h | h | h | h | ⟨h, h'⟩
  · exact Or.inr (Or.inr (Or.inl h))
  · exact Or.inr (Or.inr (Or.inr (Or.inl h)))
  · exact Or.inl h
  · exact Or.inr (Or.inl h)
  · exact Or.inr (Or.inr (Or.inr (Or.inr ⟨h', h⟩)))
theorem On.start (ax ay bx by_ : Int) : On ax ay bx by_ ax ay := by
  refine ⟨?_, ?_, ?_⟩
  · unfold cr; grind
  · unfold Bt; omega
  · unfold Bt; omega
def pairOk (X Y : Nat → Int) (n i k : Nat) : Prop :=
  if k = i + 1 then ¬ (X k = X i ∧ Y k = Y i) ∧ ¬ (X ((k + 1) % n) = X k ∧ Y ((k + 1) % n) = Y k) ∧ ¬ On (X i) (Y i) (X ((i + 1) % n)) (Y ((i + 1) % n)) (X ((k + 1) % n)) (Y ((k + 1) % n)) ∧ ¬ On (X k) (Y k) (X ((k + 1) % n)) (Y ((k + 1) % n)) (X i) (Y i)
  else if (k + 1) % n = i then ¬ On (X k) (Y k) (X ((k + 1) % n)) (Y ((k + 1) % n)) (X ((i + 1) % n)) (Y ((i + 1) % n)) ∧ ¬ On (X i) (Y i) (X ((i + 1) % n)) (Y ((i + 1) % n)) (X k) (Y k)
  else ¬ Meet (X i) (Y i) (X ((i + 1) % n)) (Y ((i + 1) % n)) (X k) (Y k) (X ((k + 1) % n)) (Y ((k + 1) % n))
theorem fold_iff {X Y : Nat → Int} {n i : Nat} (hn : 0 < n) (hi : i < n) (hv : ∀ i, i < n → okP (X i) (Y i) = true) : foldB X Y n i = false ↔ ¬ On (X i) (Y i) (X ((i + 1) % n)) (Y ((i + 1) % n)) (X ((i + 2) % n)) (Y ((i + 2) % n)) ∧ ¬ On (X ((i + 1) % n)) (Y ((i + 1) % n)) (X ((i + 2) % n)) (Y ((i + 2) % n)) (X i) (Y i) := by
  have h1 := hv _ (Nat.mod_lt (i + 1) hn)
  have h2 := hv _ (Nat.mod_lt (i + 2) hn)
  unfold foldB
  rw [onB_eq (hv i hi) h1 h2, onB_eq h1 h2 (hv i hi), Bool.or_eq_false_iff, decide_eq_false_iff_not, decide_eq_false_iff_not]
theorem side_iff {X Y : Nat → Int} {n i j : Nat} (hn : 0 < n) (hi : i < n) (hj : j < n) (hv : ∀ i, i < n → okP (X i) (Y i) = true) : sideB X Y n i j = false ↔ ¬ Meet (X i) (Y i) (X ((i + 1) % n)) (Y ((i + 1) % n)) (X j) (Y j) (X ((j + 1) % n)) (Y ((j + 1) % n)) := by
  have h1 := hv _ (Nat.mod_lt (i + 1) hn)
  have h2 := hv _ (Nat.mod_lt (j + 1) hn)
  unfold sideB
  rw [meetB_eq (hv i hi) h1 (hv j hj) h2, decide_eq_false_iff_not]
theorem simp_pairs {X Y : Nat → Int} {n : Nat} (hn : 3 ≤ n) (hv : ∀ i, i < n → okP (X i) (Y i) = true) : Simp X Y n ↔ ∀ i k, i < k → k < n → pairOk X Y n i k := by
  constructor
  · rintro ⟨h1, h2⟩ i k hik hk
    have hi : i < n := by omega
    have hf := fun i (hi : i < n) => (fold_iff (by omega) hi hv).1 (h2 i hi).1
    unfold pairOk
    split
    · rename_i e
      subst e
      have e1 : (i + 1) % n = i + 1 := Nat.mod_eq_of_lt hk
      have a1 := h1 i hi 1 (by omega) (by omega)
      have a2 := h1 (i + 1) hk 1 (by omega) (by omega)
      have a3 := hf i hi
      rw [e1] at a1 a3
      rw [e1]
      exact ⟨a1, a2, a3.1, a3.2⟩
    · split
      · rename_i e0 e
        have hk1 : k + 1 = n := by
          by_cases h : k + 1 = n
          · exact h
          · rw [Nat.mod_eq_of_lt (by omega)] at e; omega
        have hi0 : i = 0 := by rw [hk1, Nat.mod_self] at e; omega
        subst hi0
        have a3 := hf k hk
        rw [e, show (k + 2) % n = 1 by rw [show k + 2 = 1 + n by omega, Nat.add_mod_right, Nat.mod_eq_of_lt (by omega)]] at a3
        rw [e, show (0 + 1) % n = 1 from Nat.mod_eq_of_lt (by omega)]
        exact a3
      · rename_i e0 e
        have := (h2 i hi).2 (k - i) (by omega) (by
          by_cases h : k + 1 = n
          · have : i ≠ 0 := fun h0 => e (by rw [h, Nat.mod_self, h0])
            omega
          · omega)
        rw [show i + (k - i) = k by omega, Nat.mod_eq_of_lt hk] at this
        exact (side_iff (by omega) hi hk hv).1 this
  · intro h
    have hd : ∀ i k, i < k → k < n → ¬ (X k = X i ∧ Y k = Y i) := by
      intro i k hik hk hs
      have hp := h i k hik hk
      unfold pairOk at hp
      split at hp
      · exact hp.1 hs
      · split at hp
        · rename_i e0 e
          have hk1 : k + 1 = n := by
            by_cases h : k + 1 = n
            · exact h
            · rw [Nat.mod_eq_of_lt (by omega)] at e; omega
          have hi0 : i = 0 := by rw [hk1, Nat.mod_self] at e; omega
          subst hi0
          have hq := h (k - 1) k (by omega) hk
          unfold pairOk at hq
          rw [if_pos (by omega), e] at hq
          exact hq.2.1 ⟨hs.1.symm, hs.2.symm⟩
        · refine hp (Or.inl ?_)
          rw [hs.1, hs.2]
          exact On.start _ _ _ _
    refine ⟨fun i hi j h0 hj hs => ?_, fun i hi => ⟨(fold_iff (by omega) hi hv).2 ?_, fun j h0 hj => ?_⟩⟩
    · by_cases hlt : i + j < n
      · rw [Nat.mod_eq_of_lt hlt] at hs
        exact hd i (i + j) (by omega) hlt hs
      · rw [Nat.mod_eq_sub_mod (by omega), Nat.mod_eq_of_lt (by omega)] at hs
        exact hd (i + j - n) i (by omega) hi ⟨hs.1.symm, hs.2.symm⟩
    · by_cases hlt : i + 1 < n
      · have hp := h i (i + 1) (by omega) hlt
        unfold pairOk at hp
        rw [if_pos rfl] at hp
        have e1 : (i + 1) % n = i + 1 := Nat.mod_eq_of_lt hlt
        rw [e1] at hp ⊢
        exact ⟨hp.2.2.1, hp.2.2.2⟩
      · have hi1 : i + 1 = n := by omega
        have hp := h 0 i (by omega) hi
        unfold pairOk at hp
        rw [if_neg (by omega), if_pos (by rw [hi1, Nat.mod_self]), hi1, Nat.mod_self, show (0 + 1) % n = 1 from Nat.mod_eq_of_lt (by omega)] at hp
        rw [hi1, Nat.mod_self, show (i + 2) % n = 1 by rw [show i + 2 = 1 + n by omega, Nat.add_mod_right, Nat.mod_eq_of_lt (by omega)]]
        exact hp
    · by_cases hlt : i + j < n
      · rw [Nat.mod_eq_of_lt hlt]
        have hp := h i (i + j) (by omega) hlt
        unfold pairOk at hp
        rw [if_neg (by omega), if_neg (by
          intro e
          by_cases h : i + j + 1 = n
          · rw [h, Nat.mod_self] at e; omega
          · rw [Nat.mod_eq_of_lt (by omega)] at e; omega)] at hp
        exact (side_iff (by omega) hi hlt hv).2 hp
      · have hk : i + j - n < i := by omega
        rw [Nat.mod_eq_sub_mod (by omega), Nat.mod_eq_of_lt (by omega)]
        have hp := h (i + j - n) i hk hi
        unfold pairOk at hp
        rw [if_neg (by omega), if_neg (by
          intro e
          by_cases h : i + 1 = n
          · rw [h, Nat.mod_self] at e; omega
          · rw [Nat.mod_eq_of_lt (by omega)] at e; omega)] at hp
        exact (side_iff (by omega) hi (by omega) hv).2 (fun hm => hp hm.symm)
end Go.Proofs.Ytfonigbkoligmaa.Cr

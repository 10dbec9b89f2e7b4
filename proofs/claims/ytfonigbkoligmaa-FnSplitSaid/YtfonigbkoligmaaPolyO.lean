import Derived.Test.YtfonigbkoligmaaPolyC
import Derived.Test.YtfonigbkoligmaaPx8
set_option linter.unusedVariables false
set_option linter.unusedSimpArgs false
namespace Go.Proofs.Ytfonigbkoligmaa.Cr
open Go.RowKit Go.Proofs.Ytfonigbkoligmaa.P Go.Proofs.YtfonigbkoligmaaW.PrintWords Go.Proofs.YtfonigbkoligmaaW.PrintLast Go.Proofs.YtfonigbkoligmaaW.PrintMore Go.Proofs.Ytfonigbkoligmaa.Ev
theorem corners_apart {l : List S33} (h : okB l = true) {p q : Nat} (hp : p < l.length) (hq : q < l.length) (hx : plX l p = plX l q) (hy : plY l p = plY l q) : p = q := by
  have hs : Simp (plX l) (plY l) l.length := by
    unfold okB at h
    rw [Bool.and_eq_true, smB_iff] at h
    exact h.2
  rcases Nat.lt_trichotomy p q with h1 | h1 | h1
  · exfalso
    refine hs.1 p hp (q - p) (by omega) (by omega) ?_
    rw [show p + (q - p) = q by omega, Nat.mod_eq_of_lt hq]
    exact ⟨hx.symm, hy.symm⟩
  · exact h1
  · exfalso
    refine hs.1 q hq (p - q) (by omega) (by omega) ?_
    rw [show q + (p - q) = p by omega, Nat.mod_eq_of_lt hp]
    exact ⟨hx, hy⟩
theorem partA_rd {l : List S33} {i j m : Nat} (hj : j < l.length) (hm : i + m ≤ j) : rd_T33 (partA l i j) (m : Int) = rd_T33 l ((i + m : Nat) : Int) := by
  unfold rd_T33 partA
  rw [Int.toNat_natCast, Int.toNat_natCast, List.getD_eq_getElem?_getD, List.getD_eq_getElem?_getD, List.getElem?_drop, List.getElem?_take, if_pos (by omega)]
theorem partB_rd {l : List S33} {i j m : Nat} (hij : i < j) (hj : j < l.length) (hm : m ≤ l.length - j + i) : rd_T33 (partB l i j) (m : Int) = rd_T33 l (((j + m) % l.length : Nat) : Int) := by
  unfold rd_T33 partB
  rw [Int.toNat_natCast, Int.toNat_natCast, List.getD_eq_getElem?_getD, List.getD_eq_getElem?_getD]
  by_cases h : m < l.length - j
  · rw [List.getElem?_append_left (by rw [List.length_drop]; exact h), List.getElem?_drop, Nat.mod_eq_of_lt (by omega)]
  · rw [List.getElem?_append_right (by rw [List.length_drop]; omega), List.length_drop, List.getElem?_take, if_pos (by omega), Nat.mod_eq_sub_mod (by omega), Nat.mod_eq_of_lt (by omega), show j + m - l.length = m - (l.length - j) by omega]
theorem partA_len {l : List S33} {i j : Nat} (hij : i < j) (hj : j < l.length) : (partA l i j).length = j - i + 1 := by unfold partA; simp; omega
theorem partB_len {l : List S33} {i j : Nat} (hij : i < j) (hj : j < l.length) : (partB l i j).length = l.length - j + i + 1 := by unfold partB; simp; omega
theorem cmN_zero {h : Nat → Bool} : ∀ n, (∀ m, m < n → h m = false) → cmN h n = 0
  | 0, _ => rfl
  | n + 1, hf => by rw [cmN, hf n (by omega), if_neg (by simp)]; exact cmN_zero n (fun m hm => hf m (by omega))
theorem common {l : List S33} {i j : Nat} (hij : i < j) (hj : j < l.length) (hl : prB l = true) (ha : prB (partA l i j) = true) (hb : prB (partB l i j) = true) : impl_ParcelCommon.f (partA l i j) (partB l i j) = some 1 := by
  have ok := prB_ok hl
  have na := partA_len hij hj
  have nb := partB_len hij hj
  have h3 := (vdB_ok (okB_vd (prB_ok ha))).1
  have hn3 := (vdB_ok (okB_vd ok)).1
  have aX : ∀ m, i + m ≤ j → plX (partA l i j) m = plX l (i + m) ∧ plY (partA l i j) m = plY l (i + m) := fun m hm => by unfold plX plY; rw [partA_rd hj hm]; exact ⟨rfl, rfl⟩
  have bX : ∀ m, m ≤ l.length - j + i → plX (partB l i j) m = plX l ((j + m) % l.length) ∧ plY (partB l i j) m = plY l ((j + m) % l.length) := fun m hm => by unfold plX plY; rw [partB_rd hij hj hm]; exact ⟨rfl, rfl⟩
  have hlast : cmS (partA l i j) (partB l i j) (j - i) = true := by
    unfold cmS
    rw [na, nb, Nat.mod_self]
    refine hsB_yes (i := l.length - j + i) (by omega) ?_
    unfold sideIs
    rw [Nat.mod_self, (aX 0 (by omega)).1, (aX 0 (by omega)).2, (aX (j - i) (by omega)).1, (aX (j - i) (by omega)).2, (bX _ (Nat.le_refl _)).1, (bX _ (Nat.le_refl _)).2, (bX 0 (by omega)).1, (bX 0 (by omega)).2,
      show (j + (l.length - j + i)) % l.length = i by rw [show j + (l.length - j + i) = i + l.length by omega, Nat.add_mod_right, Nat.mod_eq_of_lt (by omega)], show (j + 0) % l.length = j from Nat.mod_eq_of_lt (by omega), show i + (j - i) = j by omega]
    simp
  have hrest : ∀ m, m < j - i → cmS (partA l i j) (partB l i j) m = false := fun m hm => by
    unfold cmS
    rw [na, nb, Nat.mod_eq_of_lt (by omega)]
    refine hsB_no (fun k hk => ?_)
    have mk := Nat.mod_lt (j + k) (show 0 < l.length by omega)
    unfold sideIs
    rw [(aX (m + 1) (by omega)).1, (aX (m + 1) (by omega)).2, (aX m (by omega)).1, (aX m (by omega)).2, (bX k (by omega)).1, (bX k (by omega)).2]
    refine Bool.eq_false_iff.2 (fun h => ?_)
    simp only [Bool.and_eq_true, beq_iff_eq] at h
    have e1 := corners_apart ok mk (show i + (m + 1) < l.length by omega) h.1.1 h.1.2
    by_cases hk1 : k + 1 = l.length - j + i + 1
    · have hk2 : k = l.length - j + i := by omega
      rw [hk2, show j + (l.length - j + i) = i + l.length by omega, Nat.add_mod_right, Nat.mod_eq_of_lt (by omega)] at e1
      omega
    · rw [Nat.mod_eq_of_lt (show k + 1 < l.length - j + i + 1 by omega), (bX (k + 1) (by omega)).1, (bX (k + 1) (by omega)).2] at h
      have mk1 := Nat.mod_lt (j + (k + 1)) (show 0 < l.length by omega)
      have e2 := corners_apart ok mk1 (show i + m < l.length by omega) h.2.1 h.2.2
      have e3 : (j + (k + 1)) % l.length = ((j + k) % l.length + 1) % l.length := by rw [Nat.mod_add_mod]; rfl
      rw [e3, e1] at e2
      by_cases h5 : i + (m + 1) + 1 < l.length
      · rw [Nat.mod_eq_of_lt h5] at e2; omega
      · rw [show i + (m + 1) + 1 = l.length by omega, Nat.mod_self] at e2; omega
  unfold impl_ParcelCommon.f impl_ParcelCommon.v
  rw [if_pos ⟨ha, hb⟩, na, cmN, hlast, if_pos rfl, cmN_zero _ hrest, w64 (n := 0 + 1) (by omega) (by omega)]
  rfl
end Go.Proofs.Ytfonigbkoligmaa.Cr

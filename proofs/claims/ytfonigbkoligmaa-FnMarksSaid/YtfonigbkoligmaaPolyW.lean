import Derived.Test.YtfonigbkoligmaaPolyN
import Derived.Test.YtfonigbkoligmaaPolyP
set_option linter.unusedVariables false
set_option linter.unusedSimpArgs false
namespace Go.Proofs.Ytfonigbkoligmaa.Cr
open Go.RowKit Go.Proofs.Ytfonigbkoligmaa.P Go.Proofs.YtfonigbkoligmaaW.PrintWords Go.Proofs.YtfonigbkoligmaaW.PrintLast Go.Proofs.YtfonigbkoligmaaW.PrintMore Go.Proofs.Ytfonigbkoligmaa.Ev
theorem take_last {w : List S33} {m : Nat} (hw : w.length = m + 1) : w.take m ++ [w.getD m z33] = w := by
  have h := List.take_succ_eq_append_getElem (l := w) (i := m) (by omega)
  rw [List.take_of_length_le (by omega)] at h
  rw [List.getD_eq_getElem?_getD, List.getElem?_eq_getElem (by omega)]
  exact h.symm
theorem path_snoc (e : S33 → S33 → Int) {w : List S33} {m : Nat} (hw : w.length = m + 1) (y : S33) : pathE e (w ++ [y]) = pathE e w + e (w.getD m z33) y := by
  have h := pathE_append e (w.getD m z33) [y] (w.take m)
  have e1 : w.take m ++ w.getD m z33 :: [y] = w ++ [y] := by
    rw [show w.take m ++ w.getD m z33 :: [y] = (w.take m ++ [w.getD m z33]) ++ [y] by simp, take_last hw]
  rw [e1, take_last hw] at h
  rw [h]
  simp [pathE]
theorem cyc_last (e : S33 → S33 → Int) {u : List S33} {m : Nat} (hu : u.length = m + 1) (b : S33) : cycE e (u ++ [b]) + e (u.getD m z33) (u.getD 0 z33) = cycE e u + e (u.getD m z33) b + e b (u.getD 0 z33) := by
  cases u with
  | nil => simp at hu
  | cons x t =>
    have h1 : cycE e (x :: t) = pathE e (x :: t ++ [x]) := rfl
    have h2 : cycE e (x :: t ++ [b]) = pathE e ((x :: t ++ [b]) ++ [x]) := rfl
    rw [h1, h2, path_snoc e hu x, path_snoc e (m := m + 1) (by simp at hu ⊢; omega) x, path_snoc e hu b]
    have h3 : (x :: t ++ [b]).getD (m + 1) z33 = b := by
      rw [List.getD_eq_getElem?_getD, List.getElem?_append_right (by omega), hu]; simp
    have h4 : (x :: t).getD 0 z33 = x := rfl
    rw [h3, h4]
    omega
theorem prB_drop {u : List S33} {b : S33} {m : Nat} (hu : u.length = m + 1) (h : prB (u ++ [b]) = true) (h0 : tri (u ++ [b]) (m + 1) = 0) :
    prB u = true ∧ area u = area (u ++ [b]) ∧ edge u = edge (u ++ [b]) ∧ marks u = marks (u ++ [b]) := by
  obtain ⟨hok, hpos⟩ := prB_iff.1 h
  have hl : (u ++ [b]).length = m + 2 := by simp; omega
  have hg : ∀ i, i < m + 1 → (u ++ [b]).getD i z33 = u.getD i z33 := fun i hi => by
    rw [List.getD_eq_getElem?_getD, List.getD_eq_getElem?_getD, List.getElem?_append_left (by omega)]
  have hb : (u ++ [b]).getD (m + 1) z33 = b := by
    rw [List.getD_eq_getElem?_getD, List.getElem?_append_right (by omega), hu]; simp
  have hX : ∀ i, i < m + 1 → plX (u ++ [b]) i = plX u i := fun i hi => congrArg (·.f0) (hg i hi)
  have hY : ∀ i, i < m + 1 → plY (u ++ [b]) i = plY u i := fun i hi => congrArg (·.f1) (hg i hi)
  have hbX : plX (u ++ [b]) (m + 1) = b.f0 := congrArg (·.f0) hb
  have hbY : plY (u ++ [b]) (m + 1) = b.f1 := congrArg (·.f1) hb
  obtain ⟨h3, h12, hp⟩ := vdB_ok (okB_vd hok)
  rw [hl] at h3 h12 hp
  have hs := h0
  unfold tri at hs
  rw [hl, show (m + 1 + (m + 2 - 1)) % (m + 2) = m by rw [show m + 1 + (m + 2 - 1) = m + (m + 2) by omega, Nat.add_mod_right, Nat.mod_eq_of_lt (by omega)], show (m + 1 + 1) % (m + 2) = 0 from Nat.mod_self _] at hs
  have hm : 2 ≤ m := by
    rcases Nat.lt_or_ge m 2 with h1 | h1
    · exfalso
      obtain rfl : m = 1 := by omega
      have ha : area (u ++ [b]) = S3 (plX (u ++ [b]) 1) (plY (u ++ [b]) 1) (plX (u ++ [b]) (1 + 1)) (plY (u ++ [b]) (1 + 1)) (plX (u ++ [b]) 0) (plY (u ++ [b]) 0) := by
        unfold area
        rw [hl]
        simp only [arZ, Nat.reduceAdd, Nat.reduceMod]
        unfold S3 cr
        grind
      omega
    · exact h1
  have hsm : Simp (plX (u ++ [b])) (plY (u ++ [b])) (m + 2) := by
    have := hok
    unfold okB at this
    rw [Bool.and_eq_true, smB_iff, hl] at this
    exact this.2
  obtain ⟨hsd, g, q, ex, ey, s⟩ := simp_drop hm hp hsm hs
  have hsu : Simp (plX u) (plY u) (m + 1) := by
    refine simp_rot (m := 0) (by omega) (fun i hi => ?_) (fun i hi => ?_) hsd
    · rw [Nat.add_zero, Nat.mod_eq_of_lt hi, hX i hi]
    · rw [Nat.add_zero, Nat.mod_eq_of_lt hi, hY i hi]
  have hvu : vdB u = true := by
    refine vdB_iff.2 ⟨by omega, by omega, fun i hi => ?_⟩
    rw [← hX i (by omega), ← hY i (by omega), inR_P]
    exact hp i (by omega)
  have hou : okB u = true := by
    unfold okB
    rw [hvu, Bool.true_and, smB_iff, hu]
    exact hsu
  rw [hX m (by omega), hY m (by omega), hX 0 (by omega), hY 0 (by omega), hbX, hbY] at s hs
  have ha : area u = area (u ++ [b]) := by
    rw [area_cyc (by omega), area_cyc (by omega)]
    have h1 := cyc_last crP hu b
    have h2 : crP (u.getD m z33) b + crP b (u.getD 0 z33) - crP (u.getD m z33) (u.getD 0 z33) = S3 (plX u m) (plY u m) b.f0 b.f1 (plX u 0) (plY u 0) := by
      show cr (plX u m) (plY u m) b.f0 b.f1 + cr b.f0 b.f1 (plX u 0) (plY u 0) - cr (plX u m) (plY u m) (plX u 0) (plY u 0) = _
      unfold S3 cr
      grind
    omega
  have he : edge u = edge (u ++ [b]) := by
    unfold edge
    have h1 := cyc_last gapP hu b
    obtain ⟨g1, g2, g3⟩ := s.gaps
    change gapP (u.getD m z33) b = g at g1
    change gapP b (u.getD 0 z33) = q at g2
    change gapP (u.getD m z33) (u.getD 0 z33) = g + q at g3
    omega
  refine ⟨prB_iff.2 ⟨hou, by rw [ha]; exact hpos⟩, ha, he, ?_⟩
  unfold marks
  rw [hl, mkS, hu]
  have hlast : mkG (u ++ [b]) (m + 1) = [] := by unfold mkG; rw [if_pos h0]
  rw [hlast, List.append_nil]
  refine mkS_congr _ (fun i hi => ?_)
  have hz : tri u i = 0 ↔ tri (u ++ [b]) i = 0 := by
    unfold tri
    rw [hl, hu, show m + 1 - 1 = m by omega, show m + 2 - 1 = m + 1 by omega]
    have hgq : g + q ≠ 0 := by have := s.pg; have := s.ph; omega
    have hg0 : g ≠ 0 := by have := s.pg; omega
    have hq0 : q ≠ 0 := by have := s.ph; omega
    by_cases i0 : i = 0
    · subst i0
      rw [show (0 + m) % (m + 1) = m by rw [Nat.zero_add]; exact Nat.mod_eq_of_lt (by omega), show (0 + (m + 1)) % (m + 2) = m + 1 by rw [Nat.zero_add]; exact Nat.mod_eq_of_lt (by omega), Nat.mod_eq_of_lt (show 0 + 1 < m + 1 by omega), Nat.mod_eq_of_lt (show 0 + 1 < m + 2 by omega), hbX, hbY, hX 0 (by omega), hY 0 (by omega), hX (0 + 1) (by omega), hY (0 + 1) (by omega)]
      have k := s.s3 (plX u (0 + 1)) (plY u (0 + 1))
      rw [k.1, k.2.2, Int.mul_eq_zero, Int.mul_eq_zero]
      simp [hgq, hq0]
    · by_cases im : i = m
      · subst im
        rw [show (i + i) % (i + 1) = i - 1 by rw [show i + i = (i - 1) + (i + 1) by omega, Nat.add_mod_right, Nat.mod_eq_of_lt (by omega)], show (i + (i + 1)) % (i + 2) = i - 1 by rw [show i + (i + 1) = (i - 1) + (i + 2) by omega, Nat.add_mod_right, Nat.mod_eq_of_lt (by omega)], Nat.mod_self, Nat.mod_eq_of_lt (show i + 1 < i + 2 by omega), hbX, hbY, hX i (by omega), hY i (by omega), hX (i - 1) (by omega), hY (i - 1) (by omega)]
        have k := s.s3 (plX u (i - 1)) (plY u (i - 1))
        rw [← S3_rot (plX u (i - 1)), ← S3_rot (plX u (i - 1))]
        rw [k.1, k.2.1, Int.mul_eq_zero, Int.mul_eq_zero]
        simp [hgq, hg0]
      · rw [show (i + m) % (m + 1) = i - 1 by rw [show i + m = (i - 1) + (m + 1) by omega, Nat.add_mod_right, Nat.mod_eq_of_lt (by omega)], show (i + (m + 1)) % (m + 2) = i - 1 by rw [show i + (m + 1) = (i - 1) + (m + 2) by omega, Nat.add_mod_right, Nat.mod_eq_of_lt (by omega)], Nat.mod_eq_of_lt (show i + 1 < m + 1 by omega), Nat.mod_eq_of_lt (show i + 1 < m + 2 by omega), hX i (by omega), hY i (by omega), hX (i - 1) (by omega), hY (i - 1) (by omega), hX (i + 1) (by omega), hY (i + 1) (by omega)]
  unfold mkG
  rw [hg i hi]
  by_cases h1 : tri u i = 0
  · rw [if_pos h1, if_pos (hz.1 h1)]
  · rw [if_neg h1, if_neg (fun h2 => h1 (hz.2 h2))]
theorem marks_ok : ∀ (n : Nat) (l : List S33), l.length = n → prB l = true → prB (marks l) = true ∧ area (marks l) = area l ∧ edge (marks l) = edge l ∧ NS (marks l) := by
  intro n
  induction n with
  | zero => intro l hl h; have := (vdB_ok (okB_vd (prB_ok h))).1; omega
  | succ n ih =>
    intro l hl h
    by_cases hns : NS l
    · rw [marks_ns hns]; exact ⟨h, rfl, rfl, hns⟩
    · obtain ⟨m, hm, h0⟩ : ∃ m, m < l.length ∧ tri l m = 0 := by
        by_cases he : ∃ m, m < l.length ∧ tri l m = 0
        · exact he
        · exact absurd (fun i hi hz => he ⟨i, hi, hz⟩) hns
      have h3 := (vdB_ok (okB_vd (prB_ok h))).1
      obtain ⟨p, rfl⟩ : ∃ p, n = p + 1 := ⟨n - 1, by omega⟩
      have hr : (rotL l (m + 1)).length = p + 1 + 1 := by rw [rot_len]; exact hl
      have et := take_last hr
      have hpr := prB_rot (m := m + 1) (by omega) h
      have htr : tri (rotL l (m + 1)) (p + 1) = 0 := by
        rw [tri_rot (by omega) (by omega), hl, show p + 1 + (m + 1) = m + (p + 1 + 1) by omega, Nat.add_mod_right, Nat.mod_eq_of_lt (by omega)]
        exact h0
      have hlu : ((rotL l (m + 1)).take (p + 1)).length = p + 1 := by rw [List.length_take]; omega
      rw [← et] at hpr htr
      obtain ⟨d1, d2, d3, d4⟩ := prB_drop hlu hpr htr
      rw [et] at d2 d3 d4
      obtain ⟨i1, i2, i3, i4⟩ := ih _ hlu d1
      obtain ⟨x, y, e1, e2⟩ := marks_rot (l := l) (m := m + 1) (by omega)
      rw [d4, e2] at i1 i2 i3 i4
      have e3 : marks l = rotL (y ++ x) y.length := by rw [e1]; unfold rotL; simp
      have hyx : y.length ≤ (y ++ x).length := by simp
      have h1 := (vdB_ok (okB_vd (prB_ok i1))).1
      rw [e3]
      refine ⟨prB_rot hyx i1, ?_, ?_, ns_rot hyx i4⟩
      · rw [area_rot (by omega), i2, d2, area_rot (by omega)]
      · unfold edge at i3 d3 ⊢
        rw [cyc_rot, i3, d3, cyc_rot]
end Go.Proofs.Ytfonigbkoligmaa.Cr

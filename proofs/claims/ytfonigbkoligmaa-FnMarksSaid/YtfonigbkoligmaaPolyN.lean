import Derived.Test.YtfonigbkoligmaaPolyM
import Derived.Test.YtfonigbkoligmaaPolyU
set_option linter.unusedVariables false
set_option linter.unusedSimpArgs false
namespace Go.Proofs.Ytfonigbkoligmaa.Cr
open Go.RowKit Go.Proofs.Ytfonigbkoligmaa.P Go.Proofs.YtfonigbkoligmaaW.PrintWords Go.Proofs.YtfonigbkoligmaaW.PrintLast Go.Proofs.YtfonigbkoligmaaW.PrintMore Go.Proofs.Ytfonigbkoligmaa.Ev
theorem prim_gcd {D ex ey : Int} (hp : Prim ex ey) (hD : 0 < D) : (Int.gcd (D * ex) (D * ey) : Int) = D := by
  rw [Int.gcd_mul_left]
  unfold Prim at hp
  rw [hp]; omega
section
variable {ax ay bx by_ cx cy g h ex ey : Int}
theorem Strt.gaps (s : Strt ax ay bx by_ cx cy g h ex ey) : (Int.gcd (bx - ax) (by_ - ay) : Int) = g ∧ (Int.gcd (cx - bx) (cy - by_) : Int) = h ∧ (Int.gcd (cx - ax) (cy - ay) : Int) = g + h := by
  obtain ⟨hp, hg, hh, rfl, rfl, rfl, rfl⟩ := s
  refine ⟨?_, ?_, ?_⟩
  · rw [show ax + g * ex - ax = g * ex by omega, show ay + g * ey - ay = g * ey by omega]; exact prim_gcd hp hg
  · rw [show ax + (g + h) * ex - (ax + g * ex) = h * ex by grind, show ay + (g + h) * ey - (ay + g * ey) = h * ey by grind]; exact prim_gcd hp hh
  · rw [show ax + (g + h) * ex - ax = (g + h) * ex by omega, show ay + (g + h) * ey - ay = (g + h) * ey by omega]; exact prim_gcd hp (by omega)
theorem Strt.ne (s : Strt ax ay bx by_ cx cy g h ex ey) : ¬ (cx = ax ∧ cy = ay) := by
  have h3 := s.gaps.2.2
  have hg := s.pg
  have hh := s.ph
  rintro ⟨rfl, rfl⟩
  rw [Int.sub_self, Int.sub_self, Int.gcd_self] at h3
  simp at h3
  omega
end
theorem simp_drop {X Y : Nat → Int} {m : Nat} (hm : 2 ≤ m) (hv : ∀ i, i < m + 2 → okP (X i) (Y i) = true) (h : Simp X Y (m + 2)) (h0 : S3 (X m) (Y m) (X (m + 1)) (Y (m + 1)) (X 0) (Y 0) = 0) :
    Simp X Y (m + 1) ∧ ∃ g h ex ey, Strt (X m) (Y m) (X (m + 1)) (Y (m + 1)) (X 0) (Y 0) g h ex ey := by
  have hp := (simp_pairs (by omega) hv).1 h
  have m2 : ∀ x, x < m + 1 → (x + 1) % (m + 2) = x + 1 := fun x hx => Nat.mod_eq_of_lt (by omega)
  have m3 : (m + 1 + 1) % (m + 2) = 0 := Nat.mod_self _
  have m1 : ∀ x, x < m → (x + 1) % (m + 1) = x + 1 := fun x hx => Nat.mod_eq_of_lt (by omega)
  have m4 : (m + 1) % (m + 1) = 0 := Nat.mod_self _
  have hs : ∃ g h ex ey, Strt (X m) (Y m) (X (m + 1)) (Y (m + 1)) (X 0) (Y 0) g h ex ey := by
    have q := hp m (m + 1) (by omega) (by omega)
    unfold pairOk at q
    rw [if_pos rfl, m2 m (by omega), m3] at q
    exact strt_of h0 q.1 q.2.2.1 q.2.2.2
  refine ⟨?_, hs⟩
  obtain ⟨g, h', ex, ey, s⟩ := hs
  rw [simp_pairs (by omega) (fun i hi => hv i (by omega))]
  intro i k hik hk
  have q1 := hp i k hik (by omega)
  unfold pairOk at q1 ⊢
  rw [m2 i (by omega), m2 k (by omega)] at q1
  rw [m1 i (by omega)]
  by_cases hkm : k = m
  · subst hkm
    rw [m4]
    have q2 := hp i (k + 1) (by omega) (by omega)
    unfold pairOk at q2
    rw [if_neg (by omega), m2 i (by omega), m3] at q2
    by_cases hi1 : k = i + 1
    · rw [if_pos hi1] at q1 ⊢
      rw [if_neg (by omega)] at q2
      subst hi1
      refine ⟨q1.1, s.ne, fun ho => q2 (.inr (.inl ho)), fun ho => ?_⟩
      rcases s.on ho with h | h
      · exact q1.2.2.2 h
      · exact q2 (.inr (.inr (.inl h)))
    · rw [if_neg hi1, if_neg (by omega)] at q1
      rw [if_neg hi1]
      by_cases hi0 : 0 = i
      · subst hi0
        rw [if_pos rfl] at q2 ⊢
        refine ⟨fun ho => ?_, fun ho => q1 (.inl ho)⟩
        rcases s.on ho with h | h
        · exact q1 (.inr (.inr (.inr (.inl h))))
        · exact q2.1 h
      · rw [if_neg hi0] at q2 ⊢
        intro hM
        rcases s.meet hM.symm with h | h
        · exact q1 h.symm
        · exact q2 h.symm
  · rw [m1 k (by omega)]
    exact q1
def tri (l : List S33) (i : Nat) : Int := S3 (plX l ((i + (l.length - 1)) % l.length)) (plY l ((i + (l.length - 1)) % l.length)) (plX l i) (plY l i) (plX l ((i + 1) % l.length)) (plY l ((i + 1) % l.length))
def mkG (l : List S33) (i : Nat) : List S33 := if tri l i = 0 then [] else [l.getD i z33]
def mkS (f : Nat → List S33) : Nat → List S33
  | 0 => []
  | i + 1 => mkS f i ++ f i
def marks (l : List S33) : List S33 := mkS (mkG l) l.length
theorem mkS_add (f : Nat → List S33) (a : Nat) : ∀ b, mkS f (a + b) = mkS f a ++ mkS (fun i => f (a + i)) b := by
  intro b
  induction b with
  | zero => simp [mkS]
  | succ b ih => rw [← Nat.add_assoc, mkS, ih, mkS, List.append_assoc]
theorem mkS_congr {f g : Nat → List S33} : ∀ n, (∀ i, i < n → f i = g i) → mkS f n = mkS g n := by
  intro n
  induction n with
  | zero => intro _; rfl
  | succ n ih => intro h; rw [mkS, mkS, ih (fun i hi => h i (by omega)), h n (by omega)]
theorem mkS_all (l : List S33) : ∀ n, n ≤ l.length → mkS (fun i => [l.getD i z33]) n = l.take n := by
  intro n
  induction n with
  | zero => intro _; rfl
  | succ n ih =>
    intro h
    rw [mkS, ih (by omega), List.take_succ_eq_append_getElem (by omega), List.getD_eq_getElem?_getD, List.getElem?_eq_getElem (by omega)]
    rfl
def NS (l : List S33) : Prop := ∀ i, i < l.length → tri l i ≠ 0
theorem marks_ns {l : List S33} (h : NS l) : marks l = l := by
  unfold marks
  rw [mkS_congr (g := fun i => [l.getD i z33]) l.length (fun i hi => by unfold mkG; rw [if_neg (h i hi)]), mkS_all l _ (Nat.le_refl _), List.take_length]
theorem tri_rot {l : List S33} {m i : Nat} (hm : m ≤ l.length) (hi : i < l.length) : tri (rotL l m) i = tri l ((i + m) % l.length) := by
  have ml := fun i => Nat.mod_lt i (show 0 < l.length by omega)
  have e1 : ((i + (l.length - 1)) % l.length + m) % l.length = ((i + m) % l.length + (l.length - 1)) % l.length := rot_idx i _ m _
  have e2 : ((i + 1) % l.length + m) % l.length = ((i + m) % l.length + 1) % l.length := rot_idx i 1 m _
  unfold tri
  rw [rot_len, rot_X hm (ml _), rot_Y hm (ml _), rot_X hm hi, rot_Y hm hi, rot_X hm (ml _), rot_Y hm (ml _), e1, e2]
theorem ns_rot {l : List S33} {m : Nat} (hm : m ≤ l.length) (h : NS l) : NS (rotL l m) := by
  intro i hi
  rw [rot_len] at hi
  rw [tri_rot hm hi]
  exact h _ (Nat.mod_lt _ (by omega))
theorem mkG_rot {l : List S33} {m i : Nat} (hm : m ≤ l.length) (hi : i < l.length) : mkG (rotL l m) i = mkG l ((i + m) % l.length) := by
  unfold mkG
  rw [tri_rot hm hi, rot_getD hm hi]
theorem marks_rot {l : List S33} {m : Nat} (hm : m ≤ l.length) : ∃ x y, marks l = x ++ y ∧ marks (rotL l m) = y ++ x := by
  refine ⟨mkS (mkG l) m, mkS (fun i => mkG l (m + i)) (l.length - m), ?_, ?_⟩
  · unfold marks
    rw [← mkS_add, show m + (l.length - m) = l.length by omega]
  · unfold marks
    rw [rot_len]
    conv => lhs; rw [show l.length = (l.length - m) + m by omega]
    rw [mkS_add]
    congr 1
    · refine mkS_congr _ (fun i hi => ?_)
      rw [mkG_rot hm (by omega), Nat.mod_eq_of_lt (by omega), Nat.add_comm]
    · refine mkS_congr _ (fun i hi => ?_)
      rw [mkG_rot hm (by omega), show l.length - m + i + m = i + l.length by omega, Nat.add_mod_right, Nat.mod_eq_of_lt (by omega)]
end Go.Proofs.Ytfonigbkoligmaa.Cr

import Derived.Test.YtfonigbkoligmaaPolyQ
import Derived.Test.YtfonigbkoligmaaPolyB
import Derived.Test.YtfonigbkoligmaaPx4
import Derived.Test.YtfonigbkoligmaaPx2
import Derived.Test.YtfonigbkoligmaaPx3
set_option linter.unusedVariables false
set_option linter.unusedSimpArgs false
namespace Go.Proofs.Ytfonigbkoligmaa.Cr
open Go.RowKit Go.Proofs.Ytfonigbkoligmaa.P Go.Proofs.YtfonigbkoligmaaW.PrintWords Go.Proofs.YtfonigbkoligmaaW.PrintLast Go.Proofs.YtfonigbkoligmaaW.PrintMore Go.Proofs.Ytfonigbkoligmaa.Ev
theorem gcd_loop {g : Nat → Int → Int → Option Int} (hg : ∀ k x y, g (k + 1) x y = if y = 0 then some x else g k y (Int.tmod x y)) : ∀ (y x : Nat), EvQ (fun k => g k (x : Int) (y : Int)) (fun r => r = (Nat.gcd x y : Int)) := by
  intro y
  induction y using Nat.strongRecOn with
  | ind y ih =>
    intro x
    refine EvQ.step (fun k => hg k x y) ?_
    by_cases h : y = 0
    · subst h; exact EvQ.pos rfl (EvQ.ret (by simp))
    · refine EvQ.neg (by omega) ?_
      rw [Int.tmod_eq_emod_of_nonneg (by omega), ← Int.natCast_emod]
      refine (ih (x % y) (Nat.mod_lt _ (by omega)) y).mono ?_
      rintro _ rfl
      rw [Nat.gcd_comm y, ← Nat.gcd_rec, Nat.gcd_comm]
def ab (x : Int) : Int := (x.natAbs : Int)
theorem implAbs {x : Int} (h : -9000000000000000000 ≤ x ∧ x ≤ 9000000000000000000) : impl_absInt.f x = some (ab x) := by
  unfold impl_absInt.f ab
  rw [w64 (n := -x) (by omega) (by omega)]
  split
  · congr 1; omega
  · congr 1; omega
theorem implGcd {a b : Int} (ha : -9000000000000000000 ≤ a ∧ a ≤ 9000000000000000000) (hb : -9000000000000000000 ≤ b ∧ b ≤ 9000000000000000000) : EvQ (fun k => impl_gcdInt.f k a b) (fun r => r = (Int.gcd a b : Int)) := by
  unfold impl_gcdInt.f
  refine EvQ.bindc (implAbs ha) (EvQ.bindc (implAbs hb) ?_)
  exact gcd_loop (g := impl_gcdInt.l0) (fun k x y => by simp only [impl_gcdInt.l0]) b.natAbs a.natAbs
def okQ (t l : Int) : Bool := decide (1 ≤ l ∧ l ≤ 1000000000) && (decide (-1000000000 ≤ t ∧ t ≤ 1000000000) && decide (Int.gcd t l = 1))
theorem okQ_iff {t l : Int} : okQ t l = true ↔ (1 ≤ l ∧ l ≤ 1000000000) ∧ (-1000000000 ≤ t ∧ t ≤ 1000000000) ∧ Int.gcd t l = 1 := by
  unfold okQ; simp only [Bool.and_eq_true, decide_eq_true_eq]
theorem implWithin (a m : Int) (hm : 0 ≤ m ∧ m ≤ 9000000000000000000) : impl_within.f a m = some (decide (-m ≤ a ∧ a ≤ m)) := by
  unfold impl_within.f
  rw [w64 (n := -m) (by omega) (by omega)]
  by_cases h : -m ≤ a
  · rw [if_pos h]; congr 1; rw [Bool.eq_iff_iff]; simp; omega
  · rw [if_neg h]; congr 1; symm; rw [decide_eq_false_iff_not]; omega
theorem implOkQ {t l : Int} : EvQ (fun k => impl_QuoValid.f k t l) (fun r => r = okQ t l) := by
  unfold impl_QuoValid.f okQ
  refine EvQ.ite (fun h => EvQ.ret ?_) (fun h1 => EvQ.ite (fun h => EvQ.ret ?_) (fun h2 => ?_))
  · symm; rw [decide_eq_false (by omega), Bool.false_and]
  · symm; rw [decide_eq_false (by omega), Bool.false_and]
  rw [decide_eq_true (show 1 ≤ l ∧ l ≤ 1000000000 by omega), Bool.true_and]
  refine EvQ.bindc (implWithin t 1000000000 (by omega)) (EvQ.ite (fun h => ?_) (fun h => EvQ.ret ?_))
  · have h : -1000000000 ≤ t ∧ t ≤ 1000000000 := by simpa using h
    rw [decide_eq_true h, Bool.true_and]
    refine EvQ.call (implGcd (by omega) (by omega)) (EvQ.ret ?_)
    rw [Bool.eq_iff_iff]; simp; omega
  · symm; rw [decide_eq_false (by simpa using h), Bool.false_and]
def redQ (a b : Int) : Int × Int × Bool := if okQ (a / (Int.gcd a b : Int)) (b / (Int.gcd a b : Int)) then (a / (Int.gcd a b : Int), b / (Int.gcd a b : Int), true) else (0, 0, false)
def inQ (a b : Int) : Prop := (-4000000000000000000 ≤ a ∧ a ≤ 4000000000000000000) ∧ (-4000000000000000000 ≤ b ∧ b ≤ 4000000000000000000)
instance (a b : Int) : Decidable (inQ a b) := inferInstanceAs (Decidable (_ ∧ _))
def quoV (a b : Int) : Int × Int × Bool := if b ≠ 0 ∧ inQ a b then (if b < 0 then redQ (-a) (-b) else redQ a b) else (0, 0, false)
theorem tdiv_gcd {a b : Int} (hb : 0 < b) : Int.tdiv a (Int.gcd a b : Int) = a / (Int.gcd a b : Int) := by
  obtain ⟨c, hc⟩ := Int.gcd_dvd_left (a := a) (b := b)
  have hg : 0 < (Int.gcd a b : Int) := by
    have := Int.gcd_pos_of_ne_zero_right a (show b ≠ 0 by omega); omega
  generalize (Int.gcd a b : Int) = g at *
  rw [hc, Int.mul_tdiv_cancel_left _ (by omega), Int.mul_ediv_cancel_left _ (by omega)]
theorem tdiv_gcd' {a b : Int} (hb : 0 < b) : Int.tdiv b (Int.gcd a b : Int) = b / (Int.gcd a b : Int) := Int.tdiv_eq_ediv_of_nonneg (by omega)
theorem div_le {a g : Int} (hg : 0 < g) (h : -4000000000000000000 ≤ a ∧ a ≤ 4000000000000000000) : -4000000000000000000 ≤ a / g ∧ a / g ≤ 4000000000000000000 := by
  constructor
  · rw [Int.le_ediv_iff_mul_le hg]
    have : -4000000000000000000 * g ≤ -4000000000000000000 * 1 := Int.mul_le_mul_of_nonpos_left (by omega) (by omega)
    omega
  · by_cases h0 : 0 ≤ a
    · exact Int.le_trans (Int.ediv_le_self _ h0) h.2
    · have := Int.ediv_neg_of_neg_of_pos (show a < 0 by omega) hg; omega
theorem implRed {a b : Int} (h : inQ a b) (hb : 0 < b) : EvQ (fun k => impl_QuoOf.j1 k a b) (fun r => r = redQ a b) := by
  have hg : 0 < (Int.gcd a b : Int) := by
    have := Int.gcd_pos_of_ne_zero_right a (show b ≠ 0 by omega); omega
  have d1 := div_le hg h.1
  have d2 := div_le hg h.2
  refine EvQ.step (fun k => by simp only [impl_QuoOf.j1]; rfl) ?_
  refine EvQ.call (implGcd (by unfold inQ at h; omega) (by unfold inQ at h; omega)) (EvQ.neg (by omega) ?_)
  rw [tdiv_gcd hb, tdiv_gcd' hb, w64 (n := a / _) (by omega) (by omega), w64 (n := b / _) (by omega) (by omega)]
  unfold redQ
  exact EvQ.call implOkQ (EvQ.ite (fun h => EvQ.ret (by rw [if_pos h])) (fun h => EvQ.ret (by rw [if_neg h])))
theorem implQuoOf (a b : Int) : EvQ (fun k => impl_QuoOf.f k a b) (fun r => r = quoV a b) := by
  have hj : ∀ x : Bool, x = true → ¬ (b ≠ 0 ∧ inQ a b) → EvQ (fun k => impl_QuoOf.j0 k a b x) (fun r => r = quoV a b) := by
    rintro _ rfl h
    refine EvQ.step (fun k => by simp only [impl_QuoOf.j0]; rfl) ?_
    exact EvQ.pos (by simp) (EvQ.ret (by unfold quoV; rw [if_neg h]))
  unfold impl_QuoOf.f
  rw [implWithin a _ (by omega), implWithin b _ (by omega)]
  simp only [Option.bind_some]
  refine EvQ.ite (fun h => hj _ rfl (by omega)) (fun h0 => ?_)
  refine EvQ.ite (fun h1 => ?_) (fun h1 => hj _ rfl (fun h => h1 (by simpa using h.2.1)))
  have h1 : -4000000000000000000 ≤ a ∧ a ≤ 4000000000000000000 := by simpa using h1
  by_cases h2 : -4000000000000000000 ≤ b ∧ b ≤ 4000000000000000000
  · have hq : inQ a b := ⟨h1, h2⟩
    have hv : quoV a b = if b < 0 then redQ (-a) (-b) else redQ a b := by unfold quoV; rw [if_pos ⟨h0, hq⟩]
    refine EvQ.step (fun k => by simp only [impl_QuoOf.j0]; rfl) ?_
    rw [hv, w64 (n := -a) (by omega) (by omega), w64 (n := -b) (by omega) (by omega)]
    refine EvQ.neg (by simp [h2]) (EvQ.ite (fun h => ?_) (fun h => ?_))
    · rw [if_pos h]; exact implRed (by unfold inQ; omega) (by omega)
    · rw [if_neg h]; exact implRed hq (by omega)
  · exact hj _ (by simp only [Bool.not_eq_true', decide_eq_false_iff_not]; exact h2) (fun h => h2 h.2.2)
theorem redQ_true {a b t l : Int} (hb : 0 < b) (h : redQ a b = (t, l, true)) : t * b = l * a ∧ okQ t l = true := by
  unfold redQ at h
  split at h
  · rename_i hq
    simp only [Prod.mk.injEq, and_true] at h
    obtain ⟨rfl, rfl⟩ := h
    refine ⟨?_, hq⟩
    obtain ⟨c, hc⟩ := Int.gcd_dvd_left (a := a) (b := b)
    obtain ⟨d, hd⟩ := Int.gcd_dvd_right (a := a) (b := b)
    have hg : 0 < (Int.gcd a b : Int) := by
      have := Int.gcd_pos_of_ne_zero_right a (show b ≠ 0 by omega); omega
    generalize (Int.gcd a b : Int) = g at *
    have e1 : a / g = c := by rw [hc, Int.mul_ediv_cancel_left _ (by omega)]
    have e2 : b / g = d := by rw [hd, Int.mul_ediv_cancel_left _ (by omega)]
    rw [e1, e2]
    grind
  · simp at h
theorem quoV_true {a b t l : Int} (h : quoV a b = (t, l, true)) : b ≠ 0 ∧ t * b = l * a ∧ okQ t l = true := by
  unfold quoV at h
  split at h
  · rename_i h0
    refine ⟨h0.1, ?_⟩
    split at h
    · have := redQ_true (by omega) h
      refine ⟨?_, this.2⟩
      have e := this.1
      rw [Int.mul_neg, Int.mul_neg] at e; omega
    · exact redQ_true (by omega) h
  · simp at h
theorem inner_iff {ax ay bx by_ cx cy dx dy : Int} : inner ax ay bx by_ cx cy dx dy = true ↔ Ln ax ay bx by_ cx cy dx dy ∧ pD ax ay bx by_ cx cy dx dy ≠ 0 ∧ Bt (pD ax ay bx by_ cx cy dx dy) (pP ax ay bx by_ cx cy dx dy) ∧ Bt (pD ax ay bx by_ cx cy dx dy) (pQ ax ay bx by_ cx cy dx dy) := by
  unfold inner; rw [Bool.and_eq_true, decide_eq_true_eq, lnOk_iff]
def pathE (e : S33 → S33 → Int) : List S33 → Int
  | x :: y :: t => e x y + pathE e (y :: t)
  | _ => 0
theorem pathE_append (e : S33 → S33 → Int) (p : S33) (v : List S33) : ∀ u : List S33, pathE e (u ++ p :: v) = pathE e (u ++ [p]) + pathE e (p :: v) := by
  intro u
  induction u with
  | nil => simp [pathE]
  | cons x u ih =>
    cases u with
    | nil => simp [pathE]
    | cons y u =>
      simp only [List.cons_append, pathE] at ih ⊢
      omega
def cycE (e : S33 → S33 → Int) : List S33 → Int
  | [] => 0
  | x :: t => pathE e (x :: t ++ [x])
theorem cycE_split (e : S33 → S33 → Int) (A B C : List S33) (p q : S33) : cycE e (p :: B ++ [q]) + cycE e (q :: C ++ A ++ [p]) = cycE e (A ++ p :: B ++ q :: C) + e q p + e p q := by
  have h1 : cycE e (p :: B ++ [q]) = pathE e (p :: B ++ [q]) + e q p := by
    show pathE e (p :: B ++ [q] ++ [p]) = _
    rw [show p :: B ++ [q] ++ [p] = (p :: B) ++ q :: [p] by simp, pathE_append]
    simp [pathE]
  have h2 : cycE e (q :: C ++ A ++ [p]) = pathE e (q :: C ++ A ++ [p]) + e p q := by
    show pathE e (q :: C ++ A ++ [p] ++ [q]) = _
    rw [show q :: C ++ A ++ [p] ++ [q] = (q :: C ++ A) ++ p :: [q] by simp, pathE_append]
    simp [pathE]
  have h3 : cycE e (A ++ p :: B ++ q :: C) = pathE e (p :: B ++ [q]) + pathE e (q :: C ++ A ++ [p]) := by
    cases A with
    | nil =>
      show pathE e (p :: B ++ q :: C ++ [p]) = _
      rw [show p :: B ++ q :: C ++ [p] = (p :: B) ++ q :: (C ++ [p]) by simp, pathE_append]
      simp
    | cons a A =>
      show pathE e (a :: A ++ p :: B ++ q :: C ++ [a]) = _
      have k1 := pathE_append e p (B ++ q :: (C ++ [a])) (a :: A)
      have k2 := pathE_append e q (C ++ [a]) (p :: B)
      have k3 := pathE_append e a (A ++ [p]) (q :: C)
      simp only [List.cons_append, List.append_assoc, List.nil_append] at k1 k2 k3 ⊢
      omega
  omega
def su (g : Nat → Int) : Nat → Int
  | 0 => 0
  | i + 1 => su g i + g i
theorem su_path (e : S33 → S33 → Int) (z : S33) (l : List S33) : ∀ i, i < l.length → su (fun i => e (l.getD i z) (l.getD ((i + 1) % l.length) z)) i = pathE e (l.take (i + 1)) := by
  intro i
  induction i with
  | zero => intro h; cases l with | nil => simp at h | cons x t => simp [su, pathE]
  | succ i ih =>
    intro h
    rw [su, ih (by omega), Nat.mod_eq_of_lt h]
    have g1 : l.getD i z = l[i] := by simp [List.getD_eq_getElem?_getD, show i < l.length by omega]
    have g2 : l.getD (i + 1) z = l[i + 1] := by simp [List.getD_eq_getElem?_getD, h]
    have e2 : l.take (i + 1) = l.take i ++ [l.getD i z] := by
      rw [g1]; exact List.take_succ_eq_append_getElem (show i < l.length by omega)
    have e1 : l.take (i + 1 + 1) = l.take i ++ l.getD i z :: [l.getD (i + 1) z] := by
      rw [List.take_succ_eq_append_getElem h, e2, g2, List.append_assoc]; rfl
    have k1 := pathE_append e (l.getD i z) [l.getD (i + 1) z] (l.take i)
    rw [e1, e2, k1]
    simp only [pathE]
    omega
theorem su_cyc (e : S33 → S33 → Int) (z : S33) (l : List S33) (h : 0 < l.length) : su (fun i => e (l.getD i z) (l.getD ((i + 1) % l.length) z)) l.length = cycE e l := by
  obtain ⟨m, hm⟩ : ∃ m, l.length = m + 1 := ⟨l.length - 1, by omega⟩
  have h1 := su_path e z l m (by omega)
  have h2 : su (fun i => e (l.getD i z) (l.getD ((i + 1) % l.length) z)) l.length = su (fun i => e (l.getD i z) (l.getD ((i + 1) % l.length) z)) m + e (l.getD m z) (l.getD 0 z) := by
    rw [hm, su]
    simp
  rw [h2, h1, List.take_of_length_le (by omega)]
  cases l with
  | nil => simp at h
  | cons x t =>
    have e1 : x :: t = (x :: t).take m ++ [(x :: t).getD m z] := by
      have := List.take_succ_eq_append_getElem (l := x :: t) (i := m) (by omega)
      rw [List.take_of_length_le (by omega)] at this
      rw [List.getD_eq_getElem?_getD, List.getElem?_eq_getElem (by omega)]
      exact this
    show _ = pathE e (x :: t ++ [x])
    have e2 : x :: t ++ [x] = (x :: t).take m ++ (x :: t).getD m z :: [x] := by
      conv => lhs; rw [e1]
      simp
    rw [e2, pathE_append, ← e1]
    simp [pathE]
def crP (a b : S33) : Int := cr a.f0 a.f1 b.f0 b.f1
theorem crP_flip (a b : S33) : crP b a = -crP a b := by unfold crP cr; grind
theorem arZ_su (l : List S33) (n : Nat) : ∀ i, arZ (plX l) (plY l) n i = su (fun i => crP (l.getD i z33) (l.getD ((i + 1) % n) z33)) i := by
  intro i
  induction i with
  | zero => rfl
  | succ i ih => rw [arZ, su, ih]; rfl
theorem area_cyc {l : List S33} (h : 0 < l.length) : area l = cycE crP l := by
  unfold area
  rw [arZ_su]
  exact su_cyc crP _ l h
def partA (l : List S33) (i j : Nat) : List S33 := (l.take (j + 1)).drop i
def partB (l : List S33) (i j : Nat) : List S33 := l.drop j ++ l.take (i + 1)
theorem parts {l : List S33} {i j : Nat} (hij : i < j) (hj : j < l.length) : ∃ A B C p q, l = A ++ p :: B ++ q :: C ∧ partA l i j = p :: B ++ [q] ∧ partB l i j = q :: C ++ A ++ [p] ∧ A.length = i ∧ p = l.getD i z33 ∧ q = l.getD j z33 := by
  have hi : i < l.length := by omega
  have e0 : l[i] :: (l.take j).drop (i + 1) = (l.take j).drop i := by
    have := List.drop_eq_getElem_cons (l := l.take j) (i := i) (by simp; omega)
    rw [this]; simp
  have e1 := List.drop_eq_getElem_cons hj
  have e2 : l.take (j + 1) = l.take j ++ [l[j]] := List.take_succ_eq_append_getElem hj
  have e3 : l.take (i + 1) = l.take i ++ [l[i]] := List.take_succ_eq_append_getElem hi
  have e4 : l.take i ++ (l.take j).drop i = l.take j := by
    have := List.take_append_drop i (l.take j)
    rw [List.take_take, Nat.min_eq_left (by omega)] at this
    exact this
  refine ⟨l.take i, (l.take j).drop (i + 1), l.drop (j + 1), l[i], l[j], ?_, ?_, ?_, by simp; omega, by simp [List.getD_eq_getElem?_getD, hi], by simp [List.getD_eq_getElem?_getD, hj]⟩
  · rw [← e1, List.append_assoc, e0, ← List.append_assoc, e4, List.take_append_drop]
  · unfold partA
    rw [e2, List.drop_append_of_le_length (by simp; omega), ← e0]
  · unfold partB
    rw [e1, e3, ← List.append_assoc]
theorem area_parts {l : List S33} {i j : Nat} (hij : i < j) (hj : j < l.length) : area (partA l i j) + area (partB l i j) = area l := by
  obtain ⟨A, B, C, p, q, h1, h2, h3, _⟩ := parts hij hj
  rw [h2, h3, area_cyc (by simp), area_cyc (by simp), area_cyc (by omega), cycE_split, ← h1]
  have := crP_flip p q
  omega
def splitV (l : List S33) (i j : Int) : List S33 × List S33 × Bool :=
  if prB l = true ∧ 0 ≤ i ∧ i < j ∧ j < (l.length : Int) ∧ prB (partA l i.toNat j.toNat) = true ∧ prB (partB l i.toNat j.toNat) = true then (partA l i.toNat j.toNat, partB l i.toNat j.toNat, true) else ([], [], false)
theorem splitQ (l : List S33) (i j : Int) : EvQ (fun k => impl_ParcelSplit.f k l i j) (fun r => r = splitV l i j) := by
  unfold impl_ParcelSplit.f impl_ParcelValid.f impl_ParcelValid.v
  simp only [Option.bind_some]
  have hno : ∀ b : Bool, b = true → ¬ (prB l = true ∧ 0 ≤ i ∧ i < j ∧ j < (l.length : Int)) → EvQ (fun k => impl_ParcelSplit.j0 k l i j b) (fun r => r = splitV l i j) := by
    rintro _ rfl hn
    refine EvQ.step (fun k => by simp only [impl_ParcelSplit.j0]; rfl) ?_
    refine EvQ.pos (by trivial) (EvQ.ret ?_)
    unfold splitV
    rw [if_neg (fun h => hn ⟨h.1, h.2.1, h.2.2.1, h.2.2.2.1⟩)]
  refine EvQ.ite (fun hp => ?_) (fun hp => hno _ rfl (fun h => hp h.1))
  refine EvQ.ite (fun h0 => hno _ rfl (fun h => by omega)) (fun h0 => ?_)
  refine EvQ.ite (fun h1 => hno _ rfl (fun h => by omega)) (fun h1 => ?_)
  by_cases h2 : j < (l.length : Int)
  · have hl := vdB_ok (okB_vd (prB_ok hp))
    refine EvQ.step (fun k => by simp only [impl_ParcelSplit.j0]; rfl) ?_
    refine EvQ.neg (by simpa using h2) ?_
    have w1 : wrap64 (j + 1) = j + 1 := w64 (by omega) (by omega)
    have w2 : wrap64 (i + 1) = i + 1 := w64 (by omega) (by omega)
    rw [w1, w2]
    simp only [Option.bind_some]
    refine EvQ.pos (by omega) (EvQ.pos (by omega) (EvQ.pos (by omega) (EvQ.pos (by simp; omega) (EvQ.pos (by omega) (EvQ.pos (by omega) (EvQ.pos (by simp; omega) (EvQ.pos (by omega) (EvQ.pos (by omega) (EvQ.pos (by simp; omega) ?_)))))))))
    unfold impl_ParcelValid.f impl_ParcelValid.v
    simp only [Option.bind_some, List.nil_append]
    have ea : (l.take (j + 1).toNat).drop i.toNat = partA l i.toNat j.toNat := by unfold partA; rw [show (j + 1).toNat = j.toNat + 1 by omega]
    have eb : l.drop j.toNat ++ l.take (i + 1).toNat = partB l i.toNat j.toNat := by unfold partB; rw [show (i + 1).toNat = i.toNat + 1 by omega]
    rw [ea, eb]
    unfold splitV
    refine EvQ.ite (fun ha => EvQ.ite (fun hb => EvQ.ret ?_) (fun hb => EvQ.ret ?_)) (fun ha => EvQ.ret ?_)
    · rw [if_pos ⟨hp, by omega, by omega, h2, ha, hb⟩]
    · rw [if_neg (fun h => hb h.2.2.2.2.2)]
    · rw [if_neg (fun h => ha h.2.2.2.2.1)]
  · exact hno _ (by simpa using h2) (fun h => h2 h.2.2.2)
theorem share_lt {a b t l : Int} (ha : 0 < a) (hb : a < b) (h : quoV a b = (t, l, true)) : 0 < t ∧ t < l := by
  obtain ⟨h0, h1, h2⟩ := quoV_true h
  have hl := (okQ_iff.1 h2).1.1
  have p1 : 0 < l * a := Int.mul_pos (by omega) ha
  have p2 : l * a < l * b := Int.mul_lt_mul_of_pos_left hb (by omega)
  constructor
  · by_cases ht : 0 < t
    · exact ht
    · exfalso
      have : t * b ≤ 0 := Int.mul_nonpos_of_nonpos_of_nonneg (by omega) (by omega)
      omega
  · by_cases ht : t < l
    · exact ht
    · exfalso
      have : l * b ≤ t * b := Int.mul_le_mul_of_nonneg_right (by omega) (by omega)
      omega
theorem polyArea {l : List S33} (h : vdB l = true) : impl_PolyArea.f l = some (area l, true) := by
  unfold impl_PolyArea.f impl_PolyArea.v
  rw [if_pos h, (area_eq h).1]
theorem shareQ (l : List S33) (i j : Int) : EvQ (fun k => impl_ParcelShare.f k l i j) (fun r => r = if (splitV l i j).2.2 = true then quoV (area (splitV l i j).1) (area l) else (0, 0, false)) := by
  unfold impl_ParcelShare.f
  refine EvQ.call (splitQ l i j) ?_
  by_cases hs : (splitV l i j).2.2 = true
  · rw [if_pos hs]
    refine EvQ.pos hs ?_
    have hc : prB l = true ∧ 0 ≤ i ∧ i < j ∧ j < (l.length : Int) ∧ prB (partA l i.toNat j.toNat) = true ∧ prB (partB l i.toNat j.toNat) = true := by
      unfold splitV at hs
      split at hs
      · assumption
      · cases hs
    have e : splitV l i j = (partA l i.toNat j.toNat, partB l i.toNat j.toNat, true) := by unfold splitV; rw [if_pos hc]
    rw [e]
    refine EvQ.bindc (polyArea (okB_vd (prB_ok hc.2.2.2.2.1))) (EvQ.bindc (polyArea (okB_vd (prB_ok hc.1))) ?_)
    refine EvQ.call (implQuoOf _ _) (EvQ.ret rfl)
  · rw [if_neg hs]
    exact EvQ.neg hs (EvQ.ret rfl)
theorem share_in {l : List S33} {i j : Int} (hs : (splitV l i j).2.2 = true) {t m : Int} (h : quoV (area (splitV l i j).1) (area l) = (t, m, true)) : 0 < t ∧ t < m := by
  have hc : prB l = true ∧ 0 ≤ i ∧ i < j ∧ j < (l.length : Int) ∧ prB (partA l i.toNat j.toNat) = true ∧ prB (partB l i.toNat j.toNat) = true := by
    unfold splitV at hs
    split at hs
    · assumption
    · cases hs
  have e : splitV l i j = (partA l i.toNat j.toNat, partB l i.toNat j.toNat, true) := by unfold splitV; rw [if_pos hc]
  rw [e] at h
  have h1 := (prB_iff.1 hc.2.2.2.2.1).2
  have h2 := (prB_iff.1 hc.2.2.2.2.2).2
  have h3 := area_parts (l := l) (i := i.toNat) (j := j.toNat) (by omega) (by omega)
  exact share_lt h1 (by omega) h
end Go.Proofs.Ytfonigbkoligmaa.Cr

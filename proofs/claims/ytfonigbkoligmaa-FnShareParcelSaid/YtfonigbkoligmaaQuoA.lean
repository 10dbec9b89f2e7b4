import Derived.Test.YtfonigbkoligmaaEv
import Derived.Test.YtfonigbkoligmaaPx7
set_option linter.unusedVariables false
set_option linter.unusedSimpArgs false
namespace Go.Proofs.Ytfonigbkoligmaa.Cr
open Go.RowKit Go.Proofs.Ytfonigbkoligmaa.P Go.Proofs.YtfonigbkoligmaaW.PrintWords Go.Proofs.YtfonigbkoligmaaW.PrintLast Go.Proofs.YtfonigbkoligmaaW.PrintMore Go.Proofs.Ytfonigbkoligmaa.Ev
theorem gcd_loop {g : Nat → Int → Int → Option Int} (hg : ∀ k x y, g (k + 1) x y = if y = 0 then some x else g k y (Int.tmod x y)) : ∀ (y x : Nat), EvQ (fun k => g k (x : Int) (y : Int)) (fun r => r = (Nat.gcd x y : Int)) := by
  intro y
  induction y using Nat.strongRecOn with
  | ind y ih =>
    intro x
    refine EvQ.step (fun k => hg k x y) ?_
    by_cases h : y = 0
    · subst h; exact EvQ.pos rfl (EvQ.ret (by simp))
    · refine EvQ.neg (by omega) ?_
      rw [Int.tmod_eq_emod_of_nonneg (by omega), ← Int.natCast_emod]
      refine (ih (x % y) (Nat.mod_lt _ (by omega)) y).mono ?_
      rintro _ rfl
      rw [Nat.gcd_comm y, ← Nat.gcd_rec, Nat.gcd_comm]
def ab (x : Int) : Int := (x.natAbs : Int)
theorem implAbs {x : Int} (h : -9000000000000000000 ≤ x ∧ x ≤ 9000000000000000000) : impl_absInt.f x = some (ab x) := by
  unfold impl_absInt.f ab
  rw [w64 (n := -x) (by omega) (by omega)]
  split
  · congr 1; omega
  · congr 1; omega
theorem implGcd {a b : Int} (ha : -9000000000000000000 ≤ a ∧ a ≤ 9000000000000000000) (hb : -9000000000000000000 ≤ b ∧ b ≤ 9000000000000000000) : EvQ (fun k => impl_gcdInt.f k a b) (fun r => r = (Int.gcd a b : Int)) := by
  unfold impl_gcdInt.f
  refine EvQ.bindc (implAbs ha) (EvQ.bindc (implAbs hb) ?_)
  exact gcd_loop (g := impl_gcdInt.l0) (fun k x y => by simp only [impl_gcdInt.l0]) b.natAbs a.natAbs
def okQ (t l : Int) : Bool := decide (1 ≤ l ∧ l ≤ 1000000000) && (decide (-1000000000 ≤ t ∧ t ≤ 1000000000) && decide (Int.gcd t l = 1))
theorem okQ_iff {t l : Int} : okQ t l = true ↔ (1 ≤ l ∧ l ≤ 1000000000) ∧ (-1000000000 ≤ t ∧ t ≤ 1000000000) ∧ Int.gcd t l = 1 := by
  unfold okQ; simp only [Bool.and_eq_true, decide_eq_true_eq]
theorem implWithin (a m : Int) (hm : 0 ≤ m ∧ m ≤ 9000000000000000000) : impl_within.f a m = some (decide (-m ≤ a ∧ a ≤ m)) := by
  unfold impl_within.f
  rw [w64 (n := -m) (by omega) (by omega)]
  by_cases h : -m ≤ a
  · rw [if_pos h]; congr 1; rw [Bool.eq_iff_iff]; simp; omega
  · rw [if_neg h]; congr 1; symm; rw [decide_eq_false_iff_not]; omega
theorem implOkQ {t l : Int} : EvQ (fun k => impl_QuoValid.f k t l) (fun r => r = okQ t l) := by
  unfold impl_QuoValid.f okQ
  refine EvQ.ite (fun h => EvQ.ret ?_) (fun h1 => EvQ.ite (fun h => EvQ.ret ?_) (fun h2 => ?_))
  · symm; rw [decide_eq_false (by omega), Bool.false_and]
  · symm; rw [decide_eq_false (by omega), Bool.false_and]
  rw [decide_eq_true (show 1 ≤ l ∧ l ≤ 1000000000 by omega), Bool.true_and]
  refine EvQ.bindc (implWithin t 1000000000 (by omega)) (EvQ.ite (fun h => ?_) (fun h => EvQ.ret ?_))
  · have h : -1000000000 ≤ t ∧ t ≤ 1000000000 := by simpa using h
    rw [decide_eq_true h, Bool.true_and]
    refine EvQ.call (implGcd (by omega) (by omega)) (EvQ.ret ?_)
    rw [Bool.eq_iff_iff]; simp; omega
  · symm; rw [decide_eq_false (by simpa using h), Bool.false_and]
def redQ (a b : Int) : Int × Int × Bool := if okQ (a / (Int.gcd a b : Int)) (b / (Int.gcd a b : Int)) then (a / (Int.gcd a b : Int), b / (Int.gcd a b : Int), true) else (0, 0, false)
def inQ (a b : Int) : Prop := (-4000000000000000000 ≤ a ∧ a ≤ 4000000000000000000) ∧ (-4000000000000000000 ≤ b ∧ b ≤ 4000000000000000000)
instance (a b : Int) : Decidable (inQ a b) := inferInstanceAs (Decidable (_ ∧ _))
def quoV (a b : Int) : Int × Int × Bool := if b ≠ 0 ∧ inQ a b then (if b < 0 then redQ (-a) (-b) else redQ a b) else (0, 0, false)
theorem tdiv_gcd {a b : Int} (hb : 0 < b) : Int.tdiv a (Int.gcd a b : Int) = a / (Int.gcd a b : Int) := by
  obtain ⟨c, hc⟩ := Int.gcd_dvd_left (a := a) (b := b)
  have hg : 0 < (Int.gcd a b : Int) := by
    have := Int.gcd_pos_of_ne_zero_right a (show b ≠ 0 by omega); omega
  generalize (Int.gcd a b : Int) = g at *
  rw [hc, Int.mul_tdiv_cancel_left _ (by omega), Int.mul_ediv_cancel_left _ (by omega)]
theorem tdiv_gcd' {a b : Int} (hb : 0 < b) : Int.tdiv b (Int.gcd a b : Int) = b / (Int.gcd a b : Int) := Int.tdiv_eq_ediv_of_nonneg (by omega)
theorem div_le {a g : Int} (hg : 0 < g) (h : -4000000000000000000 ≤ a ∧ a ≤ 4000000000000000000) : -4000000000000000000 ≤ a / g ∧ a / g ≤ 4000000000000000000 := by
  constructor
  · rw [Int.le_ediv_iff_mul_le hg]
    have : -4000000000000000000 * g ≤ -4000000000000000000 * 1 := Int.mul_le_mul_of_nonpos_left (by omega) (by omega)
    omega
  · by_cases h0 : 0 ≤ a
    · exact Int.le_trans (Int.ediv_le_self _ h0) h.2
    · have := Int.ediv_neg_of_neg_of_pos (show a < 0 by omega) hg; omega
theorem implRed {a b : Int} (h : inQ a b) (hb : 0 < b) : EvQ (fun k => impl_QuoOf.j1 k a b) (fun r => r = redQ a b) := by
  have hg : 0 < (Int.gcd a b : Int) := by
    have := Int.gcd_pos_of_ne_zero_right a (show b ≠ 0 by omega); omega
  have d1 := div_le hg h.1
  have d2 := div_le hg h.2
  refine EvQ.step (fun k => by simp only [impl_QuoOf.j1]; rfl) ?_
  refine EvQ.call (implGcd (by unfold inQ at h; omega) (by unfold inQ at h; omega)) (EvQ.neg (by omega) ?_)
  rw [tdiv_gcd hb, tdiv_gcd' hb, w64 (n := a / _) (by omega) (by omega), w64 (n := b / _) (by omega) (by omega)]
  unfold redQ
  exact EvQ.call implOkQ (EvQ.ite (fun h => EvQ.ret (by rw [if_pos h])) (fun h => EvQ.ret (by rw [if_neg h])))
theorem implQuoOf (a b : Int) : EvQ (fun k => impl_QuoOf.f k a b) (fun r => r = quoV a b) := by
  have hj : ∀ x : Bool, x = true → ¬ (b ≠ 0 ∧ inQ a b) → EvQ (fun k => impl_QuoOf.j0 k a b x) (fun r => r = quoV a b) := by
    rintro _ rfl h
    refine EvQ.step (fun k => by simp only [impl_QuoOf.j0]; rfl) ?_
    exact EvQ.pos (by simp) (EvQ.ret (by unfold quoV; rw [if_neg h]))
  unfold impl_QuoOf.f
  rw [implWithin a _ (by omega), implWithin b _ (by omega)]
  simp only [Option.bind_some]
  refine EvQ.ite (fun h => hj _ rfl (by omega)) (fun h0 => ?_)
  refine EvQ.ite (fun h1 => ?_) (fun h1 => hj _ rfl (fun h => h1 (by simpa using h.2.1)))
  have h1 : -4000000000000000000 ≤ a ∧ a ≤ 4000000000000000000 := by simpa using h1
  by_cases h2 : -4000000000000000000 ≤ b ∧ b ≤ 4000000000000000000
  · have hq : inQ a b := ⟨h1, h2⟩
    have hv : quoV a b = if b < 0 then redQ (-a) (-b) else redQ a b := by unfold quoV; rw [if_pos ⟨h0, hq⟩]
    refine EvQ.step (fun k => by simp only [impl_QuoOf.j0]; rfl) ?_
    rw [hv, w64 (n := -a) (by omega) (by omega), w64 (n := -b) (by omega) (by omega)]
    refine EvQ.neg (by simp [h2]) (EvQ.ite (fun h => ?_) (fun h => ?_))
    · rw [if_pos h]; exact implRed (by unfold inQ; omega) (by omega)
    · rw [if_neg h]; exact implRed hq (by omega)
  · exact hj _ (by simp only [Bool.not_eq_true', decide_eq_false_iff_not]; exact h2) (fun h => h2 h.2.2)
theorem redQ_true {a b t l : Int} (hb : 0 < b) (h : redQ a b = (t, l, true)) : t * b = l * a ∧ okQ t l = true := by
  unfold redQ at h
  split at h
  · rename_i hq
    simp only [Prod.mk.injEq, and_true] at h
    obtain ⟨rfl, rfl⟩ := h
    refine ⟨?_, hq⟩
    obtain ⟨c, hc⟩ := Int.gcd_dvd_left (a := a) (b := b)
    obtain ⟨d, hd⟩ := Int.gcd_dvd_right (a := a) (b := b)
    have hg : 0 < (Int.gcd a b : Int) := by
      have := Int.gcd_pos_of_ne_zero_right a (show b ≠ 0 by omega); omega
    generalize (Int.gcd a b : Int) = g at *
    have e1 : a / g = c := by rw [hc, Int.mul_ediv_cancel_left _ (by omega)]
    have e2 : b / g = d := by rw [hd, Int.mul_ediv_cancel_left _ (by omega)]
    rw [e1, e2]
    grind
  · simp at h
theorem quoV_true {a b t l : Int} (h : quoV a b = (t, l, true)) : b ≠ 0 ∧ t * b = l * a ∧ okQ t l = true := by
  unfold quoV at h
  split at h
  · rename_i h0
    refine ⟨h0.1, ?_⟩
    split at h
    · have := redQ_true (by omega) h
      refine ⟨?_, this.2⟩
      have e := this.1
      rw [Int.mul_neg, Int.mul_neg] at e; omega
    · exact redQ_true (by omega) h
  · simp at h
theorem share_lt {a b t l : Int} (ha : 0 < a) (hb : a < b) (h : quoV a b = (t, l, true)) : 0 < t ∧ t < l := by
  obtain ⟨h0, h1, h2⟩ := quoV_true h
  have hl := (okQ_iff.1 h2).1.1
  have p1 : 0 < l * a := Int.mul_pos (by omega) ha
  have p2 : l * a < l * b := Int.mul_lt_mul_of_pos_left hb (by omega)
  constructor
  · by_cases ht : 0 < t
    · exact ht
    · exfalso
      have : t * b ≤ 0 := Int.mul_nonpos_of_nonpos_of_nonneg (by omega) (by omega)
      omega
  · by_cases ht : t < l
    · exact ht
    · exfalso
      have : l * b ≤ t * b := Int.mul_le_mul_of_nonneg_right (by omega) (by omega)
      omega
end Go.Proofs.Ytfonigbkoligmaa.Cr

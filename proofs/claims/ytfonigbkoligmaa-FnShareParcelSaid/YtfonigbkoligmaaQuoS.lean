import Derived.Test.YtfonigbkoligmaaQuoA
import Derived.Test.YtfonigbkoligmaaCrossA0
import Derived.Test.YtfonigbkoligmaaPx10
import Derived.Test.YtfonigbkoligmaaPx9
set_option linter.unusedVariables false
set_option linter.unusedSimpArgs false
namespace Go.Proofs.Ytfonigbkoligmaa.Cr
open Go.RowKit Go.Proofs.Ytfonigbkoligmaa.P Go.Proofs.YtfonigbkoligmaaW.PrintWords Go.Proofs.YtfonigbkoligmaaW.PrintLast Go.Proofs.YtfonigbkoligmaaW.PrintMore Go.Proofs.Ytfonigbkoligmaa.Ev
theorem specAbs {x : Int} (h : -9000000000000000000 ≤ x ∧ x ≤ 9000000000000000000) : spec_l1Size.f x = some (ab x) := by
  unfold spec_l1Size.f ab mx
  rw [w64 (n := -x) (by omega) (by omega)]
  congr 1; split <;> omega
theorem specGcd {a b : Int} (hb : 0 ≤ b) : EvQ (fun k => spec_l1Common.f k (ab a) b) (fun r => r = (Int.gcd a b : Int)) := by
  unfold spec_l1Common.f ab
  obtain ⟨n, rfl⟩ := Int.eq_ofNat_of_zero_le hb
  exact gcd_loop (g := spec_l1Common.l0) (fun k x y => by simp only [spec_l1Common.l0]) n a.natAbs
theorem specOkQ {t l : Int} : EvQ (fun k => spec_QuoValid.f k t l) (fun r => r = okQ t l) := by
  have hj : ∀ b : Bool, b = true → okQ t l = false → EvQ (fun k => spec_QuoValid.j0 k b t l) (fun r => r = okQ t l) := by
    rintro _ rfl h
    refine EvQ.step (fun k => by simp only [spec_QuoValid.j0]; rfl) ?_
    exact EvQ.pos (by simp) (EvQ.ret h.symm)
  unfold spec_QuoValid.f
  rw [in_eq, in_eq]
  simp only [Option.bind_some]
  refine EvQ.ite (fun h1 => ?_) (fun h1 => hj _ rfl (by unfold okQ; rw [decide_eq_false (by simpa using h1), Bool.false_and]))
  have h1 : 1 ≤ l ∧ l ≤ 1000000000 := by simpa using h1
  by_cases h2 : -1000000000 ≤ t ∧ t ≤ 1000000000
  · refine EvQ.step (fun k => by simp only [spec_QuoValid.j0]; rfl) ?_
    refine EvQ.neg (by simp [h2]) (EvQ.bindc (specAbs (by omega)) (EvQ.call (specGcd (by omega)) (EvQ.ret ?_)))
    unfold okQ
    rw [decide_eq_true h1, decide_eq_true h2, Bool.true_and, Bool.true_and, Bool.eq_iff_iff]; simp; omega
  · exact hj _ (by simp only [Bool.not_eq_true', decide_eq_false_iff_not]; exact h2) (by unfold okQ; rw [decide_eq_true h1, decide_eq_false h2]; rfl)
theorem specRed {a b : Int} (h : inQ a b) (hb : 0 < b) : EvQ (fun k => spec_QuoOf.j1 k a b) (fun r => r = redQ a b) := by
  have hg : 0 < (Int.gcd a b : Int) := by
    have := Int.gcd_pos_of_ne_zero_right a (show b ≠ 0 by omega); omega
  have d1 := div_le hg h.1
  have d2 := div_le hg h.2
  refine EvQ.step (fun k => by simp only [spec_QuoOf.j1]; rfl) ?_
  refine EvQ.bindc (specAbs (by unfold inQ at h; omega)) (EvQ.call (specGcd (by omega)) (EvQ.neg (by omega) ?_))
  rw [tdiv_gcd hb, tdiv_gcd' hb, w64 (n := a / _) (by omega) (by omega), w64 (n := b / _) (by omega) (by omega)]
  unfold redQ
  exact EvQ.call specOkQ (EvQ.ite (fun h => EvQ.ret (by rw [if_pos h])) (fun h => EvQ.ret (by rw [if_neg h])))
theorem specQuoOf (a b : Int) : EvQ (fun k => spec_QuoOf.f k a b) (fun r => r = quoV a b) := by
  have hj : ∀ x : Bool, x = true → ¬ (b ≠ 0 ∧ inQ a b) → EvQ (fun k => spec_QuoOf.j0 k a b x) (fun r => r = quoV a b) := by
    rintro _ rfl h
    refine EvQ.step (fun k => by simp only [spec_QuoOf.j0]; rfl) ?_
    exact EvQ.pos (by simp) (EvQ.ret (by unfold quoV; rw [if_neg h]))
  unfold spec_QuoOf.f
  rw [in_eq, in_eq]
  simp only [Option.bind_some]
  refine EvQ.ite (fun h1 => ?_) (fun h1 => hj _ rfl (fun h => h1 (by simpa using h.2.1)))
  have h1 : -4000000000000000000 ≤ a ∧ a ≤ 4000000000000000000 := by simpa using h1
  refine EvQ.ite (fun h2 => ?_) (fun h2 => hj _ rfl (fun h => h2 (by simpa using h.2.2)))
  have h2 : -4000000000000000000 ≤ b ∧ b ≤ 4000000000000000000 := by simpa using h2
  by_cases h0 : b = 0
  · exact hj _ (by simpa using h0) (fun h => h.1 h0)
  · have hq : inQ a b := ⟨h1, h2⟩
    have hv : quoV a b = if b < 0 then redQ (-a) (-b) else redQ a b := by unfold quoV; rw [if_pos ⟨h0, hq⟩]
    refine EvQ.step (fun k => by simp only [spec_QuoOf.j0]; rfl) ?_
    rw [hv, w64 (n := -a) (by omega) (by omega), w64 (n := -b) (by omega) (by omega)]
    refine EvQ.neg (by simpa using h0) (EvQ.ite (fun h => ?_) (fun h => ?_))
    · rw [if_pos h]; exact specRed (by unfold inQ; omega) (by omega)
    · rw [if_neg h]; exact specRed hq (by omega)
theorem gcd_rest (a b : Int) : Int.gcd (b - a) b = Int.gcd a b := by
  refine Nat.dvd_antisymm ?_ ?_
  · refine Int.dvd_gcd ?_ (Int.gcd_dvd_right ..)
    have h := Int.dvd_sub (Int.gcd_dvd_right (b - a) b) (Int.gcd_dvd_left (b - a) b)
    rwa [show b - (b - a) = a by omega] at h
  · exact Int.dvd_gcd (Int.dvd_sub (Int.gcd_dvd_right a b) (Int.gcd_dvd_left a b)) (Int.gcd_dvd_right a b)
theorem quo_rest {a b t m : Int} (ha : 0 < a) (hb : a < b) (h : quoV a b = (t, m, true)) : quoV (b - a) b = (m - t, m, true) := by
  have hlt := share_lt ha hb h
  unfold quoV at h ⊢
  split at h
  · rename_i h0
    have hi := h0.2
    rw [if_neg (by omega)] at h
    rw [if_pos ⟨by omega, by unfold inQ at hi ⊢; omega⟩, if_neg (by omega)]
    have hok := (redQ_true (by omega) h).2
    unfold redQ at h ⊢
    rw [gcd_rest]
    split at h
    · simp only [Prod.mk.injEq, and_true] at h
      obtain ⟨h1, h2⟩ := h
      obtain ⟨c, hc⟩ := Int.gcd_dvd_left a b
      obtain ⟨d, hd⟩ := Int.gcd_dvd_right a b
      have hg : 0 < (Int.gcd a b : Int) := by
        have := Int.gcd_pos_of_ne_zero_right a (show b ≠ 0 by omega); omega
      generalize (Int.gcd a b : Int) = g at *
      have e1 : a / g = c := by rw [hc, Int.mul_ediv_cancel_left _ (by omega)]
      have e2 : b / g = d := by rw [hd, Int.mul_ediv_cancel_left _ (by omega)]
      have e3 : (b - a) / g = d - c := by rw [hc, hd, ← Int.mul_sub, Int.mul_ediv_cancel_left _ (by omega)]
      rw [e1] at h1
      rw [e2] at h2
      rw [e2, e3, h1, h2]
      have hk := okQ_iff.1 hok
      rw [if_pos (okQ_iff.2 ⟨hk.1, by omega, by rw [gcd_rest]; exact hk.2.2⟩)]
    · simp at h
  · simp at h
theorem quo_one {m : Int} (h : 1 ≤ m ∧ m ≤ 1000000000000000000) : quoV m m = (1, 1, true) := by
  unfold quoV
  rw [if_pos ⟨by omega, by unfold inQ; omega⟩, if_neg (by omega)]
  unfold redQ
  have e : (Int.gcd m m : Int) = m := by rw [Int.gcd_self]; omega
  rw [e, Int.ediv_self (by omega)]
  rfl
theorem addRest {t m : Int} (h1 : okQ t m = true) (h2 : okQ (m - t) m = true) (ht : 0 < t ∧ t < m) : EvQ (fun k => impl_QuoAdd.f k t m (m - t) m) (fun r => r = (1, 1, true)) := by
  have hm := (okQ_iff.1 h1).1
  have b1 : 0 ≤ t * m := Int.mul_nonneg (by omega) (by omega)
  have b2 : t * m ≤ m * m := Int.mul_le_mul_of_nonneg_right (by omega) (by omega)
  have b3 : m * m ≤ 1000000000 * 1000000000 := Int.mul_le_mul hm.2 hm.2 (by omega) (by omega)
  have b4 : 1 * 1 ≤ m * m := Int.mul_le_mul hm.1 hm.1 (by omega) (by omega)
  have e : (m - t) * m = m * m - t * m := Int.sub_mul m t m
  unfold impl_QuoAdd.f
  refine EvQ.call implOkQ (EvQ.call implOkQ (EvQ.pos h1 (EvQ.pos h2 ?_)))
  unfold qsF
  rw [e, w64 (n := t * m) (by omega) (by omega), w64 (n := m * m - t * m) (by omega) (by omega), w64 (n := t * m + (m * m - t * m)) (by omega) (by omega), w64 (n := m * m) (by omega) (by omega), show t * m + (m * m - t * m) = m * m by omega]
  refine EvQ.neg (by omega) ((implQuoOf _ _).mono ?_)
  rintro _ rfl
  exact quo_one (by omega)
end Go.Proofs.Ytfonigbkoligmaa.Cr

/- Chapter 43, plain: what a plan leaves, station by station; no plan does less than the work. No program in sight. -/
import Derived.Test.YtekgcfjoimdecaaHaulC
set_option linter.unusedVariables false
set_option linter.unusedSimpArgs false
namespace Go.Proofs.Ytekgcfjoimdecaa.HaulA
open Go.RowKit Go.Proofs.Ytekgcfjoimdecaa.P Go.Proofs.YtekgcfjoimdecaaW.PrintWords Go.Proofs.YtekgcfjoimdecaaW.PrintLast Go.Proofs.YtekgcfjoimdecaaW.PrintMore Go.Proofs.Ytekgcfjoimdecaa.Ev
/-- What a haul brings to station j. -/
def dl (h : Haul) (j : Int) : Int := (if j = h.f1 then h.f2 else 0) - (if j = h.f0 then h.f2 else 0)
theorem rd_app {r : List Int} {h : Haul} (hh : hv r.length h = true) {j : Int} (h0 : 0 ≤ j) : rd (app r h) j = rd r j + dl h j := by
  have := hv_of hh
  have hne : h.f1.toNat ≠ h.f0.toNat := by omega
  unfold app dl
  rw [rd_set, List.length_set, rd_set, rd_set, if_neg (show ¬ (h.f1.toNat = h.f0.toNat ∧ h.f0.toNat < r.length) from fun hx => hne hx.1)]
  by_cases e1 : j = h.f1
  · subst e1
    rw [if_pos ⟨rfl, by omega⟩, if_pos rfl, if_neg (by omega)]; omega
  · rw [if_neg (fun hx => e1 (by omega)), if_neg e1]
    by_cases e0 : j = h.f0
    · subst e0; rw [if_pos ⟨rfl, by omega⟩, if_pos rfl]; omega
    · rw [if_neg (fun hx => e0 (by omega)), if_neg e0]; omega
/-- What a plan brings to station j. -/
def dls (plan : List Haul) (j : Int) : Int := (plan.map (fun h => dl h j)).sum
theorem rd_after {plan : List Haul} : ∀ {l : List Int}, plan.all (hv l.length) = true → ∀ {j : Int}, 0 ≤ j → rd (after l plan) j = rd l j + dls plan j := by
  induction plan with
  | nil => intro l _ j _; simp [after, dls]
  | cons h plan ih =>
    intro l hh j hj
    simp only [List.all_cons, Bool.and_eq_true] at hh
    have e : after l (h :: plan) = after (app l h) plan := rfl
    rw [e, ih (by rw [app_length]; exact hh.2) hj, rd_app hh.1 hj]
    have : dls (h :: plan) j = dl h j + dls plan j := by simp [dls]
    rw [this]; omega
theorem zero_iff (r : List Int) : r.all (fun x => decide (x = 0)) = true ↔ ∀ j : Int, 0 ≤ j → rd r j = 0 := by
  rw [List.all_eq_true]
  constructor
  · intro h j hj
    unfold rd
    rw [List.getD_eq_getElem?_getD]
    by_cases hl : j.toNat < r.length
    · simp only [List.getElem?_eq_getElem hl, Option.getD_some]
      simpa using h _ (List.getElem_mem hl)
    · simp [List.getElem?_eq_none (Nat.le_of_not_lt hl)]
  · intro h x hx
    obtain ⟨i, hi, rfl⟩ := List.mem_iff_getElem.1 hx
    have := h (i : Int) (by omega)
    rw [rd_get hi] at this
    simpa using this
theorem planOk_iff (l : List Int) (plan : List Haul) : planOk l plan = true ↔ (bal l = true ∧ plan.length ≤ 100 ∧ plan.all (hv l.length) = true ∧ ∀ j : Int, 0 ≤ j → rd l j + dls plan j = 0) := by
  unfold planOk
  simp only [Bool.and_eq_true, decide_eq_true_eq]
  constructor
  · rintro ⟨h1, h2, h3, h4⟩
    refine ⟨h1, h2, h3, fun j hj => ?_⟩
    rw [← rd_after h3 hj]; exact (zero_iff _).1 h4 j hj
  · rintro ⟨h1, h2, h3, h4⟩
    refine ⟨h1, h2, h3, (zero_iff _).2 fun j hj => ?_⟩
    rw [rd_after h3 hj]; exact h4 j hj
theorem dls_append (p q : List Haul) (j : Int) : dls (p ++ q) j = dls p j + dls q j := by simp [dls]
theorem dls_reverse (p : List Haul) (j : Int) : dls p.reverse j = dls p j := by
  induction p with
  | nil => rfl
  | cons h p ih => rw [List.reverse_cons, dls_append, ih]; simp [dls]; omega
theorem costs_append (p q : List Haul) : costs (p ++ q) = costs p + costs q := by simp [costs]
theorem costs_reverse (p : List Haul) : costs p.reverse = costs p := by
  induction p with
  | nil => rfl
  | cons h p ih => rw [List.reverse_cons, costs_append, ih]; simp [costs]; omega
theorem planOk_reverse (l : List Int) (p : List Haul) : planOk l p.reverse = planOk l p := by
  rw [Bool.eq_iff_iff, planOk_iff, planOk_iff]
  simp only [List.length_reverse, List.all_reverse, dls_reverse]
/-- The work that is left, from a sum s on. -/
def W (s : Int) (r : List Int) : Int := abs (pre s r)
theorem W_nil (s : Int) : W s [] = 0 := rfl
theorem W_cons (s x : Int) (r : List Int) : W s (x :: r) = ab (s + x) + W (s + x) r := by unfold W abs; simp [pre]
theorem W_append (a b : List Int) : ∀ s, W s (a ++ b) = W s a + W (s + a.sum) b := by
  induction a with
  | nil => intro s; simp [W_nil]
  | cons x a ih => intro s; rw [List.cons_append, W_cons, W_cons, ih, List.sum_cons, show s + x + a.sum = s + (x + a.sum) by omega]; omega
theorem W_nonneg (s : Int) (r : List Int) : 0 ≤ W s r := by
  induction r generalizing s with
  | nil => simp [W_nil]
  | cons x r ih => rw [W_cons]; have := ab_nonneg (s + x); have := ih (s + x); omega
theorem ab_sub (x n : Int) : ab x - ab n ≤ ab (x - n) := by unfold ab; split <;> split <;> split <;> omega
/-- n taken ahead and laid down at place k: no sum between falls by more than n. -/
theorem W_shift (n : Int) (r : List Int) : ∀ (k : Nat) (s : Int) (hk : k < r.length), W s r - ab n * k ≤ W (s - n) (r.set k (r[k] + n)) := by
  induction r with
  | nil => intro k s hk; simp at hk
  | cons x r ih =>
    intro k s hk
    cases k with
    | zero => simp only [List.set_cons_zero, List.getElem_cons_zero, W_cons]; rw [show s - n + (x + n) = s + x by omega]; simp
    | succ k =>
      have := ih k (s + x) (by simpa using hk)
      simp only [List.set_cons_succ, List.getElem_cons_succ, W_cons]
      rw [show s - n + x = s + x - n by omega]
      have h1 := ab_sub (s + x) n
      have e : ab n * ((k + 1 : Nat) : Int) = ab n * k + ab n := by push_cast; rw [Int.mul_add, Int.mul_one]
      rw [e]; omega
theorem W_move (n : Int) {a b : Nat} (hab : a < b) : ∀ (r : List Int) (s : Int) (hb : b < r.length), W s r - ab n * ((b : Int) - a) ≤ W s ((r.set a (r[a] - n)).set b (r[b] + n)) := by
  intro r s hb
  obtain ⟨d, rfl⟩ : ∃ d, b = a + 1 + d := ⟨b - a - 1, by omega⟩
  have h1 : r = r.take a ++ r[a] :: r.drop (a + 1) := by rw [← List.drop_eq_getElem_cons, List.take_append_drop]
  generalize hz : r.take a = z at h1
  generalize hx : r[a] = x at h1 ⊢
  generalize hy : r.drop (a + 1) = y at h1
  have hzl : z.length = a := by rw [← hz, List.length_take]; omega
  have hyl : d < y.length := by rw [← hy, List.length_drop]; omega
  have hbv : r[a + 1 + d] = y[d] := by subst hy; rw [List.getElem_drop]
  rw [hbv]
  have e1 : (r.set a (x - n)).set (a + 1 + d) (y[d] + n) = z ++ (x - n) :: y.set d (y[d] + n) := by
    rw [h1, List.set_append, if_neg (by omega), hzl, Nat.sub_self, List.set_cons_zero, List.set_append, if_neg (by omega), hzl, show a + 1 + d - a = d + 1 by omega, List.set_cons_succ]
  rw [e1, h1, W_append, W_append, W_cons, W_cons]
  have h2 := W_shift n y d (s + z.sum + x) hyl
  have h3 := ab_sub (s + z.sum + x) n
  rw [show s + z.sum + (x - n) = s + z.sum + x - n by omega]
  have e2 : ab n * (((a + 1 + d : Nat) : Int) - a) = ab n * d + ab n := by
    rw [show (((a + 1 + d : Nat) : Int) - a) = (d : Int) + 1 by push_cast; omega, Int.mul_add, Int.mul_one]
  rw [e2]; omega
theorem rd_get' {l : List Int} {j : Int} (h0 : 0 ≤ j) (h : j.toNat < l.length) : rd l j = l[j.toNat] := by
  obtain ⟨n, rfl⟩ := Int.eq_ofNat_of_zero_le h0
  exact rd_get h
/-- A haul takes off no more than its own work. -/
theorem W_app {r : List Int} {h : Haul} (hh : hv r.length h = true) : W 0 r - cost1 h ≤ W 0 (app r h) := by
  have hv := hv_of hh
  have hne : h.f1.toNat ≠ h.f0.toNat := by omega
  have e : app r h = (r.set h.f0.toNat (rd r h.f0 - h.f2)).set h.f1.toNat (rd r h.f1 + h.f2) := by
    unfold app; rw [rd_set, if_neg (fun hx => hne hx.1)]
  rw [e, rd_get' (by omega) (by omega), rd_get' (by omega) (by omega)]
  have ha2 : ab h.f2 = h.f2 := by unfold ab; split <;> omega
  have ha3 : ab (-h.f2) = h.f2 := by unfold ab; split <;> omega
  rcases Int.lt_or_gt_of_ne hv.2.2.2.2.1 with hlt | hlt
  · have := W_move h.f2 (a := h.f0.toNat) (b := h.f1.toNat) (by omega) r 0 (by omega)
    rw [ha2] at this
    have hc : cost1 h = h.f2 * ((h.f1.toNat : Int) - h.f0.toNat) := by
      unfold cost1; congr 1; unfold ab; split <;> omega
    rw [hc]; exact this
  · have := W_move (-h.f2) (a := h.f1.toNat) (b := h.f0.toNat) (by omega) r 0 (by omega)
    rw [ha3] at this
    have hc : cost1 h = h.f2 * ((h.f0.toNat : Int) - h.f1.toNat) := by
      unfold cost1; congr 1; unfold ab; split <;> omega
    rw [hc, List.set_comm _ _ (by omega)]
    rw [show r[h.f1.toNat] - -h.f2 = r[h.f1.toNat] + h.f2 by omega, show r[h.f0.toNat] + -h.f2 = r[h.f0.toNat] - h.f2 by omega] at this
    exact this
theorem W_after {plan : List Haul} : ∀ {l : List Int}, plan.all (hv l.length) = true → W 0 l - costs plan ≤ W 0 (after l plan) := by
  induction plan with
  | nil => intro l _; simp [after, costs]
  | cons h plan ih =>
    intro l hh
    simp only [List.all_cons, Bool.and_eq_true] at hh
    have e : after l (h :: plan) = after (app l h) plan := rfl
    have h1 := ih (l := app l h) (by rw [app_length]; exact hh.2)
    have h2 := W_app hh.1
    have h3 : costs (h :: plan) = cost1 h + costs plan := by simp [costs]
    rw [e, h3]; omega
theorem W_zero {r : List Int} (h : r.all (fun x => decide (x = 0)) = true) : W 0 r = 0 := by
  induction r with
  | nil => rfl
  | cons x r ih =>
    simp only [List.all_cons, Bool.and_eq_true, decide_eq_true_eq] at h
    rw [W_cons, h.1]
    have := ih h.2
    simp only [Int.add_zero, this]; rfl
/-- No plan does less than the work. -/
theorem work_le {l : List Int} {plan : List Haul} (h : planOk l plan = true) : work l ≤ costs plan := by
  obtain ⟨h1, _, h3, h4⟩ := planOk_of h
  have a := W_after h3
  rw [W_zero h4] at a
  unfold work; rw [h1]
  simp only [if_true]
  unfold W at a
  omega
/-- All loads of a plan. -/
def loads (p : List Haul) : Int := (p.map (fun h => h.f2)).sum
theorem loads_append (p q : List Haul) : loads (p ++ q) = loads p + loads q := by simp [loads]
theorem loads_one (h : Haul) : loads [h] = h.f2 := by simp [loads]
theorem loads_cons (h : Haul) (p : List Haul) : loads (h :: p) = h.f2 + loads p := by simp [loads]
theorem loads_reverse (p : List Haul) : loads p.reverse = loads p := by
  induction p with
  | nil => rfl
  | cons h p ih => rw [List.reverse_cons, loads_append, ih, loads_one, loads_cons]; omega
theorem loads_le {n : Nat} {plan : List Haul} (hh : plan.all (hv n) = true) (hn : n ≤ 12) : loads plan ≤ costs plan ∧ 0 ≤ loads plan := by
  induction plan with
  | nil => simp [costs, loads]
  | cons h plan ih =>
    simp only [List.all_cons, Bool.and_eq_true] at hh
    have := ih hh.2
    have := cost1_bound hh.1 hn
    have hv := hv_of hh.1
    have e : costs (h :: plan) = cost1 h + costs plan := by simp [costs]
    rw [e, loads_cons]; omega
end Go.Proofs.Ytekgcfjoimdecaa.HaulA

/- Chapter 43, plain: the plan joins stations that have too much with those that miss some, is a plan, costs the work, and is short. No program in sight. -/
import Derived.Test.YtekgcfjoimdecaaHaulE
set_option linter.unusedVariables false
set_option linter.unusedSimpArgs false
namespace Go.Proofs.Ytekgcfjoimdecaa.HaulA
open Go.RowKit Go.Proofs.Ytekgcfjoimdecaa.P Go.Proofs.YtekgcfjoimdecaaW.PrintWords Go.Proofs.YtekgcfjoimdecaaW.PrintLast Go.Proofs.YtekgcfjoimdecaaW.PrintMore Go.Proofs.Ytekgcfjoimdecaa.Ev
/-- Without a station that has too much, balanced stations are all done. -/
theorem no_pos {r : List Int} (h : ∀ j (hj : j < r.length), posB r[j] = false) : r.sum ≤ 0 ∧ (r.sum = 0 → r.all (fun x => decide (x = 0)) = true) := by
  induction r with
  | nil => simp
  | cons x r ih =>
    have h0 : posB x = false := h 0 (by simp)
    have hx : x ≤ 0 := by simpa [posB] using h0
    have := ih (fun j hj => by have h' := h (j + 1) (by simpa using hj); rwa [List.getElem_cons_succ] at h')
    refine ⟨by rw [List.sum_cons]; omega, fun hs => ?_⟩
    rw [List.sum_cons] at hs
    rw [List.all_cons, this.2 (by omega), Bool.and_true]
    exact decide_eq_true (by omega)
/-- A haul takes off its work exactly where the stations ahead of the first that has too much, or misses some, are done. -/
theorem ab_add_of {x n : Int} (hn : 0 ≤ n) (h : 0 ≤ x) : ab (x + n) = ab x + n := by unfold ab; split <;> split <;> omega
/-- n laid down ahead and taken at place k, all sums between not below 0: each sum was greater by n. -/
theorem W_shift_eq (n : Int) (hn : 0 ≤ n) (r : List Int) : ∀ (k : Nat) (s : Int) (hk : k < r.length), (∀ j, j < k → 0 ≤ s + (r.take j).sum ∧ 0 ≤ s + (r.take (j + 1)).sum) → W (s + n) r = W s (r.set k (r[k] + n)) + n * k := by
  induction r with
  | nil => intro k s hk; simp at hk
  | cons x r ih =>
    intro k s hk h
    cases k with
    | zero => simp only [List.set_cons_zero, List.getElem_cons_zero, W_cons]; rw [show s + n + x = s + (x + n) by omega]; simp
    | succ k =>
      have h0 := (h 0 (by omega)).2
      simp only [List.take_succ_cons, List.take_zero, List.sum_cons, List.sum_nil, Int.add_zero] at h0
      have h' : ∀ j, j < k → 0 ≤ s + x + (r.take j).sum ∧ 0 ≤ s + x + (r.take (j + 1)).sum := by
        intro j hj
        have a := h (j + 1) (by omega)
        simp only [List.take_succ_cons, List.sum_cons] at a ⊢
        omega
      have := ih k (s + x) (by simpa using hk) h'
      simp only [List.set_cons_succ, List.getElem_cons_succ, W_cons]
      rw [show s + n + x = s + x + n by omega, this, ab_add_of hn h0]
      have e : n * ((k + 1 : Nat) : Int) = n * k + n := by push_cast; rw [Int.mul_add, Int.mul_one]
      rw [e]; omega
theorem ab_neg (x : Int) : ab (-x) = ab x := by unfold ab; split <;> split <;> omega
theorem W_neg (r : List Int) : ∀ s, W (-s) (r.map (fun x => -x)) = W s r := by
  induction r with
  | nil => intro s; rfl
  | cons x r ih => intro s; rw [List.map_cons, W_cons, W_cons, show -s + -x = -(s + x) by omega, ab_neg, ih]
/-- The plain step: at the first place x > 0 (all ahead 0), at place k behind it -n: all sums between x and k are at least n. -/
theorem W_first {z y : List Int} {x n : Int} {k : Nat} (hz : z.all (fun v => decide (v = 0)) = true) (hk : k < y.length) (hn : 0 ≤ n) (hx : n ≤ x) (hy : ∀ j (hj : j < k), 0 ≤ y[j]'(by omega)) :
    W 0 (z ++ x :: y) = W 0 (z ++ (x - n) :: y.set k (y[k] + n)) + n * ((k : Int) + 1) := by
  have hz0 : z.sum = 0 := by
    clear hy hk
    induction z with
    | nil => rfl
    | cons v z ih => simp only [List.all_cons, Bool.and_eq_true, decide_eq_true_eq] at hz; rw [List.sum_cons, hz.1, ih hz.2]; rfl
  rw [W_append, W_append, W_cons, W_cons, hz0]
  simp only [Int.add_zero, Int.zero_add]
  have hs : ∀ j, j ≤ k → 0 ≤ (y.take j).sum := by
    intro j
    induction j with
    | zero => intro _; simp
    | succ j ih =>
      intro hj
      rw [List.take_succ_eq_append_getElem (by omega), List.sum_append, List.sum_cons, List.sum_nil]
      have := ih (by omega)
      have := hy j (by omega)
      omega
  have h1 := W_shift_eq n hn y k (x - n) hk (fun j hj => by have := hs j (by omega); have := hs (j + 1) (by omega); omega)
  rw [show x - n + n = x by omega] at h1
  have h2 := ab_add_of (x := x - n) hn (by omega)
  rw [show x - n + n = x by omega] at h2
  rw [h1, h2, Int.mul_add, Int.mul_one]
  omega
/-- What the next haul takes off is its work. -/
theorem W_next {r : List Int} (hl : r.length ≤ 12) (hs : r.sum = 0) (hb : Bnd 1000 r) (hp : 0 ≤ fst posB r) : W 0 r = W 0 (app r (next r)) + cost1 (next r) := by
  obtain ⟨h1, h2, h3, h4, h5, h6⟩ := next_ok hl hs hb hp
  have hvv := hv_of h1
  have hm : (next r).f2 ≤ rd r (next r).f0 ∧ (next r).f2 ≤ -(rd r (next r).f1) := by rw [h4]; unfold mn; split <;> omega
  rcases fst_cases posB r with ⟨e, _⟩ | ⟨i, hi, ei, hpi, hbi⟩
  · omega
  rcases fst_cases negB r with ⟨e, _⟩ | ⟨j, hj, ej, hpj, hbj⟩
  · omega
  have f0 : (next r).f0 = i := ei
  have f1 : (next r).f1 = j := ej
  have hne : (next r).f1.toNat ≠ (next r).f0.toNat := by omega
  have e : app r (next r) = (r.set (next r).f0.toNat (rd r (next r).f0 - (next r).f2)).set (next r).f1.toNat (rd r (next r).f1 + (next r).f2) := by
    unfold app; rw [rd_set, if_neg (fun hx => hne hx.1)]
  have hc : cost1 (next r) = (next r).f2 * ab ((next r).f0 - (next r).f1) := rfl
  rw [e, hc]
  simp only [f0, f1, rd_get hi, rd_get hj, Int.toNat_natCast] at h2 h3 hm hvv ⊢
  generalize (next r).f2 = n at hm hvv ⊢
  have hij : i ≠ j := by
    intro e
    subst e
    omega
  rcases Nat.lt_or_gt_of_ne hij with hlt | hlt
  · -- the station that has too much lies ahead
    obtain ⟨d, rfl⟩ : ∃ d, j = i + 1 + d := ⟨j - i - 1, by omega⟩
    have g1 : r = r.take i ++ r[i] :: r.drop (i + 1) := by rw [← List.drop_eq_getElem_cons, List.take_append_drop]
    have hyl : d < (r.drop (i + 1)).length := by rw [List.length_drop]; omega
    have hbv : r[i + 1 + d] = (r.drop (i + 1))[d] := by rw [List.getElem_drop]
    have hz : (r.take i).all (fun v => decide (v = 0)) = true := by
      rw [List.all_eq_true]
      intro v hv
      obtain ⟨q, hq, rfl⟩ := List.mem_iff_getElem.1 hv
      rw [List.length_take] at hq
      have a := hbi q (by omega)
      have b := hbj q (by omega)
      simp only [posB, negB, decide_eq_false_iff_not] at a b
      rw [List.getElem_take]
      exact decide_eq_true (by omega)
    have hy : ∀ q (hq : q < d), 0 ≤ (r.drop (i + 1))[q]'(by omega) := by
      intro q hq
      have b := hbj (i + 1 + q) (by omega)
      simp only [negB, decide_eq_false_iff_not] at b
      rw [List.getElem_drop]; omega
    have hzl : (r.take i).length = i := by rw [List.length_take]; omega
    have e1 : (r.set i (r[i] - n)).set (i + 1 + d) (r[i + 1 + d] + n) = r.take i ++ (r[i] - n) :: (r.drop (i + 1)).set d ((r.drop (i + 1))[d] + n) := by
      rw [← hbv]
      generalize r[i + 1 + d] + n = u
      generalize r[i] - n = u'
      rw [g1, List.set_append, if_neg (by omega), hzl, Nat.sub_self, List.set_cons_zero, List.set_append, if_neg (by omega), hzl, show i + 1 + d - i = d + 1 by omega, List.set_cons_succ]
      congr 1
      · rw [← g1]
      · rw [← g1]
    have hW := W_first (z := r.take i) (y := r.drop (i + 1)) (x := r[i]) (n := n) (k := d) hz hyl (by omega) hm.1 hy
    rw [← g1] at hW
    rw [e1, hW]
    congr 2
    unfold ab; split <;> push_cast <;> omega
  · -- the station that misses some lies ahead: the same with all signs turned
    obtain ⟨d, rfl⟩ : ∃ d, i = j + 1 + d := ⟨i - j - 1, by omega⟩
    have g1 : r = r.take j ++ r[j] :: r.drop (j + 1) := by rw [← List.drop_eq_getElem_cons, List.take_append_drop]
    have hyl : d < (r.drop (j + 1)).length := by rw [List.length_drop]; omega
    have hbv : r[j + 1 + d] = (r.drop (j + 1))[d] := by rw [List.getElem_drop]
    have hz : ((r.take j).map (fun x => -x)).all (fun v => decide (v = 0)) = true := by
      rw [List.all_eq_true]
      intro v hv
      obtain ⟨v', hv', rfl⟩ := List.mem_map.1 hv
      obtain ⟨q, hq, rfl⟩ := List.mem_iff_getElem.1 hv'
      rw [List.length_take] at hq
      have a := hbi q (by omega)
      have b := hbj q (by omega)
      simp only [posB, negB, decide_eq_false_iff_not] at a b
      rw [List.getElem_take]
      exact decide_eq_true (by omega)
    have hy : ∀ q (hq : q < d), 0 ≤ ((r.drop (j + 1)).map (fun x => -x))[q]'(by rw [List.length_map]; omega) := by
      intro q hq
      have b := hbi (j + 1 + q) (by omega)
      simp only [posB, decide_eq_false_iff_not] at b
      rw [List.getElem_map, List.getElem_drop]; omega
    have hzl : (r.take j).length = j := by rw [List.length_take]; omega
    have e1 : (r.set (j + 1 + d) (r[j + 1 + d] - n)).set j (r[j] + n) = r.take j ++ (r[j] + n) :: (r.drop (j + 1)).set d ((r.drop (j + 1))[d] - n) := by
      rw [← hbv, List.set_comm _ _ (by omega)]
      generalize r[j + 1 + d] - n = u
      generalize r[j] + n = u'
      rw [g1, List.set_append, if_neg (by omega), hzl, Nat.sub_self, List.set_cons_zero, List.set_append, if_neg (by omega), hzl, show j + 1 + d - j = d + 1 by omega, List.set_cons_succ]
      congr 1
      · rw [← g1]
      · rw [← g1]
    have hW := W_first (z := (r.take j).map (fun x => -x)) (y := (r.drop (j + 1)).map (fun x => -x)) (x := -r[j]) (n := n) (k := d) hz (by rw [List.length_map]; exact hyl) (by omega) hm.2 hy
    have m1 := (congrArg (List.map (fun x : Int => -x)) g1).symm
    rw [List.map_append, List.map_cons] at m1
    have m2 : (r.take j).map (fun x => -x) ++ (-r[j] - n) :: ((r.drop (j + 1)).map (fun x => -x)).set d (((r.drop (j + 1)).map (fun x => -x))[d]'(by rw [List.length_map]; exact hyl) + n) = (r.take j ++ (r[j] + n) :: (r.drop (j + 1)).set d ((r.drop (j + 1))[d] - n)).map (fun x => -x) := by
      rw [List.map_append, List.map_cons, List.map_set, List.getElem_map]
      congr 2
      · omega
      · congr 1; omega
    have z0 := W_neg r 0
    have z1 := W_neg (r.take j ++ (r[j] + n) :: (r.drop (j + 1)).set d ((r.drop (j + 1))[d] - n)) 0
    rw [Int.neg_zero] at z0 z1
    rw [m1, m2, z0, z1] at hW
    rw [e1, hW]
    congr 2
    unfold ab; split <;> push_cast <;> omega
/-- All of the plan from r on. -/
theorem planF_all (d : Nat) : ∀ (r : List Int), r.length ≤ 12 → r.sum = 0 → Bnd 1000 r → nz r ≤ d →
    (planF d r).all (hv r.length) = true ∧ (after r (planF d r)).all (fun x => decide (x = 0)) = true ∧ W 0 r = costs (planF d r) ∧ ((planF d r).length : Int) ≤ (if nz r = 0 then 0 else nz r - 1) ∧ ∀ h ∈ planF d r, 0 < rd r h.f0 ∧ rd r h.f1 < 0 := by
  have hend : ∀ (r : List Int), r.sum = 0 → fst posB r < 0 → (∀ d, planF d r = []) ∧ r.all (fun x => decide (x = 0)) = true := by
    intro r hs hp
    refine ⟨fun d => by cases d <;> simp [planF, hp], ?_⟩
    rcases fst_cases posB r with ⟨_, h⟩ | ⟨i, hi, ei, _⟩
    · exact (no_pos h).2 hs
    · omega
  have hfin : ∀ (d : Nat) (r : List Int), r.sum = 0 → fst posB r < 0 → (planF d r).all (hv r.length) = true ∧ (after r (planF d r)).all (fun x => decide (x = 0)) = true ∧ W 0 r = costs (planF d r) ∧ ((planF d r).length : Int) ≤ (if nz r = 0 then 0 else nz r - 1) ∧ ∀ h ∈ planF d r, 0 < rd r h.f0 ∧ rd r h.f1 < 0 := by
    intro d r hs hp
    obtain ⟨e, h0⟩ := hend r hs hp
    have hn := nz_bound r
    rw [e]
    exact ⟨rfl, by simpa [after] using h0, by rw [W_zero h0]; rfl, by split <;> simp <;> omega, by simp⟩
  induction d with
  | zero =>
    intro r hl hs hb hn
    refine hfin 0 r hs ?_
    by_cases h : fst posB r < 0
    · exact h
    · have := (step_ok hl hs hb (by omega)).2.2.2; omega
  | succ d ih =>
    intro r hl hs hb hn
    by_cases hp : fst posB r < 0
    · exact hfin _ r hs hp
    · have hp' : 0 ≤ fst posB r := by omega
      obtain ⟨h1, h2, h3, h4, h5, h6⟩ := next_ok hl hs hb hp'
      obtain ⟨g1, g2, g3, g4⟩ := step_ok hl hs hb hp'
      have hvv := hv_of h1
      obtain ⟨a1, a2, a3, a4, a5⟩ := ih (app r (next r)) (by rw [app_length]; exact hl) g1 g2 (by omega)
      have e : planF (d + 1) r = next r :: planF d (app r (next r)) := by simp [planF, hp]
      rw [app_length] at a1
      have hsg : ∀ j : Int, 0 ≤ j → (0 < rd (app r (next r)) j → 0 < rd r j) ∧ (rd (app r (next r)) j < 0 → rd r j < 0) := by
        intro j hj
        rw [rd_app h1 hj]
        have hm : (next r).f2 ≤ rd r (next r).f0 ∧ (next r).f2 ≤ -(rd r (next r).f1) := by rw [h4]; unfold mn; split <;> omega
        unfold dl
        by_cases e1 : j = (next r).f1
        · rw [if_pos e1, if_neg (by omega)]; rw [e1]; omega
        · rw [if_neg e1]
          by_cases e0 : j = (next r).f0
          · rw [if_pos e0]; rw [e0]; omega
          · rw [if_neg e0]; omega
      rw [e]
      refine ⟨by rw [List.all_cons, h1, a1]; rfl, a2, ?_, ?_, ?_⟩
      · rw [W_next hl hs hb hp', a3]
        have : costs (next r :: planF d (app r (next r))) = cost1 (next r) + costs (planF d (app r (next r))) := by simp [costs]
        rw [this]; omega
      · rw [List.length_cons, if_neg (by omega)]
        push_cast
        split at a4 <;> omega
      · intro h hh
        rcases List.mem_cons.1 hh with rfl | hh
        · exact ⟨h2, h3⟩
        · have hv2 := hv_of (List.all_eq_true.1 a1 h hh)
          exact ⟨(hsg h.f0 (by omega)).1 (a5 h hh).1, (hsg h.f1 (by omega)).2 (a5 h hh).2⟩
theorem plan_all {l : List Int} (hb : bal l = true) : planOk l (plan l) = true ∧ costs (plan l) = work l ∧ (plan l).length < l.length ∧ ∀ h ∈ plan l, 0 < rd l h.f0 ∧ rd l h.f1 < 0 := by
  have ho := bal_ok hb
  obtain ⟨h1, h12, _⟩ := okS_of ho
  have hn := nz_bound l
  have e : plan l = planF l.length l := by unfold plan; rw [hb]; rfl
  obtain ⟨a1, a2, a3, a4, a5⟩ := planF_all l.length l h12 (bal_sum hb) (Bnd.of_okS ho) hn.2
  have hp := planF_length l.length l
  rw [e]
  refine ⟨?_, ?_, ?_, a5⟩
  · unfold planOk
    rw [hb, a1, a2]
    simp only [Bool.true_and, Bool.and_true, decide_eq_true_eq]
    omega
  · unfold work; rw [hb]; exact a3.symm
  · split at a4 <;> omega
end Go.Proofs.Ytekgcfjoimdecaa.HaulA

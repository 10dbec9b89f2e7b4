/- Chapter 43, plain: the plan that the reference finds. No program in sight. -/
import Derived.Test.YtekgcfjoimdecaaHaulD
import Derived.Test.YtekgcfjoimdecaaPx26
set_option linter.unusedVariables false
set_option linter.unusedSimpArgs false
namespace Go.Proofs.Ytekgcfjoimdecaa.HaulA
open Go.RowKit Go.Proofs.Ytekgcfjoimdecaa.P Go.Proofs.YtekgcfjoimdecaaW.PrintWords Go.Proofs.YtekgcfjoimdecaaW.PrintLast Go.Proofs.YtekgcfjoimdecaaW.PrintMore Go.Proofs.Ytekgcfjoimdecaa.Ev
def posB (x : Int) : Bool := decide (0 < x)
def negB (x : Int) : Bool := decide (x < 0)
/-- The first place of a kind, or -1. -/
def fst (p : Int → Bool) (r : List Int) : Int := if r.any p then ((r.findIdx p : Nat) : Int) else -1
theorem fst_found {p : Int → Bool} {r : List Int} {i : Nat} (hi : i < r.length) (h : p r[i] = true) (hb : ∀ j (hj : j < i), p (r[j]'(by omega)) = false) : fst p r = i := by
  unfold fst
  have ha : r.any p = true := List.any_eq_true.2 ⟨r[i], List.getElem_mem hi, h⟩
  rw [if_pos ha]
  congr 1
  exact (List.findIdx_eq hi).2 ⟨h, fun j hj => hb j hj⟩
theorem fst_none {p : Int → Bool} {r : List Int} (h : ∀ j (hj : j < r.length), p r[j] = false) : fst p r = -1 := by
  unfold fst
  rw [if_neg]
  rw [List.any_eq_true]
  rintro ⟨x, hx, hp⟩
  obtain ⟨j, hj, rfl⟩ := List.mem_iff_getElem.1 hx
  rw [h j hj] at hp
  exact Bool.noConfusion hp
theorem fst_cases (p : Int → Bool) (r : List Int) : (fst p r = -1 ∧ ∀ j (hj : j < r.length), p r[j] = false) ∨ ∃ (i : Nat) (hi : i < r.length), fst p r = i ∧ p r[i] = true ∧ ∀ j (hj : j < i), p (r[j]'(by omega)) = false := by
  by_cases h : r.any p = true
  · right
    have hlt := List.findIdx_lt_length_of_exists (List.any_eq_true.1 h)
    refine ⟨r.findIdx p, hlt, by unfold fst; rw [if_pos h], List.findIdx_getElem, fun j hj => ?_⟩
    simpa using List.not_of_lt_findIdx hj
  · left
    refine ⟨by unfold fst; rw [if_neg h], fun j hj => ?_⟩
    cases hp : p r[j] with
    | false => rfl
    | true => exact absurd (List.any_eq_true.2 ⟨r[j], List.getElem_mem hj, hp⟩) h
theorem sign_eq (x : Int) : spec_l1Sign.f x = some (if 0 < x then 1 else if x < 0 then -1 else 0) := by
  unfold spec_l1Sign.f mx mn
  congr 1
  split <;> split <;> split <;> (try split) <;> omega
theorem firstOf {p : Int → Bool} {s : Int} (hp : ∀ x, ((if 0 < x then (1 : Int) else if x < 0 then -1 else 0) = s) ↔ p x = true) {r : List Int} (hl : r.length ≤ 12) : EvQ (fun k => spec_l43First.f k r s) (fun x => x = fst p r) := by
  unfold spec_l43First.f
  refine EvQ.loop (σ := Unit) (g := fun k i _ => spec_l43First.l0 k r s i) r.length (fun i _ => ∀ j (hj : j < i) (h : j < r.length), p r[j] = false) ?_ ?_ 0 () (by omega) (by intro j hj; omega)
  · intro i _ hi hI ih
    refine EvQ.step (fun k => by simp only [spec_l43First.l0]; rfl) ?_
    refine EvQ.pos (by omega) (EvQ.pos (by omega) ?_)
    rw [rd_get hi]
    refine EvQ.bindc (sign_eq _) (EvQ.ite (fun h => EvQ.ret ?_) (fun h => ?_))
    · exact (fst_found hi ((hp _).1 h) (fun j hj => hI j hj (by omega))).symm
    · rw [w64i hi (by omega)]
      refine ih () (fun j hj hlt => ?_)
      by_cases e : j = i
      · subst e
        cases hq : p r[j] with
        | false => rfl
        | true => exact absurd ((hp _).2 hq) h
      · exact hI j (by omega) hlt
  · intro _ hI
    refine EvQ.step (fun k => by simp only [spec_l43First.l0]; rfl) ?_
    refine EvQ.neg (by omega) (EvQ.ret ?_)
    exact (fst_none (fun j hj => hI j hj hj)).symm
theorem firstPos {r : List Int} (hl : r.length ≤ 12) : EvQ (fun k => spec_l43First.f k r 1) (fun x => x = fst posB r) :=
  firstOf (fun x => by unfold posB; rw [decide_eq_true_eq]; split <;> (try split) <;> omega) hl
theorem firstNeg {r : List Int} (hl : r.length ≤ 12) : EvQ (fun k => spec_l43First.f k r (-1)) (fun x => x = fst negB r) :=
  firstOf (fun x => by unfold negB; rw [decide_eq_true_eq]; split <;> (try split) <;> omega) hl
/-- The haul that is found next. -/
def next (r : List Int) : Haul := ⟨fst posB r, fst negB r, mn (rd r (fst posB r)) (-(rd r (fst negB r)))⟩
/-- The plan, as many hauls as are wanted. -/
def planF : Nat → List Int → List Haul
  | 0, _ => []
  | d + 1, r => if fst posB r < 0 then [] else next r :: planF d (app r (next r))
/-- A sum over a list after one place has turned. -/
theorem msum_set (f : Int → Int) (r : List Int) : ∀ (i : Nat) (hi : i < r.length) (v : Int), ((r.set i v).map f).sum = (r.map f).sum - f r[i] + f v := by
  induction r with
  | nil => intro i hi; simp at hi
  | cons x r ih =>
    intro i hi v
    cases i with
    | zero => simp only [List.set_cons_zero, List.map_cons, List.sum_cons, List.getElem_cons_zero]; omega
    | succ i =>
      have := ih i (by simpa using hi) v
      simp only [List.set_cons_succ, List.map_cons, List.sum_cons, List.getElem_cons_succ, this]; omega
theorem msum_app (f : Int → Int) {r : List Int} {h : Haul} (hh : hv r.length h = true) : ((app r h).map f).sum = (r.map f).sum - f (rd r h.f0) + f (rd r h.f0 - h.f2) - f (rd r h.f1) + f (rd r h.f1 + h.f2) := by
  have hv := hv_of hh
  have hne : h.f1.toNat ≠ h.f0.toNat := by omega
  have e : app r h = (r.set h.f0.toNat (rd r h.f0 - h.f2)).set h.f1.toNat (rd r h.f1 + h.f2) := by
    unfold app; rw [rd_set, if_neg (fun hx => hne hx.1)]
  rw [e, msum_set f _ _ (by rw [List.length_set]; omega), msum_set f _ _ (by omega), List.getElem_set_ne (by omega), rd_get' (l := r) (j := h.f0) (by omega) (by omega), rd_get' (l := r) (j := h.f1) (by omega) (by omega)]
/-- How many are not 0. -/
def nzf (x : Int) : Int := if x = 0 then 0 else 1
def nz (r : List Int) : Int := (r.map nzf).sum
theorem nz_bound (r : List Int) : 0 ≤ nz r ∧ nz r ≤ r.length := by
  unfold nz
  induction r with
  | nil => simp
  | cons x r ih => simp only [List.map_cons, List.sum_cons, List.length_cons]; have : 0 ≤ nzf x ∧ nzf x ≤ 1 := by unfold nzf; split <;> omega
                   push_cast; omega
theorem nonneg_sum {r : List Int} (h : ∀ j (hj : j < r.length), negB r[j] = false) : 0 ≤ r.sum ∧ ∀ j (hj : j < r.length), r[j] ≤ r.sum := by
  induction r with
  | nil => simp
  | cons x r ih =>
    have h0 := h 0 (by simp)
    have hx : 0 ≤ x := by simpa [negB] using h0
    have := ih (fun j hj => by have h' := h (j + 1) (by simpa using hj); rwa [List.getElem_cons_succ] at h')
    refine ⟨by rw [List.sum_cons]; omega, fun j hj => ?_⟩
    cases j with
    | zero => simp only [List.getElem_cons_zero, List.sum_cons]; omega
    | succ j => have := this.2 j (by simpa using hj); simp only [List.getElem_cons_succ, List.sum_cons]; omega
/-- A rest that is balanced and has too much somewhere: the next haul is one, and takes at least one station. -/
theorem next_ok {r : List Int} (hl : r.length ≤ 12) (hs : r.sum = 0) (hb : Bnd 1000 r) (hp : 0 ≤ fst posB r) :
    hv r.length (next r) = true ∧ 0 < rd r (next r).f0 ∧ rd r (next r).f1 < 0 ∧ (next r).f2 = mn (rd r (next r).f0) (-(rd r (next r).f1)) ∧ 0 ≤ fst negB r ∧ fst negB r < r.length := by
  rcases fst_cases posB r with ⟨h, _⟩ | ⟨i, hi, h, hpi, _⟩
  · omega
  rcases fst_cases negB r with ⟨h2, hno⟩ | ⟨j, hj, h2, hnj, _⟩
  · have := nonneg_sum hno
    have h3 := this.2 i hi
    have : 0 < r[i] := by simpa [posB] using hpi
    omega
  · have e1 : 0 < r[i] := by simpa [posB] using hpi
    have e2 : r[j] < 0 := by simpa [negB] using hnj
    have b1 := hb i
    have b2 := hb j
    unfold next
    rw [h, h2]
    simp only []
    have r0 := rd_get hi
    have r1 := rd_get hj
    rw [r0] at b1; rw [r1] at b2
    simp only [r0, r1]
    refine ⟨?_, e1, e2, trivial, by omega, by omega⟩
    unfold hv
    rw [decide_eq_true_eq]
    have hm : 1 ≤ mn r[i] (-r[j]) ∧ mn r[i] (-r[j]) ≤ 1000000 := by unfold mn; split <;> omega
    have hij : (i : Int) ≠ j := by
      intro e
      have : i = j := by omega
      subst this; omega
    simp only []
    omega
theorem map_id_sum (r : List Int) : (r.map (fun x => x)).sum = r.sum := by simp
theorem step_ok {r : List Int} (hl : r.length ≤ 12) (hs : r.sum = 0) (hb : Bnd 1000 r) (hp : 0 ≤ fst posB r) :
    (app r (next r)).sum = 0 ∧ Bnd 1000 (app r (next r)) ∧ nz (app r (next r)) ≤ nz r - 1 ∧ 2 ≤ nz r := by
  obtain ⟨h1, h2, h3, h4, _⟩ := next_ok hl hs hb hp
  have hvv := hv_of h1
  have s1 := msum_app (fun x => x) h1
  rw [map_id_sum, map_id_sum] at s1
  have s2 := msum_app nzf h1
  have key : ∀ j : Int, 0 ≤ j → -1000 ≤ rd (app r (next r)) j ∧ rd (app r (next r)) j ≤ 1000 := by
    intro j hj
    rw [rd_app h1 hj]
    have := hb j
    have b0 := hb (next r).f0
    have b1 := hb (next r).f1
    have hm : (next r).f2 ≤ rd r (next r).f0 ∧ (next r).f2 ≤ -(rd r (next r).f1) := by rw [h4]; unfold mn; split <;> omega
    unfold dl
    by_cases e1 : j = (next r).f1
    · rw [if_pos e1, if_neg (by omega)]; rw [e1]; omega
    · rw [if_neg e1]
      by_cases e0 : j = (next r).f0
      · rw [if_pos e0]; rw [e0]; omega
      · rw [if_neg e0]; omega
  refine ⟨by omega, fun j => ?_, ?_, ?_⟩
  · by_cases hj : 0 ≤ j
    · exact key j hj
    · have h0 : j.toNat = (0 : Int).toNat := by omega
      have e : rd (app r (next r)) j = rd (app r (next r)) 0 := by unfold rd; rw [h0]
      rw [e]; exact key 0 (by omega)
  · unfold nz at *
    rw [s2, h4]
    have : ∀ a b : Int, 0 < a → b < 0 → -nzf a + nzf (a - mn a (-b)) - nzf b + nzf (b + mn a (-b)) ≤ -1 := by
      intro a b ha hb'
      unfold nzf mn
      repeat' split
      all_goals omega
    have := this _ _ h2 h3
    omega
  · have h5 := nz_bound (app r (next r))
    unfold nz at *
    have : ∀ a b : Int, 0 < a → b < 0 → nzf (a - mn a (-b)) + nzf (b + mn a (-b)) ≤ 1 ∧ nzf a = 1 ∧ nzf b = 1 ∧ 0 ≤ nzf (a - mn a (-b)) ∧ 0 ≤ nzf (b + mn a (-b)) := by
      intro a b ha hb'
      unfold nzf mn
      repeat' split
      all_goals omega
    have := this _ _ h2 h3
    rw [← h4] at this
    -- two places at least: f0 and f1
    have hset : nz (((r.set (next r).f0.toNat 0).set (next r).f1.toNat 0)) = (r.map nzf).sum - 2 := by
      unfold nz
      have hne : (next r).f1.toNat ≠ (next r).f0.toNat := by omega
      rw [msum_set nzf _ _ (by rw [List.length_set]; omega), msum_set nzf _ _ (by omega), List.getElem_set_ne (by omega), ← rd_get' (l := r) (j := (next r).f0) (by omega) (by omega), ← rd_get' (l := r) (j := (next r).f1) (by omega) (by omega)]
      have z : nzf 0 = 0 := rfl
      rw [z]; omega
    have := (nz_bound (((r.set (next r).f0.toNat 0).set (next r).f1.toNat 0))).1
    omega
theorem planLoop {l : List Int} (d : Nat) : ∀ (r : List Int) (out : List Haul), r.length ≤ 12 → r.sum = 0 → Bnd 1000 r → nz r ≤ d → out.length + d ≤ 100 →
    EvQ (fun k => spec_HaulPlan.l0 k out r) (fun x => x = (out ++ planF d r, true)) := by
  have hend : ∀ (d : Nat) (r : List Int) (out : List Haul), r.length ≤ 12 → fst posB r < 0 → EvQ (fun k => spec_HaulPlan.l0 k out r) (fun x => x = (out ++ planF d r, true)) := by
    intro d r out hl hp
    refine EvQ.step (fun k => by simp only [spec_HaulPlan.l0]; rfl) ?_
    refine EvQ.call (firstPos hl) (EvQ.neg (by omega) (EvQ.ret ?_))
    cases d with
    | zero => simp [planF]
    | succ d => simp [planF, hp]
  induction d with
  | zero =>
    intro r out hl hs hb hn _
    refine hend 0 r out hl ?_
    by_cases h : fst posB r < 0
    · exact h
    · have := (step_ok hl hs hb (by omega)).2.2.2; omega
  | succ d ih =>
    intro r out hl hs hb hn hlen
    by_cases hp : fst posB r < 0
    · exact hend (d + 1) r out hl hp
    · have hp' : 0 ≤ fst posB r := by omega
      obtain ⟨h1, h2, h3, h4, h5, h6⟩ := next_ok hl hs hb hp'
      obtain ⟨g1, g2, g3, g4⟩ := step_ok hl hs hb hp'
      have hvv := hv_of h1
      have b0 := hb (next r).f0
      have b1 := hb (next r).f1
      have f0e : (next r).f0 = fst posB r := rfl
      have f1e : (next r).f1 = fst negB r := rfl
      have w1 : wrap64 (-(rd r (fst negB r))) = -(rd r (fst negB r)) := by rw [← f1e]; exact w64 (by omega) (by omega)
      have f2e : mn (rd r (fst posB r)) (wrap64 (-(rd r (fst negB r)))) = (next r).f2 := by rw [w1]; rfl
      refine EvQ.step (fun k => by simp only [spec_HaulPlan.l0]; rfl) ?_
      refine EvQ.call (firstPos hl) (EvQ.pos hp' (EvQ.call (firstPos hl) (EvQ.call (firstNeg hl) ?_)))
      rw [f2e, ← f0e, ← f1e]
      refine EvQ.pos (by omega) (EvQ.pos (by omega) (EvQ.pos (by omega) (EvQ.pos (by omega) (EvQ.pos (by omega) (EvQ.bindc rfl ?_)))))
      have hne : (next r).f1.toNat ≠ (next r).f0.toNat := by omega
      have e1 : rd (r.set (next r).f0.toNat (rd r (next r).f0 - (next r).f2)) (next r).f1 = rd r (next r).f1 := by rw [rd_set, if_neg (fun hh => hne hh.1)]
      rw [w64 (n := rd r (next r).f0 - (next r).f2) (by omega) (by omega), w64 (n := rd (r.set (next r).f0.toNat (rd r (next r).f0 - (next r).f2)) (next r).f1 + (next r).f2) (by omega) (by omega)]
      have hx := ih (app r (next r)) (out ++ [next r]) (by rw [app_length]; exact hl) g1 g2 (by omega) (by simp; omega)
      refine EvQ.mono hx ?_
      rintro _ rfl
      simp [planF, hp]
/-- The plan of balanced stations. -/
def plan (l : List Int) : List Haul := if bal l then planF l.length l else []
theorem planF_length (d : Nat) : ∀ r, (planF d r).length ≤ d := by
  induction d with
  | zero => intro r; simp [planF]
  | succ d ih => intro r; simp only [planF]; split
                 · simp
                 · simp only [List.length_cons]; have := ih (app r (next r)); omega
theorem plan_length (l : List Int) : (plan l).length ≤ 12 := by
  unfold plan
  split
  · rename_i h
    exact Nat.le_trans (planF_length _ _) (okS_of (bal_ok h)).2.1
  · simp
theorem specPlan {l : List Int} (hl : Len l) : EvQ (fun k => spec_HaulPlan.f k l) (fun x => x = (plan l, bal l)) := by
  unfold spec_HaulPlan.f plan
  refine EvQ.bindc rfl (EvQ.call (specBalanced hl) ?_)
  by_cases h : bal l = true
  · have ho := bal_ok h
    have h12 := (okS_of ho).2.1
    have hn := nz_bound l
    simp only [h, if_true]
    refine EvQ.bindc rfl (EvQ.pos (by simp; omega) ?_)
    refine EvQ.mono (planLoop (l := l) l.length ([] ++ l) [] (by simpa using h12) (by simpa using bal_sum h) (by simpa using Bnd.of_okS ho) (by simpa using hn.2) (by simp; omega)) ?_
    rintro _ rfl
    simp
  · simp only [h]
    exact EvQ.neg (by simp) (EvQ.ret (by simp))
end Go.Proofs.Ytekgcfjoimdecaa.HaulA

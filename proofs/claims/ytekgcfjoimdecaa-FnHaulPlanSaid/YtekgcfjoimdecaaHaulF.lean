/- Chapter 43, plain: the plan that the program finds is the reference's; what it leaves, what it costs, how long it is. No program in sight. -/
import Derived.Test.YtekgcfjoimdecaaHaulE
import Derived.Test.YtekgcfjoimdecaaPx28
set_option linter.unusedVariables false
set_option linter.unusedSimpArgs false
namespace Go.Proofs.Ytekgcfjoimdecaa.HaulA
open Go.RowKit Go.Proofs.Ytekgcfjoimdecaa.P Go.Proofs.YtekgcfjoimdecaaW.PrintWords Go.Proofs.YtekgcfjoimdecaaW.PrintLast Go.Proofs.YtekgcfjoimdecaaW.PrintMore Go.Proofs.Ytekgcfjoimdecaa.Ev
abbrev Pile := S65
/-- The places of a kind, with what lies there. -/
def filt (p : Int → Bool) (g : Int → Int) : Int → List Int → List Pile
  | _, [] => []
  | i, x :: l => (if p x = true then [⟨i, g x⟩] else []) ++ filt p g (i + 1) l
theorem have_eq (l : List Int) : ∀ i, hpHave i l = filt posB id i l := by
  induction l with
  | nil => intro i; rfl
  | cons x l ih => intro i; simp only [hpHave, filt, ih, posB, decide_eq_true_eq, gt_iff_lt, id]
theorem miss_eq (l : List Int) : ∀ i, hpMiss i l = filt negB (fun x => wrap64 (-x)) i l := by
  induction l with
  | nil => intro i; rfl
  | cons x l ih => intro i; simp only [hpMiss, filt, ih, negB, decide_eq_true_eq]
section
variable {p : Int → Bool} {g : Int → Int}
theorem filt_none {r : List Int} : ∀ {i : Int}, (∀ j (hj : j < r.length), p r[j] = false) → filt p g i r = [] := by
  induction r with
  | nil => intro i _; rfl
  | cons x r ih =>
    intro i h
    have h0 : p x = false := h 0 (by simp)
    have h1 := ih (i := i + 1) (fun j hj => by have := h (j + 1) (by simpa using hj); rwa [List.getElem_cons_succ] at this)
    simp [filt, h0, h1]
theorem filt_far {r : List Int} : ∀ {i : Int} {j : Nat} {v : Int} (hj : j < r.length), p r[j] = false → p v = false → filt p g i (r.set j v) = filt p g i r := by
  induction r with
  | nil => intro i j v hj; simp at hj
  | cons x r ih =>
    intro i j v hj h h'
    cases j with
    | zero =>
      have h0 : p x = false := h
      simp [filt, h0, h']
    | succ j => simp only [List.set_cons_succ, filt]; rw [ih (by simpa using hj) (by simpa using h) h']
theorem filt_first {r : List Int} : ∀ {i : Int} {j : Nat} (hj : j < r.length), p r[j] = true → (∀ k (hk : k < j), p (r[k]'(by omega)) = false) →
    ∃ t, filt p g i r = ⟨i + j, g r[j]⟩ :: t ∧ ∀ v, filt p g i (r.set j v) = (if p v = true then [⟨i + j, g v⟩] else []) ++ t := by
  induction r with
  | nil => intro i j hj; simp at hj
  | cons x r ih =>
    intro i j hj h hb
    cases j with
    | zero =>
      have h0 : p x = true := h
      exact ⟨filt p g (i + 1) r, by simp [filt, h0], fun v => by simp [filt]⟩
    | succ j =>
      have h0 : p x = false := hb 0 (by omega)
      obtain ⟨t, h1, h2⟩ := ih (i := i + 1) (j := j) (by simpa using hj) (by simpa using h) (fun k hk => by have := hb (k + 1) (by omega); rwa [List.getElem_cons_succ] at this)
      have e : i + 1 + (j : Int) = i + ((j + 1 : Nat) : Int) := by push_cast; omega
      rw [e] at h1 h2
      exact ⟨t, by simp [filt, h0, h1], fun v => by simp only [List.set_cons_succ, filt, h0, Bool.false_eq_true, if_false, List.nil_append, h2]⟩
end
theorem app_eq {r : List Int} {h : Haul} (hh : hv r.length h = true) : app r h = (r.set h.f0.toNat (rd r h.f0 - h.f2)).set h.f1.toNat (rd r h.f1 + h.f2) := by
  have hv := hv_of hh
  have hne : h.f1.toNat ≠ h.f0.toNat := by omega
  unfold app; rw [rd_set, if_neg (fun hx => hne hx.1)]
/-- The queues' fronts are the next haul; what is left of them are the queues of what is left. -/
theorem queues {r : List Int} (hl : r.length ≤ 12) (hs : r.sum = 0) (hb : Bnd 1000 r) (hp : 0 ≤ fst posB r) :
    ∃ t1 t2, hpHave 0 r = ⟨(next r).f0, rd r (next r).f0⟩ :: t1 ∧ hpMiss 0 r = ⟨(next r).f1, -(rd r (next r).f1)⟩ :: t2 ∧
      hpHave 0 (app r (next r)) = hpCut ⟨(next r).f0, rd r (next r).f0⟩ (next r).f2 t1 ∧ hpMiss 0 (app r (next r)) = hpCut ⟨(next r).f1, -(rd r (next r).f1)⟩ (next r).f2 t2 := by
  obtain ⟨h1, h2, h3, h4, h5, h6⟩ := next_ok hl hs hb hp
  have hvv := hv_of h1
  have hm : (next r).f2 ≤ rd r (next r).f0 ∧ (next r).f2 ≤ -(rd r (next r).f1) := by rw [h4]; unfold mn; split <;> omega
  have b0 := hb (next r).f0
  have b1 := hb (next r).f1
  rcases fst_cases posB r with ⟨e, _⟩ | ⟨i, hi, ei, hpi, hbi⟩
  · omega
  rcases fst_cases negB r with ⟨e, _⟩ | ⟨j, hj, ej, hpj, hbj⟩
  · omega
  have f0 : (next r).f0 = i := ei
  have f1 : (next r).f1 = j := ej
  rw [app_eq h1]
  simp only [f0, f1, rd_get hi, rd_get hj] at h2 h3 h4 hm b0 b1 hvv ⊢
  generalize (next r).f2 = m at h4 hm hvv ⊢
  have hij : i ≠ j := by
    intro e
    subst e
    omega
  obtain ⟨t1, a1, a2⟩ := filt_first (g := id) (i := 0) hi hpi hbi
  obtain ⟨t2, c1, c2⟩ := filt_first (g := fun x => wrap64 (-x)) (i := 0) hj hpj hbj
  rw [Int.zero_add] at a1 a2 c1 c2
  simp only [id] at a1 a2
  have w1 : wrap64 (-r[j]) = -r[j] := w64 (by omega) (by omega)
  rw [w1] at c1
  refine ⟨t1, t2, by rw [have_eq]; exact a1, by rw [miss_eq]; exact c1, ?_, ?_⟩
  · rw [have_eq, Int.toNat_natCast, Int.toNat_natCast, filt_far (by rw [List.length_set]; exact hj) (by rw [List.getElem_set_ne hij]; unfold posB; rw [decide_eq_false_iff_not]; omega) (by unfold posB; rw [decide_eq_false_iff_not]; omega), a2]
    unfold hpCut posB
    simp only [decide_eq_true_eq]
    rw [w64 (n := r[i] - m) (by omega) (by omega)]
    by_cases hz : r[i] - m = 0
    · rw [if_pos hz, if_neg (by omega)]; rfl
    · rw [if_neg hz, if_pos (by omega)]; rfl
  · rw [miss_eq, Int.toNat_natCast, Int.toNat_natCast, List.set_comm _ _ hij, filt_far (by rw [List.length_set]; exact hi) (by rw [List.getElem_set_ne (Ne.symm hij)]; unfold negB; rw [decide_eq_false_iff_not]; omega) (by unfold negB; rw [decide_eq_false_iff_not]; omega), c2]
    unfold hpCut negB
    simp only [decide_eq_true_eq]
    rw [w64 (n := -r[j] - m) (by omega) (by omega), w64 (n := -(r[j] + m)) (by omega) (by omega)]
    by_cases hz : -r[j] - m = 0
    · rw [if_pos hz, if_neg (by omega)]; rfl
    · rw [if_neg hz, if_pos (by omega), show -(r[j] + m) = -r[j] - m by omega]; rfl
theorem planI (d : Nat) : ∀ (r : List Int) (out : List Haul), r.length ≤ 12 → r.sum = 0 → Bnd 1000 r → nz r ≤ d → out.length + d ≤ 100 →
    EvQ (fun k => impl_HaulPlan.l0 k out (hpHave 0 r) (hpMiss 0 r)) (fun x => x = (out ++ planF d r, true)) := by
  have hend : ∀ (d : Nat) (r : List Int) (out : List Haul), fst posB r < 0 → EvQ (fun k => impl_HaulPlan.l0 k out (hpHave 0 r) (hpMiss 0 r)) (fun x => x = (out ++ planF d r, true)) := by
    intro d r out hp
    have e : hpHave 0 r = [] := by
      rcases fst_cases posB r with ⟨_, h⟩ | ⟨i, hi, ei, _⟩
      · rw [have_eq]; exact filt_none h
      · omega
    rw [e]
    refine EvQ.step (fun k => by simp only [impl_HaulPlan.l0]; rfl) (EvQ.ret ?_)
    cases d with
    | zero => simp [planF]
    | succ d => simp [planF, hp]
  induction d with
  | zero =>
    intro r out hl hs hb hn _
    refine hend 0 r out ?_
    by_cases h : fst posB r < 0
    · exact h
    · have := (step_ok hl hs hb (by omega)).2.2.2; omega
  | succ d ih =>
    intro r out hl hs hb hn hlen
    by_cases hp : fst posB r < 0
    · exact hend (d + 1) r out hp
    · have hp' : 0 ≤ fst posB r := by omega
      obtain ⟨h1, h2, h3, h4, h5, h6⟩ := next_ok hl hs hb hp'
      obtain ⟨g1, g2, g3, g4⟩ := step_ok hl hs hb hp'
      obtain ⟨t1, t2, q1, q2, q3, q4⟩ := queues hl hs hb hp'
      rw [q1, q2]
      refine EvQ.step (fun k => by simp only [impl_HaulPlan.l0]; rfl) ?_
      refine EvQ.pos (by omega) ?_
      have hx := ih (app r (next r)) (out ++ [next r]) (by rw [app_length]; exact hl) g1 g2 (by omega) (by simp; omega)
      rw [q3, q4, h4] at hx
      refine EvQ.mono hx ?_
      rintro _ rfl
      simp [planF, hp]
theorem implPlan {l : List Int} (hl : Len l) : EvQ (fun k => impl_HaulPlan.f k l) (fun x => x = (plan l, bal l)) := by
  unfold impl_HaulPlan.f plan
  refine EvQ.call (implBalanced hl) ?_
  by_cases h : bal l = true
  · have ho := bal_ok h
    have h12 := (okS_of ho).2.1
    have hn := nz_bound l
    simp only [h, if_true]
    refine EvQ.pos (by omega) ?_
    exact EvQ.mono (planI (l.length) l [] h12 (bal_sum h) (Bnd.of_okS ho) hn.2 (by simp; omega)) (by rintro _ rfl; simp)
  · simp only [h]
    exact EvQ.neg (by simp) (EvQ.ret (by simp))
end Go.Proofs.Ytekgcfjoimdecaa.HaulA

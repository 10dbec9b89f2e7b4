/- Chapter 43, plain: what the stations' functions of the program and of the reference come to. No program in sight. -/
import Derived.Test.YtekgcfjoimdecaaEv
import Derived.Test.YtekgcfjoimdecaaPx2
import Derived.Test.YtekgcfjoimdecaaPx4
import Derived.Test.YtekgcfjoimdecaaPx3
set_option linter.unusedVariables false
set_option linter.unusedSimpArgs false
namespace Go.Proofs.Ytekgcfjoimdecaa.HaulA
open Go.RowKit Go.Proofs.Ytekgcfjoimdecaa.P Go.Proofs.YtekgcfjoimdecaaW.PrintWords Go.Proofs.YtekgcfjoimdecaaW.PrintLast Go.Proofs.YtekgcfjoimdecaaW.PrintMore Go.Proofs.Ytekgcfjoimdecaa.Ev
/-- A station's earth is in range. -/
def rng (x : Int) : Bool := decide (-1000 ≤ x) && decide (x ≤ 1000)
/-- A list are stations. -/
def okS (l : List Int) : Bool := decide (1 ≤ l.length) && decide (l.length ≤ 12) && l.all rng
theorem rng_of {l : List Int} (h : l.all rng = true) : ∀ x ∈ l, -1000 ≤ x ∧ x ≤ 1000 := by
  intro x hx
  have := List.all_eq_true.1 h x hx
  simpa [rng] using this
theorem okS_of {l : List Int} (h : okS l = true) : 1 ≤ l.length ∧ l.length ≤ 12 ∧ ∀ x ∈ l, -1000 ≤ x ∧ x ≤ 1000 := by
  unfold okS at h
  simp only [Bool.and_eq_true, decide_eq_true_eq] at h
  exact ⟨h.1.1, h.1.2, rng_of h.2⟩
/-- What bounds a list's length. -/
abbrev Len (l : List Int) : Prop := l.length ≤ 140737488351232
theorem l43Ok {l : List Int} (hl : Len l) : EvQ (fun k => spec_l43Ok.f k l) (fun r => r = okS l) := by
  unfold spec_l43Ok.f
  refine EvQ.loop (σ := Unit) (g := fun k i _ => spec_l43Ok.l0 k l i) l.length (fun i _ => (l.take i).all rng = true) ?_ ?_ 0 () (by omega) (by simp)
  · intro i _ hi hI ih
    refine EvQ.step (fun k => by simp only [spec_l43Ok.l0]; rfl) ?_
    refine EvQ.pos (by omega) (EvQ.pos (by omega) ?_)
    rw [rd_get hi]
    by_cases h : rng l[i] = true
    · have h2 : -1000 ≤ l[i] ∧ l[i] ≤ 1000 := by simpa [rng] using h
      refine EvQ.bindc (a := true) (by simp [spec_l6In.f, h2]) (EvQ.pos rfl ?_)
      rw [w64i hi hl]
      exact ih () (all_take_succ hi hI h)
    · have h2 : ¬ (-1000 ≤ l[i] ∧ l[i] ≤ 1000) := by simpa [rng] using h
      refine EvQ.bindc (a := false) (by simp only [spec_l6In.f]; split <;> simp <;> omega) (EvQ.neg (by simp) (EvQ.ret ?_))
      have : l.all rng = false := all_false hi (by simpa using h)
      simp [okS, this]
  · intro _ hI
    rw [List.take_length] at hI
    refine EvQ.step (fun k => by simp only [spec_l43Ok.l0]; rfl) ?_
    refine EvQ.neg (by omega) ?_
    refine EvQ.const (r := okS l) ?_ rfl
    simp only [spec_l6In.f, okS, hI, Bool.and_true]
    by_cases h1 : (l.length : Int) ≥ 1
    · have e1 : 1 ≤ l.length := by omega
      have e2 : ((l.length : Int) ≤ 12) ↔ (l.length ≤ 12) := by omega
      rw [if_pos h1]; simp [e1, e2]
    · have e1 : ¬ 1 ≤ l.length := by omega
      rw [if_neg h1]; simp only [Option.bind_some, e1, decide_false, Bool.false_and]
theorem stationsValid {l : List Int} (hl : Len l) : EvQ (fun k => impl_stationsValid.f k l) (fun r => r = okS l) := by
  have hj : ∀ b : Bool, b = true → okS l = false → EvQ (fun k => impl_stationsValid.j0 k l b) (fun r => r = okS l) := by
    rintro _ rfl h
    refine EvQ.step (fun k => by simp only [impl_stationsValid.j0]; rfl) ?_
    refine EvQ.pos (by simp) (EvQ.ret h.symm)
  unfold impl_stationsValid.f
  refine EvQ.ite (fun h => hj _ rfl (by simp [okS]; omega)) (fun h => ?_)
  by_cases h12 : (l.length : Int) > 12
  · exact hj _ (by simpa using h12) (by simp [okS]; omega)
  · refine EvQ.step (fun k => by simp only [impl_stationsValid.j0]; rfl) (EvQ.neg (by simpa using h12) ?_)
    refine EvQ.loop (σ := Unit) (g := fun k i _ => impl_stationsValid.l0 k l (l.length : Int) i) l.length (fun i _ => (l.take i).all rng = true) ?_ ?_ 0 () (by omega) (by simp)
    · intro i _ hi hI ih
      refine EvQ.step (fun k => by simp only [impl_stationsValid.l0]; rfl) ?_
      refine EvQ.pos (by omega) (EvQ.pos (by omega) (EvQ.pos (by omega) ?_))
      rw [rd_get hi]
      by_cases h : rng l[i] = true
      · have h2 : -1000 ≤ l[i] ∧ l[i] ≤ 1000 := by simpa [rng] using h
        refine EvQ.bindc (a := true) (by simp only [impl_within.f]; rw [w64 (by omega) (by omega)]; simp [h2]) (EvQ.pos rfl ?_)
        rw [w64i hi hl]
        exact ih () (all_take_succ hi hI h)
      · have h2 : ¬ (-1000 ≤ l[i] ∧ l[i] ≤ 1000) := by simpa [rng] using h
        refine EvQ.bindc (a := false) (by simp only [impl_within.f]; rw [w64 (by omega) (by omega)]; split <;> simp <;> omega) (EvQ.neg (by simp) (EvQ.ret ?_))
        have : l.all rng = false := all_false hi (by simpa using h)
        simp [okS, this]
    · intro _ hI
      rw [List.take_length] at hI
      refine EvQ.step (fun k => by simp only [impl_stationsValid.l0]; rfl) ?_
      refine EvQ.neg (by omega) (EvQ.ret ?_)
      simp [okS, hI]; omega
/-- The sums of a list's beginnings, behind s. -/
def pre : Int → List Int → List Int
  | _, [] => []
  | s, x :: l => (s + x) :: pre (s + x) l
theorem pre_length (s : Int) (l : List Int) : (pre s l).length = l.length := by
  induction l generalizing s with
  | nil => rfl
  | cons x l ih => simp [pre, ih]
theorem pre_snoc (s : Int) (l : List Int) (x : Int) : pre s (l ++ [x]) = pre s l ++ [s + l.sum + x] := by
  induction l generalizing s with
  | nil => simp [pre]
  | cons y l ih => simp [pre, ih, Int.add_assoc]
theorem pre_get (s : Int) (l : List Int) (i : Nat) (h : i < l.length) : (pre s l)[i]'(by rw [pre_length]; exact h) = s + (l.take (i + 1)).sum := by
  induction l generalizing s i with
  | nil => simp at h
  | cons y l ih =>
    cases i with
    | zero => simp [pre]
    | succ i =>
      have := ih (s + y) i (by simpa using h)
      simp only [pre, List.getElem_cons_succ, this, List.take_succ_cons, List.sum_cons]
      omega
theorem take_sum_bound {l : List Int} (h : okS l = true) (i : Nat) : -12000 ≤ (l.take i).sum ∧ (l.take i).sum ≤ 12000 := by
  obtain ⟨_, h12, hb⟩ := okS_of h
  have := sum_bound (l := l.take i) (b := 1000) (fun x hx => hb x (List.mem_of_mem_take hx))
  have hle : (l.take i).length ≤ 12 := Nat.le_trans (List.length_take_le' ..) h12
  omega
theorem mem_bound {l : List Int} (h : okS l = true) {i : Nat} (hi : i < l.length) : -1000 ≤ l[i] ∧ l[i] ≤ 1000 := (okS_of h).2.2 _ (List.getElem_mem hi)
theorem implCurveLoop {l : List Int} (hl : okS l = true) : EvQ (fun k => impl_HaulCurve.l0 k [] 0 l (l.length : Int) 0) (fun r => r = (pre 0 l, true)) := by
  have h12 := (okS_of hl).2.1
  refine EvQ.loop (σ := List Int × Int) (g := fun k i s => impl_HaulCurve.l0 k s.1 s.2 l (l.length : Int) i) l.length (fun i s => s.1 = pre 0 (l.take i) ∧ s.2 = (l.take i).sum) ?_ ?_ 0 ([], 0) (by omega) (by simp [pre])
  · rintro i ⟨a, b⟩ hi ⟨rfl, rfl⟩ ih
    have hb := take_sum_bound hl i
    have hm := mem_bound hl hi
    refine EvQ.step (fun k => by simp only [impl_HaulCurve.l0]; rfl) ?_
    refine EvQ.pos (by omega) (EvQ.pos (by omega) (EvQ.pos (by omega) (EvQ.pos (by rw [pre_length, List.length_take]; omega) ?_)))
    rw [rd_get hi, w64 (by omega) (by omega), w64 (n := (i : Int) + 1) (by omega) (by omega)]
    refine ih (_, _) ⟨?_, ?_⟩
    · rw [List.take_succ_eq_append_getElem hi, pre_snoc]; simp
    · exact (sum_take_succ hi).symm
  · rintro ⟨a, b⟩ ⟨rfl, rfl⟩
    refine EvQ.step (fun k => by simp only [impl_HaulCurve.l0]; rfl) ?_
    refine EvQ.neg (by omega) (EvQ.ret (by simp))
/-- What HaulCurve tells. -/
def curve (l : List Int) : List Int × Bool := if okS l then (pre 0 l, true) else ([], false)
theorem implCurve {l : List Int} (hl : Len l) : EvQ (fun k => impl_HaulCurve.f k l) (fun r => r = curve l) := by
  unfold impl_HaulCurve.f curve
  refine EvQ.call (stationsValid hl) ?_
  by_cases h : okS l = true
  · have h12 := (okS_of h).2.1
    rw [h]; exact EvQ.pos rfl (EvQ.pos (by omega) (EvQ.pos (by omega) (implCurveLoop h)))
  · refine EvQ.neg h (EvQ.ret (by simp [h]))
/-- Stations that are balanced. -/
def bal (l : List Int) : Bool := okS l && decide (l.sum = 0)
theorem l14Sum {l : List Int} (hl : okS l = true) : EvQ (fun k => spec_l14Sum.f k l) (fun r => r = l.sum) := by
  have h12 := (okS_of hl).2.1
  unfold spec_l14Sum.f
  refine EvQ.loop (σ := Int) (g := fun k i s => spec_l14Sum.l0 k l s i) l.length (fun i s => s = (l.take i).sum) ?_ ?_ 0 0 (by omega) (by simp)
  · rintro i _ hi rfl ih
    have hb := take_sum_bound hl i
    have hm := mem_bound hl hi
    refine EvQ.step (fun k => by simp only [spec_l14Sum.l0]; rfl) ?_
    refine EvQ.pos (by omega) (EvQ.pos (by omega) ?_)
    rw [rd_get hi, w64 (by omega) (by omega), w64 (n := (i : Int) + 1) (by omega) (by omega)]
    exact ih _ (sum_take_succ hi).symm
  · rintro _ rfl
    refine EvQ.step (fun k => by simp only [spec_l14Sum.l0]; rfl) ?_
    refine EvQ.neg (by omega) (EvQ.ret (by simp))
theorem specBalanced {l : List Int} (hl : Len l) : EvQ (fun k => spec_HaulBalanced.f k l) (fun r => r = bal l) := by
  unfold spec_HaulBalanced.f bal
  refine EvQ.call (l43Ok hl) ?_
  by_cases h : okS l = true
  · rw [h]; exact EvQ.pos rfl (EvQ.call (l14Sum h) (EvQ.ret (by rw [Bool.true_and]; exact (by rw [Bool.eq_iff_iff]; simp))))
  · refine EvQ.neg h (EvQ.ret (by simp [h]))
theorem pre_last {l : List Int} (h : 1 ≤ l.length) : rd (pre 0 l) (((pre 0 l).length : Int) - 1) = l.sum := by
  rw [pre_length]
  have : ((l.length : Int) - 1) = ((l.length - 1 : Nat) : Int) := by omega
  rw [this, rd_get (by rw [pre_length]; omega), pre_get _ _ _ (by omega)]
  rw [show l.length - 1 + 1 = l.length by omega, List.take_length]; simp
theorem implBalanced {l : List Int} (hl : Len l) : EvQ (fun k => impl_HaulBalanced.f k l) (fun r => r = bal l) := by
  unfold impl_HaulBalanced.f bal
  refine EvQ.call (implCurve hl) ?_
  unfold curve
  by_cases h : okS l = true
  · obtain ⟨h1, h12, _⟩ := okS_of h
    simp only [h, if_true, Bool.true_and]
    have hw : wrap64 (((pre 0 l).length : Int) - 1) = ((pre 0 l).length : Int) - 1 := w64 (by omega) (by rw [pre_length]; omega)
    rw [hw, pre_last h1]
    rw [pre_length]
    refine EvQ.pos (by omega) (EvQ.pos (by omega) (EvQ.ret ?_))
    rw [Bool.eq_iff_iff]; simp
  · simp only [h, Bool.false_and]
    exact EvQ.neg (by simp) (EvQ.ret rfl)
end Go.Proofs.Ytekgcfjoimdecaa.HaulA

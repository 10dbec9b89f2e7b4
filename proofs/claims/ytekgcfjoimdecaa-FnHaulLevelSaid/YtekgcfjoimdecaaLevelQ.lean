/- Plain, for one law: what it needs of the chapter's texts. No program in sight. -/
import Derived.Test.YtekgcfjoimdecaaEv
import Derived.Test.YtekgcfjoimdecaaPx2
import Derived.Test.YtekgcfjoimdecaaPx4
import Derived.Test.YtekgcfjoimdecaaPx3
import Derived.Test.YtekgcfjoimdecaaPx26
import Derived.Test.YtekgcfjoimdecaaPx28
set_option linter.unusedVariables false
set_option linter.unusedSimpArgs false
namespace Go.Proofs.Ytekgcfjoimdecaa.Cr
open Go.RowKit Go.Proofs.Ytekgcfjoimdecaa.P Go.Proofs.YtekgcfjoimdecaaW.PrintWords Go.Proofs.YtekgcfjoimdecaaW.PrintLast Go.Proofs.YtekgcfjoimdecaaW.PrintMore Go.Proofs.Ytekgcfjoimdecaa.Ev
/-- A station's earth is in range. -/
def rng (x : Int) : Bool := decide (-1000 ≤ x) && decide (x ≤ 1000)
/-- A list are stations. -/
def okS (l : List Int) : Bool := decide (1 ≤ l.length) && decide (l.length ≤ 12) && l.all rng
theorem rng_of {l : List Int} (h : l.all rng = true) : ∀ x ∈ l, -1000 ≤ x ∧ x ≤ 1000 := by
  intro x hx
  have := List.all_eq_true.1 h x hx
  simpa [rng] using this
theorem okS_of {l : List Int} (h : okS l = true) : 1 ≤ l.length ∧ l.length ≤ 12 ∧ ∀ x ∈ l, -1000 ≤ x ∧ x ≤ 1000 := by
  unfold okS at h
  simp only [Bool.and_eq_true, decide_eq_true_eq] at h
  exact ⟨h.1.1, h.1.2, rng_of h.2⟩
/-- What bounds a list's length. -/
abbrev Len (l : List Int) : Prop := l.length ≤ 140737488351232
theorem l43Ok {l : List Int} (hl : Len l) : EvQ (fun k => spec_l43Ok.f k l) (fun r => r = okS l) := by
  unfold spec_l43Ok.f
  refine EvQ.loop (σ := Unit) (g := fun k i _ => spec_l43Ok.l0 k l i) l.length (fun i _ => (l.take i).all rng = true) ?_ ?_ 0 () (by omega) (by simp)
  · intro i _ hi hI ih
    refine EvQ.step (fun k => by simp only [spec_l43Ok.l0]; rfl) ?_
    refine EvQ.pos (by omega) (EvQ.pos (by omega) ?_)
    rw [rd_get hi]
    by_cases h : rng l[i] = true
    · have h2 : -1000 ≤ l[i] ∧ l[i] ≤ 1000 := by simpa [rng] using h
      refine EvQ.bindc (a := true) (by simp [spec_l6In.f, h2]) (EvQ.pos rfl ?_)
      rw [w64i hi hl]
      exact ih () (all_take_succ hi hI h)
    · have h2 : ¬ (-1000 ≤ l[i] ∧ l[i] ≤ 1000) := by simpa [rng] using h
      refine EvQ.bindc (a := false) (by simp only [spec_l6In.f]; split <;> simp <;> omega) (EvQ.neg (by simp) (EvQ.ret ?_))
      have : l.all rng = false := all_false hi (by simpa using h)
      simp [okS, this]
  · intro _ hI
    rw [List.take_length] at hI
    refine EvQ.step (fun k => by simp only [spec_l43Ok.l0]; rfl) ?_
    refine EvQ.neg (by omega) ?_
    refine EvQ.const (r := okS l) ?_ rfl
    simp only [spec_l6In.f, okS, hI, Bool.and_true]
    by_cases h1 : (l.length : Int) ≥ 1
    · have e1 : 1 ≤ l.length := by omega
      have e2 : ((l.length : Int) ≤ 12) ↔ (l.length ≤ 12) := by omega
      rw [if_pos h1]; simp [e1, e2]
    · have e1 : ¬ 1 ≤ l.length := by omega
      rw [if_neg h1]; simp only [Option.bind_some, e1, decide_false, Bool.false_and]
theorem stationsValid {l : List Int} (hl : Len l) : EvQ (fun k => impl_stationsValid.f k l) (fun r => r = okS l) := by
  have hj : ∀ b : Bool, b = true → okS l = false → EvQ (fun k => impl_stationsValid.j0 k l b) (fun r => r = okS l) := by
    rintro _ rfl h
    refine EvQ.step (fun k => by simp only [impl_stationsValid.j0]; rfl) ?_
    refine EvQ.pos (by simp) (EvQ.ret h.symm)
  unfold impl_stationsValid.f
  refine EvQ.ite (fun h => hj _ rfl (by simp [okS]; omega)) (fun h => ?_)
  by_cases h12 : (l.length : Int) > 12
  · exact hj _ (by simpa using h12) (by simp [okS]; omega)
  · refine EvQ.step (fun k => by simp only [impl_stationsValid.j0]; rfl) (EvQ.neg (by simpa using h12) ?_)
    refine EvQ.loop (σ := Unit) (g := fun k i _ => impl_stationsValid.l0 k l (l.length : Int) i) l.length (fun i _ => (l.take i).all rng = true) ?_ ?_ 0 () (by omega) (by simp)
    · intro i _ hi hI ih
      refine EvQ.step (fun k => by simp only [impl_stationsValid.l0]; rfl) ?_
      refine EvQ.pos (by omega) (EvQ.pos (by omega) (EvQ.pos (by omega) ?_))
      rw [rd_get hi]
      by_cases h : rng l[i] = true
      · have h2 : -1000 ≤ l[i] ∧ l[i] ≤ 1000 := by simpa [rng] using h
        refine EvQ.bindc (a := true) (by simp only [impl_within.f]; rw [w64 (by omega) (by omega)]; simp [h2]) (EvQ.pos rfl ?_)
        rw [w64i hi hl]
        exact ih () (all_take_succ hi hI h)
      · have h2 : ¬ (-1000 ≤ l[i] ∧ l[i] ≤ 1000) := by simpa [rng] using h
        refine EvQ.bindc (a := false) (by simp only [impl_within.f]; rw [w64 (by omega) (by omega)]; split <;> simp <;> omega) (EvQ.neg (by simp) (EvQ.ret ?_))
        have : l.all rng = false := all_false hi (by simpa using h)
        simp [okS, this]
    · intro _ hI
      rw [List.take_length] at hI
      refine EvQ.step (fun k => by simp only [impl_stationsValid.l0]; rfl) ?_
      refine EvQ.neg (by omega) (EvQ.ret ?_)
      simp [okS, hI]; omega
/-- The sums of a list's beginnings, behind s. -/
def pre : Int → List Int → List Int
  | _, [] => []
  | s, x :: l => (s + x) :: pre (s + x) l
theorem pre_length (s : Int) (l : List Int) : (pre s l).length = l.length := by
  induction l generalizing s with
  | nil => rfl
  | cons x l ih => simp [pre, ih]
theorem pre_snoc (s : Int) (l : List Int) (x : Int) : pre s (l ++ [x]) = pre s l ++ [s + l.sum + x] := by
  induction l generalizing s with
  | nil => simp [pre]
  | cons y l ih => simp [pre, ih, Int.add_assoc]
theorem pre_get (s : Int) (l : List Int) (i : Nat) (h : i < l.length) : (pre s l)[i]'(by rw [pre_length]; exact h) = s + (l.take (i + 1)).sum := by
  induction l generalizing s i with
  | nil => simp at h
  | cons y l ih =>
    cases i with
    | zero => simp [pre]
    | succ i =>
      have := ih (s + y) i (by simpa using h)
      simp only [pre, List.getElem_cons_succ, this, List.take_succ_cons, List.sum_cons]
      omega
theorem take_sum_bound {l : List Int} (h : okS l = true) (i : Nat) : -12000 ≤ (l.take i).sum ∧ (l.take i).sum ≤ 12000 := by
  obtain ⟨_, h12, hb⟩ := okS_of h
  have := sum_bound (l := l.take i) (b := 1000) (fun x hx => hb x (List.mem_of_mem_take hx))
  have hle : (l.take i).length ≤ 12 := Nat.le_trans (List.length_take_le' ..) h12
  omega
theorem mem_bound {l : List Int} (h : okS l = true) {i : Nat} (hi : i < l.length) : -1000 ≤ l[i] ∧ l[i] ≤ 1000 := (okS_of h).2.2 _ (List.getElem_mem hi)
theorem implCurveLoop {l : List Int} (hl : okS l = true) : EvQ (fun k => impl_HaulCurve.l0 k [] 0 l (l.length : Int) 0) (fun r => r = (pre 0 l, true)) := by
  have h12 := (okS_of hl).2.1
  refine EvQ.loop (σ := List Int × Int) (g := fun k i s => impl_HaulCurve.l0 k s.1 s.2 l (l.length : Int) i) l.length (fun i s => s.1 = pre 0 (l.take i) ∧ s.2 = (l.take i).sum) ?_ ?_ 0 ([], 0) (by omega) (by simp [pre])
  · rintro i ⟨a, b⟩ hi ⟨rfl, rfl⟩ ih
    have hb := take_sum_bound hl i
    have hm := mem_bound hl hi
    refine EvQ.step (fun k => by simp only [impl_HaulCurve.l0]; rfl) ?_
    refine EvQ.pos (by omega) (EvQ.pos (by omega) (EvQ.pos (by omega) (EvQ.pos (by rw [pre_length, List.length_take]; omega) ?_)))
    rw [rd_get hi, w64 (by omega) (by omega), w64 (n := (i : Int) + 1) (by omega) (by omega)]
    refine ih (_, _) ⟨?_, ?_⟩
    · rw [List.take_succ_eq_append_getElem hi, pre_snoc]; simp
    · exact (sum_take_succ hi).symm
  · rintro ⟨a, b⟩ ⟨rfl, rfl⟩
    refine EvQ.step (fun k => by simp only [impl_HaulCurve.l0]; rfl) ?_
    refine EvQ.neg (by omega) (EvQ.ret (by simp))
/-- What HaulCurve tells. -/
def curve (l : List Int) : List Int × Bool := if okS l then (pre 0 l, true) else ([], false)
theorem implCurve {l : List Int} (hl : Len l) : EvQ (fun k => impl_HaulCurve.f k l) (fun r => r = curve l) := by
  unfold impl_HaulCurve.f curve
  refine EvQ.call (stationsValid hl) ?_
  by_cases h : okS l = true
  · have h12 := (okS_of h).2.1
    rw [h]; exact EvQ.pos rfl (EvQ.pos (by omega) (EvQ.pos (by omega) (implCurveLoop h)))
  · refine EvQ.neg h (EvQ.ret (by simp [h]))
/-- Stations that are balanced. -/
def bal (l : List Int) : Bool := okS l && decide (l.sum = 0)
theorem l14Sum {l : List Int} (hl : okS l = true) : EvQ (fun k => spec_l14Sum.f k l) (fun r => r = l.sum) := by
  have h12 := (okS_of hl).2.1
  unfold spec_l14Sum.f
  refine EvQ.loop (σ := Int) (g := fun k i s => spec_l14Sum.l0 k l s i) l.length (fun i s => s = (l.take i).sum) ?_ ?_ 0 0 (by omega) (by simp)
  · rintro i _ hi rfl ih
    have hb := take_sum_bound hl i
    have hm := mem_bound hl hi
    refine EvQ.step (fun k => by simp only [spec_l14Sum.l0]; rfl) ?_
    refine EvQ.pos (by omega) (EvQ.pos (by omega) ?_)
    rw [rd_get hi, w64 (by omega) (by omega), w64 (n := (i : Int) + 1) (by omega) (by omega)]
    exact ih _ (sum_take_succ hi).symm
  · rintro _ rfl
    refine EvQ.step (fun k => by simp only [spec_l14Sum.l0]; rfl) ?_
    refine EvQ.neg (by omega) (EvQ.ret (by simp))
theorem specBalanced {l : List Int} (hl : Len l) : EvQ (fun k => spec_HaulBalanced.f k l) (fun r => r = bal l) := by
  unfold spec_HaulBalanced.f bal
  refine EvQ.call (l43Ok hl) ?_
  by_cases h : okS l = true
  · rw [h]; exact EvQ.pos rfl (EvQ.call (l14Sum h) (EvQ.ret (by rw [Bool.true_and]; exact (by rw [Bool.eq_iff_iff]; simp))))
  · refine EvQ.neg h (EvQ.ret (by simp [h]))
theorem pre_last {l : List Int} (h : 1 ≤ l.length) : rd (pre 0 l) (((pre 0 l).length : Int) - 1) = l.sum := by
  rw [pre_length]
  have : ((l.length : Int) - 1) = ((l.length - 1 : Nat) : Int) := by omega
  rw [this, rd_get (by rw [pre_length]; omega), pre_get _ _ _ (by omega)]
  rw [show l.length - 1 + 1 = l.length by omega, List.take_length]; simp
theorem implBalanced {l : List Int} (hl : Len l) : EvQ (fun k => impl_HaulBalanced.f k l) (fun r => r = bal l) := by
  unfold impl_HaulBalanced.f bal
  refine EvQ.call (implCurve hl) ?_
  unfold curve
  by_cases h : okS l = true
  · obtain ⟨h1, h12, _⟩ := okS_of h
    simp only [h, if_true, Bool.true_and]
    have hw : wrap64 (((pre 0 l).length : Int) - 1) = ((pre 0 l).length : Int) - 1 := w64 (by omega) (by rw [pre_length]; omega)
    rw [hw, pre_last h1]
    rw [pre_length]
    refine EvQ.pos (by omega) (EvQ.pos (by omega) (EvQ.ret ?_))
    rw [Bool.eq_iff_iff]; simp
  · simp only [h, Bool.false_and]
    exact EvQ.neg (by simp) (EvQ.ret rfl)
/-- An absolute value. -/
def ab (x : Int) : Int := if x < 0 then -x else x
/-- The sum of the absolute values. -/
def abs (l : List Int) : Int := (l.map ab).sum
/-- What HaulWork tells. -/
def work (l : List Int) : Int := if bal l then abs (pre 0 l) else -1
theorem bal_ok {l : List Int} (h : bal l = true) : okS l = true := by unfold bal at h; simp at h; exact h.1
theorem bal_sum {l : List Int} (h : bal l = true) : l.sum = 0 := by unfold bal at h; simp at h; exact h.2
abbrev Haul := S47
theorem rdH_get {l : List Haul} {i : Nat} (h : i < l.length) : rd_T47 l (i : Int) = l[i] := by
  unfold rd_T47; simp [List.getD_eq_getElem?_getD, h]
theorem rd_set (r : List Int) (i : Nat) (v j : Int) : rd (r.set i v) j = if j.toNat = i ∧ i < r.length then v else rd r j := by
  unfold rd
  rw [List.getD_eq_getElem?_getD, List.getD_eq_getElem?_getD, List.getElem?_set]
  by_cases h : i = j.toNat
  · subst h
    by_cases h2 : j.toNat < r.length
    · simp [h2]
    · simp [h2]
  · rw [if_neg h, if_neg (fun hh => h hh.1.symm)]
/-- A haul between n stations. -/
def hv (n : Nat) (h : Haul) : Bool := decide (0 ≤ h.f0 ∧ h.f0 < n ∧ 0 ≤ h.f1 ∧ h.f1 < n ∧ h.f0 ≠ h.f1 ∧ 1 ≤ h.f2 ∧ h.f2 ≤ 1000000)
/-- What a haul leaves. -/
def app (r : List Int) (h : Haul) : List Int := (r.set h.f0.toNat (rd r h.f0 - h.f2)).set h.f1.toNat (rd (r.set h.f0.toNat (rd r h.f0 - h.f2)) h.f1 + h.f2)
theorem app_length (r : List Int) (h : Haul) : (app r h).length = r.length := by simp [app]
/-- What a plan leaves. -/
def after (l : List Int) (plan : List Haul) : List Int := plan.foldl app l
/-- All within b of 0. -/
def Bnd (b : Int) (r : List Int) : Prop := ∀ j, -b ≤ rd r j ∧ rd r j ≤ b
theorem hv_of {n : Nat} {h : Haul} (hh : hv n h = true) : 0 ≤ h.f0 ∧ h.f0 < n ∧ 0 ≤ h.f1 ∧ h.f1 < n ∧ h.f0 ≠ h.f1 ∧ 1 ≤ h.f2 ∧ h.f2 ≤ 1000000 := of_decide_eq_true hh
theorem Bnd.app {b : Int} {r : List Int} {h : Haul} {n : Nat} (hb : Bnd b r) (hh : hv n h = true) : Bnd (b + 1000000) (app r h) := by
  have := hv_of hh
  intro j
  have h0 := hb h.f0
  have h1 := hb h.f1
  have hj := hb j
  unfold Cr.app
  rw [rd_set, rd_set, rd_set]
  have hne : h.f1.toNat ≠ h.f0.toNat := by omega
  split
  · rw [if_neg (fun hh => hne hh.1)]; omega
  · split <;> omega
theorem Bnd.of_okS {l : List Int} (h : okS l = true) : Bnd 1000 l := by
  intro j
  unfold rd
  rw [List.getD_eq_getElem?_getD]
  by_cases hj : j.toNat < l.length
  · simp only [List.getElem?_eq_getElem hj, Option.getD_some]
    exact mem_bound h hj
  · simp [List.getElem?_eq_none (Nat.le_of_not_lt hj)]
theorem Bnd.mono {b c : Int} {r : List Int} (h : Bnd b r) (hc : b ≤ c) : Bnd c r := fun j => by have := h j; omega
/-- What a haul brings to station j. -/
def dl (h : Haul) (j : Int) : Int := (if j = h.f1 then h.f2 else 0) - (if j = h.f0 then h.f2 else 0)
theorem rd_app {r : List Int} {h : Haul} (hh : hv r.length h = true) {j : Int} (h0 : 0 ≤ j) : rd (app r h) j = rd r j + dl h j := by
  have := hv_of hh
  have hne : h.f1.toNat ≠ h.f0.toNat := by omega
  unfold app dl
  rw [rd_set, List.length_set, rd_set, rd_set, if_neg (show ¬ (h.f1.toNat = h.f0.toNat ∧ h.f0.toNat < r.length) from fun hx => hne hx.1)]
  by_cases e1 : j = h.f1
  · subst e1
    rw [if_pos ⟨rfl, by omega⟩, if_pos rfl, if_neg (by omega)]; omega
  · rw [if_neg (fun hx => e1 (by omega)), if_neg e1]
    by_cases e0 : j = h.f0
    · subst e0; rw [if_pos ⟨rfl, by omega⟩, if_pos rfl]; omega
    · rw [if_neg (fun hx => e0 (by omega)), if_neg e0]; omega
/-- The work that is left, from a sum s on. -/
def W (s : Int) (r : List Int) : Int := abs (pre s r)
theorem rd_get' {l : List Int} {j : Int} (h0 : 0 ≤ j) (h : j.toNat < l.length) : rd l j = l[j.toNat] := by
  obtain ⟨n, rfl⟩ := Int.eq_ofNat_of_zero_le h0
  exact rd_get h
/-- All loads of a plan. -/
def loads (p : List Haul) : Int := (p.map (fun h => h.f2)).sum
theorem loads_append (p q : List Haul) : loads (p ++ q) = loads p + loads q := by simp [loads]
theorem loads_one (h : Haul) : loads [h] = h.f2 := by simp [loads]
theorem loads_cons (h : Haul) (p : List Haul) : loads (h :: p) = h.f2 + loads p := by simp [loads]
def posB (x : Int) : Bool := decide (0 < x)
def negB (x : Int) : Bool := decide (x < 0)
/-- The first place of a kind, or -1. -/
def fst (p : Int → Bool) (r : List Int) : Int := if r.any p then ((r.findIdx p : Nat) : Int) else -1
theorem fst_found {p : Int → Bool} {r : List Int} {i : Nat} (hi : i < r.length) (h : p r[i] = true) (hb : ∀ j (hj : j < i), p (r[j]'(by omega)) = false) : fst p r = i := by
  unfold fst
  have ha : r.any p = true := List.any_eq_true.2 ⟨r[i], List.getElem_mem hi, h⟩
  rw [if_pos ha]
  congr 1
  exact (List.findIdx_eq hi).2 ⟨h, fun j hj => hb j hj⟩
theorem fst_none {p : Int → Bool} {r : List Int} (h : ∀ j (hj : j < r.length), p r[j] = false) : fst p r = -1 := by
  unfold fst
  rw [if_neg]
  rw [List.any_eq_true]
  rintro ⟨x, hx, hp⟩
  obtain ⟨j, hj, rfl⟩ := List.mem_iff_getElem.1 hx
  rw [h j hj] at hp
  exact Bool.noConfusion hp
theorem fst_cases (p : Int → Bool) (r : List Int) : (fst p r = -1 ∧ ∀ j (hj : j < r.length), p r[j] = false) ∨ ∃ (i : Nat) (hi : i < r.length), fst p r = i ∧ p r[i] = true ∧ ∀ j (hj : j < i), p (r[j]'(by omega)) = false := by
  by_cases h : r.any p = true
  · right
    have hlt := List.findIdx_lt_length_of_exists (List.any_eq_true.1 h)
    refine ⟨r.findIdx p, hlt, by unfold fst; rw [if_pos h], List.findIdx_getElem, fun j hj => ?_⟩
    simpa using List.not_of_lt_findIdx hj
  · left
    refine ⟨by unfold fst; rw [if_neg h], fun j hj => ?_⟩
    cases hp : p r[j] with
    | false => rfl
    | true => exact absurd (List.any_eq_true.2 ⟨r[j], List.getElem_mem hj, hp⟩) h
theorem sign_eq (x : Int) : spec_l1Sign.f x = some (if 0 < x then 1 else if x < 0 then -1 else 0) := by
  unfold spec_l1Sign.f mx mn
  congr 1
  split <;> split <;> split <;> (try split) <;> omega
theorem firstOf {p : Int → Bool} {s : Int} (hp : ∀ x, ((if 0 < x then (1 : Int) else if x < 0 then -1 else 0) = s) ↔ p x = true) {r : List Int} (hl : r.length ≤ 12) : EvQ (fun k => spec_l43First.f k r s) (fun x => x = fst p r) := by
  unfold spec_l43First.f
  refine EvQ.loop (σ := Unit) (g := fun k i _ => spec_l43First.l0 k r s i) r.length (fun i _ => ∀ j (hj : j < i) (h : j < r.length), p r[j] = false) ?_ ?_ 0 () (by omega) (by intro j hj; omega)
  · intro i _ hi hI ih
    refine EvQ.step (fun k => by simp only [spec_l43First.l0]; rfl) ?_
    refine EvQ.pos (by omega) (EvQ.pos (by omega) ?_)
    rw [rd_get hi]
    refine EvQ.bindc (sign_eq _) (EvQ.ite (fun h => EvQ.ret ?_) (fun h => ?_))
    · exact (fst_found hi ((hp _).1 h) (fun j hj => hI j hj (by omega))).symm
    · rw [w64i hi (by omega)]
      refine ih () (fun j hj hlt => ?_)
      by_cases e : j = i
      · subst e
        cases hq : p r[j] with
        | false => rfl
        | true => exact absurd ((hp _).2 hq) h
      · exact hI j (by omega) hlt
  · intro _ hI
    refine EvQ.step (fun k => by simp only [spec_l43First.l0]; rfl) ?_
    refine EvQ.neg (by omega) (EvQ.ret ?_)
    exact (fst_none (fun j hj => hI j hj hj)).symm
theorem firstPos {r : List Int} (hl : r.length ≤ 12) : EvQ (fun k => spec_l43First.f k r 1) (fun x => x = fst posB r) :=
  firstOf (fun x => by unfold posB; rw [decide_eq_true_eq]; split <;> (try split) <;> omega) hl
theorem firstNeg {r : List Int} (hl : r.length ≤ 12) : EvQ (fun k => spec_l43First.f k r (-1)) (fun x => x = fst negB r) :=
  firstOf (fun x => by unfold negB; rw [decide_eq_true_eq]; split <;> (try split) <;> omega) hl
/-- The haul that is found next. -/
def next (r : List Int) : Haul := ⟨fst posB r, fst negB r, mn (rd r (fst posB r)) (-(rd r (fst negB r)))⟩
/-- The plan, as many hauls as are wanted. -/
def planF : Nat → List Int → List Haul
  | 0, _ => []
  | d + 1, r => if fst posB r < 0 then [] else next r :: planF d (app r (next r))
/-- A sum over a list after one place has turned. -/
theorem msum_set (f : Int → Int) (r : List Int) : ∀ (i : Nat) (hi : i < r.length) (v : Int), ((r.set i v).map f).sum = (r.map f).sum - f r[i] + f v := by
  induction r with
  | nil => intro i hi; simp at hi
  | cons x r ih =>
    intro i hi v
    cases i with
    | zero => simp only [List.set_cons_zero, List.map_cons, List.sum_cons, List.getElem_cons_zero]; omega
    | succ i =>
      have := ih i (by simpa using hi) v
      simp only [List.set_cons_succ, List.map_cons, List.sum_cons, List.getElem_cons_succ, this]; omega
theorem msum_app (f : Int → Int) {r : List Int} {h : Haul} (hh : hv r.length h = true) : ((app r h).map f).sum = (r.map f).sum - f (rd r h.f0) + f (rd r h.f0 - h.f2) - f (rd r h.f1) + f (rd r h.f1 + h.f2) := by
  have hv := hv_of hh
  have hne : h.f1.toNat ≠ h.f0.toNat := by omega
  have e : app r h = (r.set h.f0.toNat (rd r h.f0 - h.f2)).set h.f1.toNat (rd r h.f1 + h.f2) := by
    unfold app; rw [rd_set, if_neg (fun hx => hne hx.1)]
  rw [e, msum_set f _ _ (by rw [List.length_set]; omega), msum_set f _ _ (by omega), List.getElem_set_ne (by omega), rd_get' (l := r) (j := h.f0) (by omega) (by omega), rd_get' (l := r) (j := h.f1) (by omega) (by omega)]
/-- How many are not 0. -/
def nzf (x : Int) : Int := if x = 0 then 0 else 1
def nz (r : List Int) : Int := (r.map nzf).sum
theorem nz_bound (r : List Int) : 0 ≤ nz r ∧ nz r ≤ r.length := by
  unfold nz
  induction r with
  | nil => simp
  | cons x r ih => simp only [List.map_cons, List.sum_cons, List.length_cons]; have : 0 ≤ nzf x ∧ nzf x ≤ 1 := by unfold nzf; split <;> omega
                   push_cast; omega
theorem nonneg_sum {r : List Int} (h : ∀ j (hj : j < r.length), negB r[j] = false) : 0 ≤ r.sum ∧ ∀ j (hj : j < r.length), r[j] ≤ r.sum := by
  induction r with
  | nil => simp
  | cons x r ih =>
    have h0 := h 0 (by simp)
    have hx : 0 ≤ x := by simpa [negB] using h0
    have := ih (fun j hj => by have h' := h (j + 1) (by simpa using hj); rwa [List.getElem_cons_succ] at h')
    refine ⟨by rw [List.sum_cons]; omega, fun j hj => ?_⟩
    cases j with
    | zero => simp only [List.getElem_cons_zero, List.sum_cons]; omega
    | succ j => have := this.2 j (by simpa using hj); simp only [List.getElem_cons_succ, List.sum_cons]; omega
/-- A rest that is balanced and has too much somewhere: the next haul is one, and takes at least one station. -/
theorem next_ok {r : List Int} (hl : r.length ≤ 12) (hs : r.sum = 0) (hb : Bnd 1000 r) (hp : 0 ≤ fst posB r) :
    hv r.length (next r) = true ∧ 0 < rd r (next r).f0 ∧ rd r (next r).f1 < 0 ∧ (next r).f2 = mn (rd r (next r).f0) (-(rd r (next r).f1)) ∧ 0 ≤ fst negB r ∧ fst negB r < r.length := by
  rcases fst_cases posB r with ⟨h, _⟩ | ⟨i, hi, h, hpi, _⟩
  · omega
  rcases fst_cases negB r with ⟨h2, hno⟩ | ⟨j, hj, h2, hnj, _⟩
  · have := nonneg_sum hno
    have h3 := this.2 i hi
    have : 0 < r[i] := by simpa [posB] using hpi
    omega
  · have e1 : 0 < r[i] := by simpa [posB] using hpi
    have e2 : r[j] < 0 := by simpa [negB] using hnj
    have b1 := hb i
    have b2 := hb j
    unfold next
    rw [h, h2]
    simp only []
    have r0 := rd_get hi
    have r1 := rd_get hj
    rw [r0] at b1; rw [r1] at b2
    simp only [r0, r1]
    refine ⟨?_, e1, e2, trivial, by omega, by omega⟩
    unfold hv
    rw [decide_eq_true_eq]
    have hm : 1 ≤ mn r[i] (-r[j]) ∧ mn r[i] (-r[j]) ≤ 1000000 := by unfold mn; split <;> omega
    have hij : (i : Int) ≠ j := by
      intro e
      have : i = j := by omega
      subst this; omega
    simp only []
    omega
theorem map_id_sum (r : List Int) : (r.map (fun x => x)).sum = r.sum := by simp
theorem step_ok {r : List Int} (hl : r.length ≤ 12) (hs : r.sum = 0) (hb : Bnd 1000 r) (hp : 0 ≤ fst posB r) :
    (app r (next r)).sum = 0 ∧ Bnd 1000 (app r (next r)) ∧ nz (app r (next r)) ≤ nz r - 1 ∧ 2 ≤ nz r := by
  obtain ⟨h1, h2, h3, h4, _⟩ := next_ok hl hs hb hp
  have hvv := hv_of h1
  have s1 := msum_app (fun x => x) h1
  rw [map_id_sum, map_id_sum] at s1
  have s2 := msum_app nzf h1
  have key : ∀ j : Int, 0 ≤ j → -1000 ≤ rd (app r (next r)) j ∧ rd (app r (next r)) j ≤ 1000 := by
    intro j hj
    rw [rd_app h1 hj]
    have := hb j
    have b0 := hb (next r).f0
    have b1 := hb (next r).f1
    have hm : (next r).f2 ≤ rd r (next r).f0 ∧ (next r).f2 ≤ -(rd r (next r).f1) := by rw [h4]; unfold mn; split <;> omega
    unfold dl
    by_cases e1 : j = (next r).f1
    · rw [if_pos e1, if_neg (by omega)]; rw [e1]; omega
    · rw [if_neg e1]
      by_cases e0 : j = (next r).f0
      · rw [if_pos e0]; rw [e0]; omega
      · rw [if_neg e0]; omega
  refine ⟨by omega, fun j => ?_, ?_, ?_⟩
  · by_cases hj : 0 ≤ j
    · exact key j hj
    · have h0 : j.toNat = (0 : Int).toNat := by omega
      have e : rd (app r (next r)) j = rd (app r (next r)) 0 := by unfold rd; rw [h0]
      rw [e]; exact key 0 (by omega)
  · unfold nz at *
    rw [s2, h4]
    have : ∀ a b : Int, 0 < a → b < 0 → -nzf a + nzf (a - mn a (-b)) - nzf b + nzf (b + mn a (-b)) ≤ -1 := by
      intro a b ha hb'
      unfold nzf mn
      repeat' split
      all_goals omega
    have := this _ _ h2 h3
    omega
  · have h5 := nz_bound (app r (next r))
    unfold nz at *
    have : ∀ a b : Int, 0 < a → b < 0 → nzf (a - mn a (-b)) + nzf (b + mn a (-b)) ≤ 1 ∧ nzf a = 1 ∧ nzf b = 1 ∧ 0 ≤ nzf (a - mn a (-b)) ∧ 0 ≤ nzf (b + mn a (-b)) := by
      intro a b ha hb'
      unfold nzf mn
      repeat' split
      all_goals omega
    have := this _ _ h2 h3
    rw [← h4] at this
    -- two places at least: f0 and f1
    have hset : nz (((r.set (next r).f0.toNat 0).set (next r).f1.toNat 0)) = (r.map nzf).sum - 2 := by
      unfold nz
      have hne : (next r).f1.toNat ≠ (next r).f0.toNat := by omega
      rw [msum_set nzf _ _ (by rw [List.length_set]; omega), msum_set nzf _ _ (by omega), List.getElem_set_ne (by omega), ← rd_get' (l := r) (j := (next r).f0) (by omega) (by omega), ← rd_get' (l := r) (j := (next r).f1) (by omega) (by omega)]
      have z : nzf 0 = 0 := rfl
      rw [z]; omega
    have := (nz_bound (((r.set (next r).f0.toNat 0).set (next r).f1.toNat 0))).1
    omega
theorem planLoop {l : List Int} (d : Nat) : ∀ (r : List Int) (out : List Haul), r.length ≤ 12 → r.sum = 0 → Bnd 1000 r → nz r ≤ d → out.length + d ≤ 100 →
    EvQ (fun k => spec_HaulPlan.l0 k out r) (fun x => x = (out ++ planF d r, true)) := by
  have hend : ∀ (d : Nat) (r : List Int) (out : List Haul), r.length ≤ 12 → fst posB r < 0 → EvQ (fun k => spec_HaulPlan.l0 k out r) (fun x => x = (out ++ planF d r, true)) := by
    intro d r out hl hp
    refine EvQ.step (fun k => by simp only [spec_HaulPlan.l0]; rfl) ?_
    refine EvQ.call (firstPos hl) (EvQ.neg (by omega) (EvQ.ret ?_))
    cases d with
    | zero => simp [planF]
    | succ d => simp [planF, hp]
  induction d with
  | zero =>
    intro r out hl hs hb hn _
    refine hend 0 r out hl ?_
    by_cases h : fst posB r < 0
    · exact h
    · have := (step_ok hl hs hb (by omega)).2.2.2; omega
  | succ d ih =>
    intro r out hl hs hb hn hlen
    by_cases hp : fst posB r < 0
    · exact hend (d + 1) r out hl hp
    · have hp' : 0 ≤ fst posB r := by omega
      obtain ⟨h1, h2, h3, h4, h5, h6⟩ := next_ok hl hs hb hp'
      obtain ⟨g1, g2, g3, g4⟩ := step_ok hl hs hb hp'
      have hvv := hv_of h1
      have b0 := hb (next r).f0
      have b1 := hb (next r).f1
      have f0e : (next r).f0 = fst posB r := rfl
      have f1e : (next r).f1 = fst negB r := rfl
      have w1 : wrap64 (-(rd r (fst negB r))) = -(rd r (fst negB r)) := by rw [← f1e]; exact w64 (by omega) (by omega)
      have f2e : mn (rd r (fst posB r)) (wrap64 (-(rd r (fst negB r)))) = (next r).f2 := by rw [w1]; rfl
      refine EvQ.step (fun k => by simp only [spec_HaulPlan.l0]; rfl) ?_
      refine EvQ.call (firstPos hl) (EvQ.pos hp' (EvQ.call (firstPos hl) (EvQ.call (firstNeg hl) ?_)))
      rw [f2e, ← f0e, ← f1e]
      refine EvQ.pos (by omega) (EvQ.pos (by omega) (EvQ.pos (by omega) (EvQ.pos (by omega) (EvQ.pos (by omega) (EvQ.bindc rfl ?_)))))
      have hne : (next r).f1.toNat ≠ (next r).f0.toNat := by omega
      have e1 : rd (r.set (next r).f0.toNat (rd r (next r).f0 - (next r).f2)) (next r).f1 = rd r (next r).f1 := by rw [rd_set, if_neg (fun hh => hne hh.1)]
      rw [w64 (n := rd r (next r).f0 - (next r).f2) (by omega) (by omega), w64 (n := rd (r.set (next r).f0.toNat (rd r (next r).f0 - (next r).f2)) (next r).f1 + (next r).f2) (by omega) (by omega)]
      have hx := ih (app r (next r)) (out ++ [next r]) (by rw [app_length]; exact hl) g1 g2 (by omega) (by simp; omega)
      refine EvQ.mono hx ?_
      rintro _ rfl
      simp [planF, hp]
/-- The plan of balanced stations. -/
def plan (l : List Int) : List Haul := if bal l then planF l.length l else []
theorem planF_length (d : Nat) : ∀ r, (planF d r).length ≤ d := by
  induction d with
  | zero => intro r; simp [planF]
  | succ d ih => intro r; simp only [planF]; split
                 · simp
                 · simp only [List.length_cons]; have := ih (app r (next r)); omega
theorem plan_length (l : List Int) : (plan l).length ≤ 12 := by
  unfold plan
  split
  · rename_i h
    exact Nat.le_trans (planF_length _ _) (okS_of (bal_ok h)).2.1
  · simp
theorem specPlan {l : List Int} (hl : Len l) : EvQ (fun k => spec_HaulPlan.f k l) (fun x => x = (plan l, bal l)) := by
  unfold spec_HaulPlan.f plan
  refine EvQ.bindc rfl (EvQ.call (specBalanced hl) ?_)
  by_cases h : bal l = true
  · have ho := bal_ok h
    have h12 := (okS_of ho).2.1
    have hn := nz_bound l
    simp only [h, if_true]
    refine EvQ.bindc rfl (EvQ.pos (by simp; omega) ?_)
    refine EvQ.mono (planLoop (l := l) l.length ([] ++ l) [] (by simpa using h12) (by simpa using bal_sum h) (by simpa using Bnd.of_okS ho) (by simpa using hn.2) (by simp; omega)) ?_
    rintro _ rfl
    simp
  · simp only [h]
    exact EvQ.neg (by simp) (EvQ.ret (by simp))
abbrev Pile := S65
/-- The places of a kind, with what lies there. -/
def filt (p : Int → Bool) (g : Int → Int) : Int → List Int → List Pile
  | _, [] => []
  | i, x :: l => (if p x = true then [⟨i, g x⟩] else []) ++ filt p g (i + 1) l
theorem have_eq (l : List Int) : ∀ i, hpHave i l = filt posB id i l := by
  induction l with
  | nil => intro i; rfl
  | cons x l ih => intro i; simp only [hpHave, filt, ih, posB, decide_eq_true_eq, gt_iff_lt, id]
theorem miss_eq (l : List Int) : ∀ i, hpMiss i l = filt negB (fun x => wrap64 (-x)) i l := by
  induction l with
  | nil => intro i; rfl
  | cons x l ih => intro i; simp only [hpMiss, filt, ih, negB, decide_eq_true_eq]
theorem filt_none {p : Int → Bool} {g : Int → Int} {r : List Int} : ∀ {i : Int}, (∀ j (hj : j < r.length), p r[j] = false) → filt p g i r = [] := by
  induction r with
  | nil => intro i _; rfl
  | cons x r ih =>
    intro i h
    have h0 : p x = false := h 0 (by simp)
    have h1 := ih (i := i + 1) (fun j hj => by have := h (j + 1) (by simpa using hj); rwa [List.getElem_cons_succ] at this)
    simp [filt, h0, h1]
theorem filt_far {p : Int → Bool} {g : Int → Int} {r : List Int} : ∀ {i : Int} {j : Nat} {v : Int} (hj : j < r.length), p r[j] = false → p v = false → filt p g i (r.set j v) = filt p g i r := by
  induction r with
  | nil => intro i j v hj; simp at hj
  | cons x r ih =>
    intro i j v hj h h'
    cases j with
    | zero =>
      have h0 : p x = false := h
      simp [filt, h0, h']
    | succ j => simp only [List.set_cons_succ, filt]; rw [ih (by simpa using hj) (by simpa using h) h']
theorem filt_first {p : Int → Bool} {g : Int → Int} {r : List Int} : ∀ {i : Int} {j : Nat} (hj : j < r.length), p r[j] = true → (∀ k (hk : k < j), p (r[k]'(by omega)) = false) →
    ∃ t, filt p g i r = ⟨i + j, g r[j]⟩ :: t ∧ ∀ v, filt p g i (r.set j v) = (if p v = true then [⟨i + j, g v⟩] else []) ++ t := by
  induction r with
  | nil => intro i j hj; simp at hj
  | cons x r ih =>
    intro i j hj h hb
    cases j with
    | zero =>
      have h0 : p x = true := h
      exact ⟨filt p g (i + 1) r, by simp [filt, h0], fun v => by simp [filt]⟩
    | succ j =>
      have h0 : p x = false := hb 0 (by omega)
      obtain ⟨t, h1, h2⟩ := ih (i := i + 1) (j := j) (by simpa using hj) (by simpa using h) (fun k hk => by have := hb (k + 1) (by omega); rwa [List.getElem_cons_succ] at this)
      have e : i + 1 + (j : Int) = i + ((j + 1 : Nat) : Int) := by push_cast; omega
      rw [e] at h1 h2
      exact ⟨t, by simp [filt, h0, h1], fun v => by simp only [List.set_cons_succ, filt, h0, Bool.false_eq_true, if_false, List.nil_append, h2]⟩
theorem app_eq {r : List Int} {h : Haul} (hh : hv r.length h = true) : app r h = (r.set h.f0.toNat (rd r h.f0 - h.f2)).set h.f1.toNat (rd r h.f1 + h.f2) := by
  have hv := hv_of hh
  have hne : h.f1.toNat ≠ h.f0.toNat := by omega
  unfold app; rw [rd_set, if_neg (fun hx => hne hx.1)]
/-- The queues' fronts are the next haul; what is left of them are the queues of what is left. -/
theorem queues {r : List Int} (hl : r.length ≤ 12) (hs : r.sum = 0) (hb : Bnd 1000 r) (hp : 0 ≤ fst posB r) :
    ∃ t1 t2, hpHave 0 r = ⟨(next r).f0, rd r (next r).f0⟩ :: t1 ∧ hpMiss 0 r = ⟨(next r).f1, -(rd r (next r).f1)⟩ :: t2 ∧
      hpHave 0 (app r (next r)) = hpCut ⟨(next r).f0, rd r (next r).f0⟩ (next r).f2 t1 ∧ hpMiss 0 (app r (next r)) = hpCut ⟨(next r).f1, -(rd r (next r).f1)⟩ (next r).f2 t2 := by
  obtain ⟨h1, h2, h3, h4, h5, h6⟩ := next_ok hl hs hb hp
  have hvv := hv_of h1
  have hm : (next r).f2 ≤ rd r (next r).f0 ∧ (next r).f2 ≤ -(rd r (next r).f1) := by rw [h4]; unfold mn; split <;> omega
  have b0 := hb (next r).f0
  have b1 := hb (next r).f1
  rcases fst_cases posB r with ⟨e, _⟩ | ⟨i, hi, ei, hpi, hbi⟩
  · omega
  rcases fst_cases negB r with ⟨e, _⟩ | ⟨j, hj, ej, hpj, hbj⟩
  · omega
  have f0 : (next r).f0 = i := ei
  have f1 : (next r).f1 = j := ej
  rw [app_eq h1]
  simp only [f0, f1, rd_get hi, rd_get hj] at h2 h3 h4 hm b0 b1 hvv ⊢
  generalize (next r).f2 = m at h4 hm hvv ⊢
  have hij : i ≠ j := by
    intro e
    subst e
    omega
  obtain ⟨t1, a1, a2⟩ := filt_first (g := id) (i := 0) hi hpi hbi
  obtain ⟨t2, c1, c2⟩ := filt_first (g := fun x => wrap64 (-x)) (i := 0) hj hpj hbj
  rw [Int.zero_add] at a1 a2 c1 c2
  simp only [id] at a1 a2
  have w1 : wrap64 (-r[j]) = -r[j] := w64 (by omega) (by omega)
  rw [w1] at c1
  refine ⟨t1, t2, by rw [have_eq]; exact a1, by rw [miss_eq]; exact c1, ?_, ?_⟩
  · rw [have_eq, Int.toNat_natCast, Int.toNat_natCast, filt_far (by rw [List.length_set]; exact hj) (by rw [List.getElem_set_ne hij]; unfold posB; rw [decide_eq_false_iff_not]; omega) (by unfold posB; rw [decide_eq_false_iff_not]; omega), a2]
    unfold hpCut posB
    simp only [decide_eq_true_eq]
    rw [w64 (n := r[i] - m) (by omega) (by omega)]
    by_cases hz : r[i] - m = 0
    · rw [if_pos hz, if_neg (by omega)]; rfl
    · rw [if_neg hz, if_pos (by omega)]; rfl
  · rw [miss_eq, Int.toNat_natCast, Int.toNat_natCast, List.set_comm _ _ hij, filt_far (by rw [List.length_set]; exact hi) (by rw [List.getElem_set_ne (Ne.symm hij)]; unfold negB; rw [decide_eq_false_iff_not]; omega) (by unfold negB; rw [decide_eq_false_iff_not]; omega), c2]
    unfold hpCut negB
    simp only [decide_eq_true_eq]
    rw [w64 (n := -r[j] - m) (by omega) (by omega), w64 (n := -(r[j] + m)) (by omega) (by omega)]
    by_cases hz : -r[j] - m = 0
    · rw [if_pos hz, if_neg (by omega)]; rfl
    · rw [if_neg hz, if_pos (by omega), show -(r[j] + m) = -r[j] - m by omega]; rfl
theorem planI (d : Nat) : ∀ (r : List Int) (out : List Haul), r.length ≤ 12 → r.sum = 0 → Bnd 1000 r → nz r ≤ d → out.length + d ≤ 100 →
    EvQ (fun k => impl_HaulPlan.l0 k out (hpHave 0 r) (hpMiss 0 r)) (fun x => x = (out ++ planF d r, true)) := by
  have hend : ∀ (d : Nat) (r : List Int) (out : List Haul), fst posB r < 0 → EvQ (fun k => impl_HaulPlan.l0 k out (hpHave 0 r) (hpMiss 0 r)) (fun x => x = (out ++ planF d r, true)) := by
    intro d r out hp
    have e : hpHave 0 r = [] := by
      rcases fst_cases posB r with ⟨_, h⟩ | ⟨i, hi, ei, _⟩
      · rw [have_eq]; exact filt_none h
      · omega
    rw [e]
    refine EvQ.step (fun k => by simp only [impl_HaulPlan.l0]; rfl) (EvQ.ret ?_)
    cases d with
    | zero => simp [planF]
    | succ d => simp [planF, hp]
  induction d with
  | zero =>
    intro r out hl hs hb hn _
    refine hend 0 r out ?_
    by_cases h : fst posB r < 0
    · exact h
    · have := (step_ok hl hs hb (by omega)).2.2.2; omega
  | succ d ih =>
    intro r out hl hs hb hn hlen
    by_cases hp : fst posB r < 0
    · exact hend (d + 1) r out hp
    · have hp' : 0 ≤ fst posB r := by omega
      obtain ⟨h1, h2, h3, h4, h5, h6⟩ := next_ok hl hs hb hp'
      obtain ⟨g1, g2, g3, g4⟩ := step_ok hl hs hb hp'
      obtain ⟨t1, t2, q1, q2, q3, q4⟩ := queues hl hs hb hp'
      rw [q1, q2]
      refine EvQ.step (fun k => by simp only [impl_HaulPlan.l0]; rfl) ?_
      refine EvQ.pos (by omega) ?_
      have hx := ih (app r (next r)) (out ++ [next r]) (by rw [app_length]; exact hl) g1 g2 (by omega) (by simp; omega)
      rw [q3, q4, h4] at hx
      refine EvQ.mono hx ?_
      rintro _ rfl
      simp [planF, hp]
theorem implPlan {l : List Int} (hl : Len l) : EvQ (fun k => impl_HaulPlan.f k l) (fun x => x = (plan l, bal l)) := by
  unfold impl_HaulPlan.f plan
  refine EvQ.call (implBalanced hl) ?_
  by_cases h : bal l = true
  · have ho := bal_ok h
    have h12 := (okS_of ho).2.1
    have hn := nz_bound l
    simp only [h, if_true]
    refine EvQ.pos (by omega) ?_
    exact EvQ.mono (planI (l.length) l [] h12 (bal_sum h) (Bnd.of_okS ho) hn.2 (by simp; omega)) (by rintro _ rfl; simp)
  · simp only [h]
    exact EvQ.neg (by simp) (EvQ.ret (by simp))
/-- What is too much, and what is missed. -/
def pp (x : Int) : Int := if 0 < x then x else 0
def pn (x : Int) : Int := if x < 0 then -x else 0
theorem pp_pn (r : List Int) : (r.map pp).sum - (r.map pn).sum = r.sum := by
  induction r with
  | nil => rfl
  | cons x r ih => simp only [List.map_cons, List.sum_cons]; have : pp x - pn x = x := by unfold pp pn; split <;> split <;> omega
                   omega
theorem pp_none {r : List Int} (h : ∀ j (hj : j < r.length), posB r[j] = false) : (r.map pp).sum = 0 := by
  induction r with
  | nil => rfl
  | cons x r ih =>
    have h0 : posB x = false := h 0 (by simp)
    have hx : x ≤ 0 := by simpa [posB] using h0
    rw [List.map_cons, List.sum_cons, ih (fun j hj => by have h' := h (j + 1) (by simpa using hj); rwa [List.getElem_cons_succ] at h')]
    unfold pp; rw [if_neg (by omega)]; rfl
theorem planF_loads (d : Nat) : ∀ (r : List Int), r.length ≤ 12 → r.sum = 0 → Bnd 1000 r → nz r ≤ d → loads (planF d r) = (r.map pp).sum := by
  have hfin : ∀ (d : Nat) (r : List Int), fst posB r < 0 → loads (planF d r) = (r.map pp).sum := by
    intro d r hp
    have e : planF d r = [] := by cases d <;> simp [planF, hp]
    rcases fst_cases posB r with ⟨_, h⟩ | ⟨i, hi, ei, _⟩
    · rw [e, pp_none h]; rfl
    · omega
  induction d with
  | zero =>
    intro r hl hs hb hn
    refine hfin 0 r ?_
    by_cases h : fst posB r < 0
    · exact h
    · have := (step_ok hl hs hb (by omega)).2.2.2; omega
  | succ d ih =>
    intro r hl hs hb hn
    by_cases hp : fst posB r < 0
    · exact hfin _ r hp
    · have hp' : 0 ≤ fst posB r := by omega
      obtain ⟨h1, h2, h3, h4, h5, h6⟩ := next_ok hl hs hb hp'
      obtain ⟨g1, g2, g3, g4⟩ := step_ok hl hs hb hp'
      have hi := ih (app r (next r)) (by rw [app_length]; exact hl) g1 g2 (by omega)
      have e : planF (d + 1) r = next r :: planF d (app r (next r)) := by simp [planF, hp]
      have hm : (next r).f2 ≤ rd r (next r).f0 ∧ (next r).f2 ≤ -(rd r (next r).f1) := by rw [h4]; unfold mn; split <;> omega
      have s2 := msum_app pp h1
      have a1 : pp (rd r (next r).f0) = rd r (next r).f0 := by unfold pp; rw [if_pos h2]
      have a2 : pp (rd r (next r).f0 - (next r).f2) = rd r (next r).f0 - (next r).f2 := by unfold pp; split <;> omega
      have a3 : pp (rd r (next r).f1) = 0 := by unfold pp; rw [if_neg (by omega)]
      have a4 : pp (rd r (next r).f1 + (next r).f2) = 0 := by unfold pp; rw [if_neg (by omega)]
      rw [e, loads_cons, hi, s2, a1, a2, a3, a4]
      omega
theorem plan_loads {l : List Int} (hb : bal l = true) : loads (plan l) = (l.map pp).sum ∧ loads (plan l) = (l.map pn).sum := by
  have ho := bal_ok hb
  have h12 := (okS_of ho).2.1
  have e : plan l = planF l.length l := by unfold plan; rw [hb]; rfl
  have h := planF_loads l.length l h12 (bal_sum hb) (Bnd.of_okS ho) (nz_bound l).2
  have hs := pp_pn l
  rw [bal_sum hb] at hs
  rw [e, h]
  exact ⟨rfl, by omega⟩
theorem planF_f2 (d : Nat) : ∀ (r : List Int), r.length ≤ 12 → r.sum = 0 → Bnd 1000 r → ∀ h ∈ planF d r, 0 ≤ h.f2 ∧ h.f2 ≤ 1000000 := by
  induction d with
  | zero => intro r _ _ _ h hh; simp [planF] at hh
  | succ d ih =>
    intro r hl hs hb h hh
    by_cases hp : fst posB r < 0
    · simp [planF, hp] at hh
    · have hp' : 0 ≤ fst posB r := by omega
      obtain ⟨h1, _⟩ := next_ok hl hs hb hp'
      obtain ⟨g1, g2, _⟩ := step_ok hl hs hb hp'
      have hvv := hv_of h1
      have e : planF (d + 1) r = next r :: planF d (app r (next r)) := by simp [planF, hp]
      rw [e] at hh
      rcases List.mem_cons.1 hh with rfl | hh
      · omega
      · exact ih (app r (next r)) (by rw [app_length]; exact hl) g1 g2 h hh
theorem plan_f2 {l : List Int} : ∀ h ∈ plan l, 0 ≤ h.f2 ∧ h.f2 ≤ 1000000 := by
  unfold plan
  split
  · rename_i hb
    exact planF_f2 _ l (okS_of (bal_ok hb)).2.1 (bal_sum hb) (Bnd.of_okS (bal_ok hb))
  · simp
theorem loads_range {p : List Haul} (h : ∀ x ∈ p, 0 ≤ x.f2 ∧ x.f2 ≤ 1000000) : 0 ≤ loads p ∧ loads p ≤ 1000000 * p.length := by
  induction p with
  | nil => simp [loads]
  | cons x p ih =>
    have := ih (fun y hy => h y (by simp [hy]))
    have := h x (by simp)
    rw [loads_cons, List.length_cons]; push_cast; omega
end Go.Proofs.Ytekgcfjoimdecaa.Cr

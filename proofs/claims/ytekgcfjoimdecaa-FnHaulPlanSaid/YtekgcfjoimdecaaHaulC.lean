/- Chapter 43, plain: plans of hauls. No program in sight. -/
import Derived.Test.YtekgcfjoimdecaaHaulB
import Derived.Test.YtekgcfjoimdecaaPx17
import Derived.Test.YtekgcfjoimdecaaPx19
import Derived.Test.YtekgcfjoimdecaaPx18
import Derived.Test.YtekgcfjoimdecaaPx23
import Derived.Test.YtekgcfjoimdecaaPx24
set_option linter.unusedVariables false
set_option linter.unusedSimpArgs false
namespace Go.Proofs.Ytekgcfjoimdecaa.HaulA
open Go.RowKit Go.Proofs.Ytekgcfjoimdecaa.P Go.Proofs.YtekgcfjoimdecaaW.PrintWords Go.Proofs.YtekgcfjoimdecaaW.PrintLast Go.Proofs.YtekgcfjoimdecaaW.PrintMore Go.Proofs.Ytekgcfjoimdecaa.Ev
abbrev Haul := S47
theorem rdH_get {l : List Haul} {i : Nat} (h : i < l.length) : rd_T47 l (i : Int) = l[i] := by
  unfold rd_T47; simp [List.getD_eq_getElem?_getD, h]
theorem rd_set (r : List Int) (i : Nat) (v j : Int) : rd (r.set i v) j = if j.toNat = i ∧ i < r.length then v else rd r j := by
  unfold rd
  rw [List.getD_eq_getElem?_getD, List.getD_eq_getElem?_getD, List.getElem?_set]
  by_cases h : i = j.toNat
  · subst h
    by_cases h2 : j.toNat < r.length
    · simp [h2]
    · simp [h2]
  · rw [if_neg h, if_neg (fun hh => h hh.1.symm)]
/-- A haul between n stations. -/
def hv (n : Nat) (h : Haul) : Bool := decide (0 ≤ h.f0 ∧ h.f0 < n ∧ 0 ≤ h.f1 ∧ h.f1 < n ∧ h.f0 ≠ h.f1 ∧ 1 ≤ h.f2 ∧ h.f2 ≤ 1000000)
/-- What a haul leaves. -/
def app (r : List Int) (h : Haul) : List Int := (r.set h.f0.toNat (rd r h.f0 - h.f2)).set h.f1.toNat (rd (r.set h.f0.toNat (rd r h.f0 - h.f2)) h.f1 + h.f2)
theorem app_length (r : List Int) (h : Haul) : (app r h).length = r.length := by simp [app]
/-- What a plan leaves. -/
def after (l : List Int) (plan : List Haul) : List Int := plan.foldl app l
theorem after_snoc (l : List Int) (plan : List Haul) (h : Haul) : after l (plan ++ [h]) = app (after l plan) h := by simp [after]
theorem after_length (l : List Int) (plan : List Haul) : (after l plan).length = l.length := by
  unfold after
  induction plan generalizing l with
  | nil => rfl
  | cons h plan ih => rw [List.foldl_cons, ih, app_length]
/-- All within b of 0. -/
def Bnd (b : Int) (r : List Int) : Prop := ∀ j, -b ≤ rd r j ∧ rd r j ≤ b
theorem hv_of {n : Nat} {h : Haul} (hh : hv n h = true) : 0 ≤ h.f0 ∧ h.f0 < n ∧ 0 ≤ h.f1 ∧ h.f1 < n ∧ h.f0 ≠ h.f1 ∧ 1 ≤ h.f2 ∧ h.f2 ≤ 1000000 := of_decide_eq_true hh
theorem Bnd.app {b : Int} {r : List Int} {h : Haul} {n : Nat} (hb : Bnd b r) (hh : hv n h = true) : Bnd (b + 1000000) (app r h) := by
  have := hv_of hh
  intro j
  have h0 := hb h.f0
  have h1 := hb h.f1
  have hj := hb j
  unfold HaulA.app
  rw [rd_set, rd_set, rd_set]
  have hne : h.f1.toNat ≠ h.f0.toNat := by omega
  split
  · rw [if_neg (fun hh => hne hh.1)]; omega
  · split <;> omega
theorem Bnd.of_okS {l : List Int} (h : okS l = true) : Bnd 1000 l := by
  intro j
  unfold rd
  rw [List.getD_eq_getElem?_getD]
  by_cases hj : j.toNat < l.length
  · simp only [List.getElem?_eq_getElem hj, Option.getD_some]
    exact mem_bound h hj
  · simp [List.getElem?_eq_none (Nat.le_of_not_lt hj)]
theorem Bnd.mono {b c : Int} {r : List Int} (h : Bnd b r) (hc : b ≤ c) : Bnd c r := fun j => by have := h j; omega
/-- A plan for stations. -/
def planOk (l : List Int) (plan : List Haul) : Bool := bal l && (decide (plan.length ≤ 100) && (plan.all (hv l.length) && (after l plan).all (fun x => decide (x = 0))))
theorem bind_some_ {α β : Type} (x : α) (f : α → Option β) : (some x).bind f = f x := rfl
theorem in_eq {a b c : Int} : spec_l6In.f a b c = some (decide (b ≤ a ∧ a ≤ c)) := by
  unfold spec_l6In.f
  by_cases h : a ≥ b
  · rw [if_pos h]; congr 1; rw [Bool.eq_iff_iff]; simp; omega
  · rw [if_neg h]; congr 1; symm; rw [decide_eq_false_iff_not]; omega
theorem specOkTail {r : List Int} (hl : r.length ≤ 12) : EvQ (fun k => spec_HaulOk.l1 k r 0) (fun x => x = r.all (fun x => decide (x = 0))) := by
  refine EvQ.loop (σ := Unit) (g := fun k i _ => spec_HaulOk.l1 k r i) r.length (fun i _ => (r.take i).all (fun x => decide (x = 0)) = true) ?_ ?_ 0 () (by omega) (by simp)
  · intro i _ hi hI ih
    refine EvQ.step (fun k => by simp only [spec_HaulOk.l1]; rfl) ?_
    refine EvQ.pos (by omega) (EvQ.pos (by omega) ?_)
    rw [rd_get hi]
    refine EvQ.ite (fun h => ?_) (fun h => EvQ.ret ?_)
    · rw [w64i hi (by omega)]
      exact ih () (all_take_succ hi hI (by simpa using h))
    · exact (all_false hi (by simpa using h)).symm
  · intro _ hI
    rw [List.take_length] at hI
    refine EvQ.step (fun k => by simp only [spec_HaulOk.l1]; rfl) ?_
    exact EvQ.neg (by omega) (EvQ.ret hI.symm)
theorem implOkTail {r : List Int} (hl : r.length ≤ 12) : EvQ (fun k => impl_HaulOk.l1 k r (r.length : Int) 0) (fun x => x = r.all (fun x => decide (x = 0))) := by
  refine EvQ.loop (σ := Unit) (g := fun k i _ => impl_HaulOk.l1 k r (r.length : Int) i) r.length (fun i _ => (r.take i).all (fun x => decide (x = 0)) = true) ?_ ?_ 0 () (by omega) (by simp)
  · intro i _ hi hI ih
    refine EvQ.step (fun k => by simp only [impl_HaulOk.l1]; rfl) ?_
    refine EvQ.pos (by omega) (EvQ.pos (by omega) (EvQ.pos (by omega) ?_))
    rw [rd_get hi]
    refine EvQ.ite (fun h => ?_) (fun h => EvQ.ret ?_)
    · rw [w64i hi (by omega)]
      exact ih () (all_take_succ hi hI (by simpa using h))
    · exact (all_false hi (by simpa using h)).symm
  · intro _ hI
    rw [List.take_length] at hI
    refine EvQ.step (fun k => by simp only [impl_HaulOk.l1]; rfl) ?_
    exact EvQ.neg (by omega) (EvQ.ret hI.symm)
theorem specOkLoop {l : List Int} {plan : List Haul} (ho : okS l = true) (hp : plan.length ≤ 100) :
    EvQ (fun k => spec_HaulOk.l0 k l plan l 0) (fun x => x = (plan.all (hv l.length) && (after l plan).all (fun x => decide (x = 0)))) := by
  obtain ⟨h1, h12, _⟩ := okS_of ho
  refine EvQ.loop (σ := List Int) (g := fun k i s => spec_HaulOk.l0 k l plan s i) plan.length (fun i s => s = after l (plan.take i) ∧ (plan.take i).all (hv l.length) = true ∧ Bnd (1000 + 1000000 * i) s) ?_ ?_ 0 l (by omega) ⟨by simp [after], by simp, by simpa using Bnd.of_okS ho⟩
  · rintro i s hi ⟨hs, ha, hb⟩ ih
    have hlen : s.length = l.length := by rw [hs, after_length]
    refine EvQ.step (fun k => by simp only [spec_HaulOk.l0]; rfl) ?_
    refine EvQ.pos (by omega) (EvQ.pos (by omega) ?_)
    have hw : wrap64 ((l.length : Int) - 1) = (l.length : Int) - 1 := w64 (by omega) (by omega)
    rw [rdH_get hi, hw]
    have hno : hv l.length plan[i] = false → EvQ (fun _ => some false) (fun x => x = (plan.all (hv l.length) && (after l plan).all (fun x => decide (x = 0)))) := by
      intro h; refine EvQ.ret ?_; rw [all_false hi h]; rfl
    simp only [in_eq, bind_some_]
    refine EvQ.ite (fun c1 => ?_) (fun c1 => hno ?_)
    · refine EvQ.ite (fun c2 => ?_) (fun c2 => hno ?_)
      · refine EvQ.ite (fun c3 => hno ?_) (fun c3 => ?_)
        · unfold hv; rw [decide_eq_false_iff_not]; omega
        · refine EvQ.ite (fun c4 => ?_) (fun c4 => hno ?_)
          · simp only [decide_eq_true_eq] at c1 c2 c4
            have hvt : hv l.length plan[i] = true := by unfold hv; rw [decide_eq_true_eq]; omega
            have g0 := hb plan[i].f0
            have g1 := hb plan[i].f1
            have hne : plan[i].f1.toNat ≠ plan[i].f0.toNat := by omega
            refine EvQ.pos (by omega) (EvQ.pos (by omega) (EvQ.pos (by omega) (EvQ.pos (by omega) ?_)))
            rw [w64 (n := rd s plan[i].f0 - plan[i].f2) (by omega) (by omega)]
            have e1 : rd (s.set plan[i].f0.toNat (rd s plan[i].f0 - plan[i].f2)) plan[i].f1 = rd s plan[i].f1 := by rw [rd_set, if_neg (fun hh => hne hh.1)]
            rw [w64 (n := rd (s.set plan[i].f0.toNat (rd s plan[i].f0 - plan[i].f2)) plan[i].f1 + plan[i].f2) (by omega) (by omega), w64 (n := (i : Int) + 1) (by omega) (by omega)]
            refine ih _ ⟨?_, all_take_succ hi ha hvt, ?_⟩
            · rw [List.take_succ_eq_append_getElem hi, after_snoc, ← hs]; rfl
            · have := hb.app hvt
              refine Bnd.mono this ?_
              push_cast; omega
          · simp only [decide_eq_true_eq] at c4; unfold hv; rw [decide_eq_false_iff_not]; omega
      · simp only [decide_eq_true_eq] at c2; unfold hv; rw [decide_eq_false_iff_not]; omega
    · simp only [decide_eq_true_eq] at c1; unfold hv; rw [decide_eq_false_iff_not]; omega
  · rintro s ⟨hs, ha, hb⟩
    rw [List.take_length] at hs ha
    refine EvQ.step (fun k => by simp only [spec_HaulOk.l0]; rfl) ?_
    refine EvQ.neg (by omega) ?_
    rw [ha, Bool.true_and, ← hs]
    exact specOkTail (by rw [hs, after_length]; exact h12)
theorem valid_eq {n : Nat} {h : Haul} : impl_haulValid.f (n : Int) h.f0 h.f1 h.f2 = some (hv n h) := by
  unfold impl_haulValid.f hv
  repeat' split
  all_goals (congr 1; first | (symm; rw [decide_eq_false_iff_not]; omega) | (rw [Bool.eq_iff_iff]; simp only [decide_eq_true_eq]; omega))
theorem implOkLoop {l : List Int} {plan : List Haul} (ho : okS l = true) (hp : plan.length ≤ 100) :
    EvQ (fun k => impl_HaulOk.l0 k l l plan (plan.length : Int) 0) (fun x => x = (plan.all (hv l.length) && (after l plan).all (fun x => decide (x = 0)))) := by
  obtain ⟨h1, h12, _⟩ := okS_of ho
  refine EvQ.loop (σ := List Int) (g := fun k i s => impl_HaulOk.l0 k l s plan (plan.length : Int) i) plan.length (fun i s => s = after l (plan.take i) ∧ (plan.take i).all (hv l.length) = true ∧ Bnd (1000 + 1000000 * i) s) ?_ ?_ 0 l (by omega) ⟨by simp [after], by simp, by simpa using Bnd.of_okS ho⟩
  · rintro i s hi ⟨hs, ha, hb⟩ ih
    have hlen : s.length = l.length := by rw [hs, after_length]
    refine EvQ.step (fun k => by simp only [impl_HaulOk.l0]; rfl) ?_
    refine EvQ.pos (by omega) (EvQ.pos (by omega) (EvQ.pos (by omega) ?_))
    rw [rdH_get hi]
    simp only [valid_eq, bind_some_]
    refine EvQ.ite (fun hvt => ?_) (fun c => EvQ.ret ?_)
    · have := hv_of hvt
      have g0 := hb plan[i].f0
      have g1 := hb plan[i].f1
      have hne : plan[i].f1.toNat ≠ plan[i].f0.toNat := by omega
      refine EvQ.pos (by omega) (EvQ.pos (by omega) (EvQ.pos (by omega) (EvQ.pos (by omega) ?_)))
      rw [w64 (n := rd s plan[i].f0 - plan[i].f2) (by omega) (by omega)]
      have e1 : rd (s.set plan[i].f0.toNat (rd s plan[i].f0 - plan[i].f2)) plan[i].f1 = rd s plan[i].f1 := by rw [rd_set, if_neg (fun hh => hne hh.1)]
      rw [w64 (n := rd (s.set plan[i].f0.toNat (rd s plan[i].f0 - plan[i].f2)) plan[i].f1 + plan[i].f2) (by omega) (by omega), w64 (n := (i : Int) + 1) (by omega) (by omega)]
      refine ih _ ⟨?_, all_take_succ hi ha hvt, ?_⟩
      · rw [List.take_succ_eq_append_getElem hi, after_snoc, ← hs]; rfl
      · have := hb.app hvt
        refine Bnd.mono this ?_
        push_cast; omega
    · rw [all_false hi (by simpa using c)]; rfl
  · rintro s ⟨hs, ha, hb⟩
    rw [List.take_length] at hs ha
    refine EvQ.step (fun k => by simp only [impl_HaulOk.l0]; rfl) ?_
    refine EvQ.neg (by omega) ?_
    rw [ha, Bool.true_and, ← hs]
    exact implOkTail (by rw [hs, after_length]; exact h12)
theorem specOk {l : List Int} {plan : List Haul} (hl : Len l) (hp : plan.length ≤ 140737488351232) : EvQ (fun k => spec_HaulOk.f k l plan) (fun x => x = planOk l plan) := by
  have hj : ∀ b : Bool, b = true → planOk l plan = false → EvQ (fun k => spec_HaulOk.j0 k l plan b) (fun r => r = planOk l plan) := by
    rintro _ rfl h
    refine EvQ.step (fun k => by simp only [spec_HaulOk.j0]; rfl) ?_
    exact EvQ.pos (by simp) (EvQ.ret h.symm)
  unfold spec_HaulOk.f
  refine EvQ.call (specBalanced hl) ?_
  by_cases h : bal l = true
  · refine EvQ.pos h ?_
    have ho := bal_ok h
    obtain ⟨h1, h12, _⟩ := okS_of ho
    by_cases hc : (plan.length : Int) > 100
    · exact hj _ (by simpa using hc) (by unfold planOk; rw [h]; simp; omega)
    · refine EvQ.step (fun k => by simp only [spec_HaulOk.j0]; rfl) ?_
      refine EvQ.neg (by simpa using hc) (EvQ.bindc rfl (EvQ.pos (by simp; omega) ?_))
      have : planOk l plan = (plan.all (hv l.length) && (after l plan).all (fun x => decide (x = 0))) := by
        unfold planOk; rw [h]; have : plan.length ≤ 100 := by omega
        simp [this]
      rw [this]
      exact specOkLoop ho (by omega)
  · refine EvQ.neg h ?_
    exact hj _ rfl (by unfold planOk; simp [h])
theorem implOk {l : List Int} {plan : List Haul} (hl : Len l) (hp : plan.length ≤ 140737488351232) : EvQ (fun k => impl_HaulOk.f k l plan) (fun x => x = planOk l plan) := by
  have hj : ∀ b : Bool, b = true → planOk l plan = false → EvQ (fun k => impl_HaulOk.j0 k l plan b) (fun r => r = planOk l plan) := by
    rintro _ rfl h
    refine EvQ.step (fun k => by simp only [impl_HaulOk.j0]; rfl) ?_
    exact EvQ.pos (by simp) (EvQ.ret h.symm)
  unfold impl_HaulOk.f
  refine EvQ.call (implBalanced hl) ?_
  by_cases h : bal l = true
  · refine EvQ.pos h ?_
    have ho := bal_ok h
    obtain ⟨h1, h12, _⟩ := okS_of ho
    by_cases hc : (plan.length : Int) > 100
    · exact hj _ (by simpa using hc) (by unfold planOk; rw [h]; simp; omega)
    · refine EvQ.step (fun k => by simp only [impl_HaulOk.j0]; rfl) ?_
      refine EvQ.neg (by simpa using hc) (EvQ.bindc rfl (EvQ.pos (by simp; omega) ?_))
      have : planOk l plan = (plan.all (hv l.length) && (after l plan).all (fun x => decide (x = 0))) := by
        unfold planOk; rw [h]; have : plan.length ≤ 100 := by omega
        simp [this]
      rw [this]
      exact implOkLoop ho (by omega)
  · refine EvQ.neg h ?_
    exact hj _ rfl (by unfold planOk; simp [h])
theorem planOk_of {l : List Int} {plan : List Haul} (h : planOk l plan = true) : bal l = true ∧ plan.length ≤ 100 ∧ plan.all (hv l.length) = true ∧ (after l plan).all (fun x => decide (x = 0)) = true := by
  unfold planOk at h
  simp only [Bool.and_eq_true, decide_eq_true_eq] at h
  exact h
/-- The work of one haul. -/
def cost1 (h : Haul) : Int := h.f2 * ab (h.f0 - h.f1)
/-- The work of a plan. -/
def costs (plan : List Haul) : Int := (plan.map cost1).sum
theorem costs_snoc (plan : List Haul) (h : Haul) : costs (plan ++ [h]) = costs plan + cost1 h := by
  unfold costs; rw [List.map_append, List.sum_append]; simp
theorem cost1_bound {n : Nat} {h : Haul} (hh : hv n h = true) (hn : n ≤ 12) : 0 ≤ cost1 h ∧ cost1 h ≤ 12000000 ∧ h.f2 ≤ cost1 h ∧ 1 ≤ ab (h.f0 - h.f1) ∧ ab (h.f0 - h.f1) ≤ 12 := by
  have := hv_of hh
  have h1 : 1 ≤ ab (h.f0 - h.f1) ∧ ab (h.f0 - h.f1) ≤ 12 := by unfold ab; split <;> omega
  unfold cost1
  have a := Int.mul_le_mul_of_nonneg_left h1.2 (show 0 ≤ h.f2 by omega)
  have b := Int.mul_le_mul_of_nonneg_left h1.1 (show 0 ≤ h.f2 by omega)
  omega
theorem costs_bound {n : Nat} {plan : List Haul} (hh : plan.all (hv n) = true) (hn : n ≤ 12) : 0 ≤ costs plan ∧ costs plan ≤ 12000000 * plan.length := by
  induction plan with
  | nil => simp [costs]
  | cons h plan ih =>
    simp only [List.all_cons, Bool.and_eq_true] at hh
    have := ih hh.2
    have := cost1_bound hh.1 hn
    have e : costs (h :: plan) = cost1 h + costs plan := by simp [costs]
    rw [e]
    simp only [List.length_cons]
    push_cast
    omega
theorem all_take {α : Type} {l : List α} {p : α → Bool} (h : l.all p = true) (i : Nat) : (l.take i).all p = true := by
  rw [List.all_eq_true] at h ⊢
  exact fun x hx => h x (List.mem_of_mem_take hx)
theorem all_get {α : Type} {l : List α} {p : α → Bool} (h : l.all p = true) {i : Nat} (hi : i < l.length) : p l[i] = true := List.all_eq_true.1 h _ (List.getElem_mem hi)
/-- What HaulCost tells. -/
def cost (l : List Int) (plan : List Haul) : Int := if planOk l plan then costs plan else -1
theorem specCost {l : List Int} {plan : List Haul} (hl : Len l) (hp : plan.length ≤ 140737488351232) : EvQ (fun k => spec_HaulCost.f k l plan) (fun x => x = cost l plan) := by
  unfold spec_HaulCost.f cost
  refine EvQ.call (specOk hl hp) ?_
  by_cases h : planOk l plan = true
  · obtain ⟨hb, h100, ha, _⟩ := planOk_of h
    have h12 := (okS_of (bal_ok hb)).2.1
    simp only [h, if_true]
    refine EvQ.loop (σ := Int) (g := fun k i s => spec_HaulCost.l0 k plan s i) plan.length (fun i s => s = costs (plan.take i)) ?_ ?_ 0 0 (by omega) (by simp [costs])
    · rintro i _ hi rfl ih
      have hvt := all_get ha hi
      have hc := cost1_bound hvt h12
      have hcs := costs_bound (all_take ha i) h12
      have hlt : (plan.take i).length ≤ 100 := Nat.le_trans (List.length_take_le' ..) h100
      have := hv_of hvt
      refine EvQ.step (fun k => by simp only [spec_HaulCost.l0]; rfl) ?_
      refine EvQ.pos (by omega) (EvQ.pos (by omega) ?_)
      rw [rdH_get hi, w64 (n := plan[i].f0 - plan[i].f1) (by omega) (by omega)]
      refine EvQ.bindc (size_eq (by omega) (by omega)) ?_
      have hc1 : plan[i].f2 * ab (plan[i].f0 - plan[i].f1) = cost1 plan[i] := rfl
      rw [hc1, w64 (n := cost1 plan[i]) (by omega) (by omega), w64 (n := costs (plan.take i) + cost1 plan[i]) (by omega) (by omega), w64 (n := (i : Int) + 1) (by omega) (by omega)]
      exact ih _ (by rw [List.take_succ_eq_append_getElem hi, costs_snoc])
    · rintro _ rfl
      refine EvQ.step (fun k => by simp only [spec_HaulCost.l0]; rfl) ?_
      exact EvQ.neg (by omega) (EvQ.ret (by simp))
  · simp only [h]
    exact EvQ.neg (by simp) (EvQ.ret (by simp))
theorem implCost {l : List Int} {plan : List Haul} (hl : Len l) (hp : plan.length ≤ 140737488351232) : EvQ (fun k => impl_HaulCost.f k l plan) (fun x => x = cost l plan) := by
  unfold impl_HaulCost.f cost
  refine EvQ.call (implOk hl hp) ?_
  by_cases h : planOk l plan = true
  · obtain ⟨hb, h100, ha, _⟩ := planOk_of h
    have h12 := (okS_of (bal_ok hb)).2.1
    simp only [h, if_true]
    refine EvQ.loop (σ := Int) (g := fun k i s => impl_HaulCost.l0 k s plan (plan.length : Int) i) plan.length (fun i s => s = costs (plan.take i)) ?_ ?_ 0 0 (by omega) (by simp [costs])
    · rintro i _ hi rfl ih
      have hvt := all_get ha hi
      have hc := cost1_bound hvt h12
      have hcs := costs_bound (all_take ha i) h12
      have hlt : (plan.take i).length ≤ 100 := Nat.le_trans (List.length_take_le' ..) h100
      have := hv_of hvt
      refine EvQ.step (fun k => by simp only [impl_HaulCost.l0]; rfl) ?_
      refine EvQ.pos (by omega) (EvQ.pos (by omega) (EvQ.pos (by omega) ?_))
      rw [rdH_get hi, w64 (n := plan[i].f0 - plan[i].f1) (by omega) (by omega)]
      refine EvQ.bindc (absInt_eq (by omega) (by omega)) ?_
      have hc1 : plan[i].f2 * ab (plan[i].f0 - plan[i].f1) = cost1 plan[i] := rfl
      rw [hc1, w64 (n := cost1 plan[i]) (by omega) (by omega), w64 (n := costs (plan.take i) + cost1 plan[i]) (by omega) (by omega), w64 (n := (i : Int) + 1) (by omega) (by omega)]
      exact ih _ (by rw [List.take_succ_eq_append_getElem hi, costs_snoc])
    · rintro _ rfl
      refine EvQ.step (fun k => by simp only [impl_HaulCost.l0]; rfl) ?_
      exact EvQ.neg (by omega) (EvQ.ret (by simp))
  · simp only [h]
    exact EvQ.neg (by simp) (EvQ.ret (by simp))
end Go.Proofs.Ytekgcfjoimdecaa.HaulA

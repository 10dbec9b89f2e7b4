/- Plans are joined: for all codes. No condition is added. -/
import Derived.Test.YtekgcfjoimdecaaPx29
import Derived.Test.YtekgcfjoimdecaaDrawPlan
set_option linter.unusedVariables false
namespace Go.Proofs.Ytekgcfjoimdecaa.Pure
open Go.RowKit Go.Proofs.Ytekgcfjoimdecaa.P Go.Proofs.YtekgcfjoimdecaaW.PrintWords Go.Proofs.YtekgcfjoimdecaaW.PrintMore Go.Proofs.Ytekgcfjoimdecaa.Ev Go.Proofs.Ytekgcfjoimdecaa.HaulA Go.Proofs.Ytekgcfjoimdecaa.Pick
/-- A haul the other way. -/
def swp (h : Haul) : Haul := ⟨h.f1, h.f0, h.f2⟩
theorem dl_swp (h : Haul) (j : Int) : dl (swp h) j = -dl h j := by unfold dl swp; simp only []; omega
theorem dls_swp (p : List Haul) (j : Int) : dls (p.map swp) j = -dls p j := by
  induction p with
  | nil => rfl
  | cons h p ih =>
    have e1 : dls ((h :: p).map swp) j = dl (swp h) j + dls (p.map swp) j := by simp [dls]
    have e2 : dls (h :: p) j = dl h j + dls p j := by simp [dls]
    rw [e1, e2, ih, dl_swp]; omega
theorem hv_swp (n : Nat) (h : Haul) : hv n (swp h) = hv n h := by
  unfold hv swp; rw [Bool.eq_iff_iff]; simp only [decide_eq_true_eq]; omega
theorem sum_map_neg (l : List Int) : (l.map (fun x => -x)).sum = -l.sum := by
  induction l with
  | nil => rfl
  | cons x l ih => simp only [List.map_cons, List.sum_cons, ih]; omega
theorem bal_neg (l : List Int) : bal (l.map (fun x => -x)) = bal l := by
  unfold bal okS
  rw [List.length_map, sum_map_neg, List.all_map]
  have : (rng ∘ fun x => -x) = rng := by
    funext x; unfold rng; simp only [Function.comp]; rw [Bool.eq_iff_iff]; simp; omega
  rw [this]
  congr 1
  rw [Bool.eq_iff_iff]; simp
theorem rd_neg (l : List Int) (j : Int) : rd (l.map (fun x => -x)) j = -rd l j := by
  unfold rd
  rw [List.getD_eq_getElem?_getD, List.getD_eq_getElem?_getD, List.getElem?_map]
  cases l[j.toNat]? <;> simp
theorem planOk_swp {l : List Int} {p : List Haul} (h : planOk l p = true) : planOk (l.map (fun x => -x)) (p.map swp) = true := by
  rw [planOk_iff] at h ⊢
  obtain ⟨h1, h2, h3, h4⟩ := h
  refine ⟨by rw [bal_neg]; exact h1, by rw [List.length_map]; exact h2, ?_, fun j hj => ?_⟩
  · rw [List.length_map, List.all_map, List.all_eq_true]
    intro x hx
    rw [Function.comp, hv_swp]
    exact List.all_eq_true.1 h3 x hx
  · rw [rd_neg, dls_swp]; have := h4 j hj; omega
theorem planOk_round {l : List Int} {p : List Haul} {i j : Int} (h : planOk l p = true) (hp : p.length ≤ 98) (hi : 0 ≤ i ∧ i < l.length) (hj : 0 ≤ j ∧ j < l.length) (hij : i ≠ j) :
    planOk l (p ++ [(⟨i, j, 3⟩ : Haul), ⟨j, i, 3⟩]) = true := by
  rw [planOk_iff] at h ⊢
  obtain ⟨h1, h2, h3, h4⟩ := h
  refine ⟨h1, by simp; omega, ?_, fun q hq => ?_⟩
  · rw [List.all_append, h3]
    simp only [List.all_cons, List.all_nil, Bool.and_true, Bool.true_and, Bool.and_eq_true]
    unfold hv
    simp only [decide_eq_true_eq]
    omega
  · rw [dls_append]
    have := h4 q hq
    have : dls [(⟨i, j, 3⟩ : Haul), ⟨j, i, 3⟩] q = 0 := by simp only [dls, List.map_cons, List.map_nil, List.sum_cons, List.sum_nil, dl]; omega
    omega
theorem costs_round (p : List Haul) (i j : Int) : costs (p ++ [(⟨i, j, 3⟩ : Haul), ⟨j, i, 3⟩]) = costs p + 6 * ab (i - j) := by
  rw [costs_append]
  congr 1
  simp only [costs, List.map_cons, List.map_nil, List.sum_cons, List.sum_nil, cost1]
  have : ab (j - i) = ab (i - j) := by unfold ab; split <;> split <;> omega
  rw [this]; omega
theorem FnHaulOk : laws_FnHaulOk.Pure := by
  intro l more _ hl1 hwf _ hm1 _
  refine EvQ.rounds (g := fun k => laws_FnHaulOk.f k l more) ?_
  have hj0t : ∀ b : Bool, b = true → EvQ (fun k => laws_FnHaulOk.j0 k l more b) (fun r => r = true) := by
    rintro _ rfl
    refine EvQ.step (fun k => by simp only [laws_FnHaulOk.j0]; rfl) ?_
    exact EvQ.pos (by simp) (EvQ.ret rfl)
  unfold laws_FnHaulOk.f
  refine EvQ.ite (fun _ => hj0t _ rfl) (fun _ => ?_)
  by_cases hml : (more.length : Int) > 1048576
  · exact hj0t _ (by simpa using hml)
  refine EvQ.step (fun k => by simp only [laws_FnHaulOk.j0]; rfl) ?_
  refine EvQ.neg (by simpa using hml) ?_
  refine EvQ.bind (drawOk hwf) ?_
  rintro ⟨s, p⟩ ⟨hs, hp⟩
  simp only [] at hs hp ⊢
  have hl : Len s := by unfold Len; omega
  refine EvQ.call (implOk hl (by omega)) (EvQ.call (specOk hl (by omega)) (EvQ.neg (by simp) ?_))
  refine EvQ.step (fun k => by simp only [laws_FnHaulOk.j1]; rfl) ?_
  by_cases hb : planOk s p = true
  · obtain ⟨h1, h2, h3, _⟩ := planOk_of hb
    obtain ⟨h1l, h12, hr⟩ := okS_of (bal_ok h1)
    refine EvQ.neg (by rw [hb]; simp) ?_
    refine EvQ.loop (σ := List Int) (g := fun k i t => laws_FnHaulOk.l0 k more s p t i) s.length (fun i t => t = (s.map (fun x => -x)).take i) ?_ ?_ 0 [] (by omega) (by simp)
    · rintro i _ hi rfl ih
      have hm := mem_bound (bal_ok h1) hi
      refine EvQ.step (fun k => by simp only [laws_FnHaulOk.l0]; rfl) ?_
      refine EvQ.pos (by omega) (EvQ.pos (by omega) (EvQ.pos (by rw [List.length_take, List.length_map]; omega) ?_))
      rw [rd_get hi, w64 (n := -s[i]) (by omega) (by omega), w64 (n := (i : Int) + 1) (by omega) (by omega)]
      exact ih _ (by rw [List.take_succ_eq_append_getElem (by rw [List.length_map]; exact hi), List.getElem_map])
    · rintro _ rfl
      refine EvQ.step (fun k => by simp only [laws_FnHaulOk.l0]; rfl) ?_
      refine EvQ.neg (by omega) ?_
      have hneg : (s.map (fun x => -x)).take s.length = s.map (fun x => -x) := by rw [← List.length_map (f := fun x : Int => -x), List.take_length]
      rw [hneg]
      refine EvQ.loop (σ := List Haul) (g := fun k i t => laws_FnHaulOk.l1 k more s p (s.map (fun x => -x)) t i) p.length (fun i t => t = (p.map swp).take i) ?_ ?_ 0 [] (by omega) (by simp)
      · rintro i _ hi rfl ih
        refine EvQ.step (fun k => by simp only [laws_FnHaulOk.l1]; rfl) ?_
        refine EvQ.pos (by omega) (EvQ.pos (by omega) (EvQ.pos (by rw [List.length_take, List.length_map]; omega) ?_))
        rw [rdH_get hi, w64 (n := (i : Int) + 1) (by omega) (by omega)]
        exact ih _ (by rw [List.take_succ_eq_append_getElem (by rw [List.length_map]; exact hi), List.getElem_map]; rfl)
      · rintro _ rfl
        have hback : (p.map swp).take p.length = p.map swp := by rw [← List.length_map (f := swp), List.take_length]
        rw [hback]
        have hln : Len (s.map (fun x => -x)) := by unfold Len; rw [List.length_map]; omega
        have hok := planOk_swp hb
        refine EvQ.step (fun k => by simp only [laws_FnHaulOk.l1]; rfl) ?_
        refine EvQ.neg (by omega) ?_
        have hshort : ∀ b : Bool, b = true → EvQ (fun k => laws_FnHaulOk.j4 k more s p (s.map (fun x => -x)) (p.map swp) (s.length : Int) b) (fun r => r = true) := by
          rintro _ rfl
          refine EvQ.step (fun k => by simp only [laws_FnHaulOk.j4]; rfl) ?_
          exact EvQ.pos (by simp) (EvQ.call (implOk hln (by rw [List.length_map]; omega)) (EvQ.ret hok))
        refine EvQ.ite (fun _ => hshort _ rfl) (fun hn2 => ?_)
        by_cases hpl : (p.length : Int) > 98
        · exact hshort _ (by simpa using hpl)
        refine EvQ.step (fun k => by simp only [laws_FnHaulOk.j4]; rfl) ?_
        refine EvQ.neg (by simpa using hpl) (EvQ.neg (by omega) ?_)
        refine EvQ.bindc rfl (EvQ.pos (by simp; omega) (EvQ.bindc rfl (EvQ.bindc rfl (EvQ.pos (by simp; omega) (EvQ.bindc rfl ?_)))))
        have hi0 : 0 ≤ (more.length : Int) % (s.length : Int) ∧ (more.length : Int) % (s.length : Int) < s.length := ⟨Int.emod_nonneg _ (by omega), Int.emod_lt_of_pos _ (by omega)⟩
        generalize (more.length : Int) % (s.length : Int) = i at hi0 ⊢
        rw [w64 (n := i + 1) (by omega) (by omega)]
        have hjv := tmod_range (x := i + 1) (n := (s.length : Int)) (by omega) (by omega)
        have hij : i ≠ Int.tmod (i + 1) (s.length : Int) := by
          intro e
          rw [Int.tmod_eq_emod_of_nonneg (by omega)] at e
          by_cases h : i + 1 < s.length
          · rw [Int.emod_eq_of_lt (by omega) h] at e; omega
          · have : i + 1 = s.length := by omega
            rw [this, Int.emod_self] at e; omega
        generalize Int.tmod (i + 1) (s.length : Int) = j at hjv hij ⊢
        have hrd := planOk_round hb (by omega) hi0 hjv hij
        simp only [List.nil_append]
        refine EvQ.call (implOk hln (by rw [List.length_map]; omega)) (EvQ.pos hok ?_)
        refine EvQ.call (implOk hl (by simp; omega)) (EvQ.pos hrd ?_)
        refine EvQ.call (implCost hl (by simp; omega)) (EvQ.call (implCost hl (by omega)) (EvQ.ret ?_))
        have hcb := costs_bound h3 h12
        have hab : 0 ≤ ab (i - j) ∧ ab (i - j) ≤ 12 := by unfold ab; split <;> omega
        have hmx : mx (wrap64 (i - j)) (wrap64 (j - i)) = ab (i - j) := by
          rw [w64 (by omega) (by omega), w64 (by omega) (by omega)]; unfold mx ab; split <;> split <;> omega
        rw [hmx]
        simp only [cost, hb, hrd, if_true, costs_round]
        rw [w64 (n := 6 * ab (i - j)) (by omega) (by omega), w64 (n := costs p + 6 * ab (i - j)) (by omega) (by omega)]
        simp
  · refine EvQ.pos (by simp [hb]) (EvQ.ret (by simp))
end Go.Proofs.Ytekgcfjoimdecaa.Pure

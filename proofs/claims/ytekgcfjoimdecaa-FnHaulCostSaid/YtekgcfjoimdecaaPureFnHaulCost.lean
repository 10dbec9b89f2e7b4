/- No plan does less: for all codes. No condition is added. -/
import Derived.Test.YtekgcfjoimdecaaPx31
import Derived.Test.YtekgcfjoimdecaaDrawPlan
set_option linter.unusedVariables false
namespace Go.Proofs.Ytekgcfjoimdecaa.Pure
open Go.RowKit Go.Proofs.Ytekgcfjoimdecaa.P Go.Proofs.YtekgcfjoimdecaaW.PrintWords Go.Proofs.YtekgcfjoimdecaaW.PrintMore Go.Proofs.Ytekgcfjoimdecaa.Ev Go.Proofs.Ytekgcfjoimdecaa.HaulA Go.Proofs.Ytekgcfjoimdecaa.Pick
theorem FnHaulCost : laws_FnHaulCost.Pure := by
  intro l _ hl1 hwf
  refine EvQ.rounds (g := fun k => laws_FnHaulCost.f k l) ?_
  unfold laws_FnHaulCost.f
  refine EvQ.ite (fun _ => EvQ.ret rfl) (fun _ => ?_)
  have hd : EvQ (fun k => spec_DrawHaulCost.f k l) (fun r => r.1.length ≤ 6 ∧ r.2.length ≤ 14) := by
    unfold spec_DrawHaulCost.f
    refine EvQ.bind (drawOk hwf) ?_
    rintro ⟨a, b⟩ h
    exact EvQ.ret h
  refine EvQ.bind hd ?_
  rintro ⟨s, p⟩ ⟨hs, hp⟩
  simp only [] at hs hp ⊢
  have hl : Len s := by unfold Len; omega
  refine EvQ.call (implCost hl (by omega)) (EvQ.call (specCost hl (by omega)) (EvQ.pos rfl ?_))
  refine EvQ.step (fun k => by simp only [laws_FnHaulCost.j0]; rfl) ?_
  by_cases hb : planOk s p = true
  · obtain ⟨h1, h2, h3, _⟩ := planOk_of hb
    have h12 := (okS_of (bal_ok h1)).2.1
    have hc : cost s p = costs p := by simp [cost, hb]
    have hcb := costs_bound h3 h12
    refine EvQ.neg (by rw [hc]; simp; omega) ?_
    have hw0 : wrap64 ((p.length : Int) - 1) = (p.length : Int) - 1 := w64 (by omega) (by omega)
    rw [hw0]
    refine EvQ.while (g := fun k (t : List Haul × Int × Int) => laws_FnHaulCost.l0 k s p (cost s p) t.1 t.2.1 t.2.2) (fun t => (t.2.2 + 1).toNat)
      (fun t => ∃ i : Nat, i ≤ p.length ∧ t.2.2 = (p.length : Int) - 1 - i ∧ t.1 = p.reverse.take i ∧ t.2.1 = loads (p.reverse.take i)) ?_ ([], 0, (p.length : Int) - 1) ⟨0, by omega, by simp, by simp, by simp [loads]⟩
    rintro ⟨a, c, j⟩ ⟨i, hi, hj, ha, hc2⟩ ih
    simp only [] at hj ha hc2 ih ⊢
    refine EvQ.step (fun k => by simp only [laws_FnHaulCost.l0]; rfl) ?_
    by_cases hlt : i < p.length
    · have e : j = ((p.length - 1 - i : Nat) : Int) := by omega
      have hri : i < p.reverse.length := by rw [List.length_reverse]; exact hlt
      have hal : a.length = i := by rw [ha, List.length_take, List.length_reverse]; omega
      have hvt := all_get h3 (i := p.length - 1 - i) (by omega)
      have hvv := hv_of hvt
      have hrev : (p.reverse.take i).all (hv s.length) = true := all_take (by rw [List.all_reverse]; exact h3) i
      have hlb := loads_le hrev h12
      have hcb2 := costs_bound hrev h12
      have hlen2 : (p.reverse.take i).length ≤ 14 := by rw [List.length_take, List.length_reverse]; omega
      refine EvQ.pos (by omega) (EvQ.pos (by omega) (EvQ.pos (by omega) (EvQ.pos (by omega) ?_)))
      rw [e, rdH_get (by omega), w64 (n := c + p[p.length - 1 - i].f2) (by omega) (by omega), w64 (n := ((p.length - 1 - i : Nat) : Int) - 1) (by omega) (by omega)]
      have hstep : p.reverse.take (i + 1) = p.reverse.take i ++ [p[p.length - 1 - i]] := by
        rw [List.take_succ_eq_append_getElem hri, List.getElem_reverse]
      refine ih (_, _, _) ⟨i + 1, by omega, by simp only []; push_cast; omega, ?_, ?_⟩ ?_
      · simp only [ha, hstep]
      · simp only [hc2, hstep, loads_append, loads_one]
      · simp only []; omega
    · obtain rfl : i = p.length := by omega
      have hrt : p.reverse.take p.length = p.reverse := by rw [← List.length_reverse, List.take_length]
      rw [hrt] at ha hc2
      refine EvQ.neg (by omega) ?_
      have hlb := loads_le h3 h12
      refine EvQ.call (implWork hl) ?_
      refine EvQ.pos (by rw [hc]; exact work_le hb) (EvQ.pos (by rw [hc, hc2, loads_reverse]; exact hlb.1) ?_)
      refine EvQ.call (implCost hl (by rw [ha, List.length_reverse]; omega)) (EvQ.ret ?_)
      rw [ha]
      simp only [cost, planOk_reverse, costs_reverse, beq_self_eq_true]
  · have hc : cost s p = -1 := by simp [cost, hb]
    rw [hc]
    exact EvQ.pos (by simp) (EvQ.ret (by simp))
end Go.Proofs.Ytekgcfjoimdecaa.Pure

/- Levelling a long row by hauls moves its cut: for all codes. No condition is added. -/
import Derived.Test.YtekgcfjoimdecaaPx41
import Derived.Test.YtekgcfjoimdecaaLevelQ
import Derived.Test.YtekgcfjoimdecaaLevelP
import Derived.Test.YtekgcfjoimdecaaDrawStations
import Derived.Test.YtekgcfjoimdecaaPx33
set_option linter.unusedVariables false
set_option linter.unusedSimpArgs false
namespace Go.Proofs.Ytekgcfjoimdecaa.Pure
open Go.RowKit Go.Proofs.Ytekgcfjoimdecaa.P Go.Proofs.YtekgcfjoimdecaaW.PrintWords Go.Proofs.YtekgcfjoimdecaaW.PrintMore Go.Proofs.Ytekgcfjoimdecaa.Ev Go.Proofs.Ytekgcfjoimdecaa.Pick Go.Proofs.Ytekgcfjoimdecaa.Cr
theorem sameHauls_refl {l : List Haul} (hl : l.length ≤ 17592186044416) : EvQ (fun k => laws_sameHauls.f k l l) (fun r => r = true) := by
  unfold laws_sameHauls.f
  refine EvQ.pos rfl ?_
  refine EvQ.loop (σ := Unit) (g := fun k i _ => laws_sameHauls.l0 k l l i) l.length (fun i _ => True) ?_ ?_ 0 () (by omega) trivial
  · rintro i _ hi hI ih
    refine EvQ.step (fun k => by simp only [laws_sameHauls.l0]; rfl) ?_
    refine EvQ.pos (by omega) (EvQ.pos (by omega) (EvQ.pos (by omega) (EvQ.neg (by simp) ?_)))
    rw [w64i hi (by omega)]
    exact ih () trivial
  · rintro _ hI
    refine EvQ.step (fun k => by simp only [laws_sameHauls.l0]; rfl) ?_
    exact EvQ.neg (by omega) (EvQ.ret rfl)
/-- A row that a grid takes. -/
def mid (x : Int) : Bool := decide (-500 ≤ x ∧ x ≤ 500)
def fits (s : List Int) : Bool := decide (2 ≤ s.length ∧ s.length ≤ 6)
theorem rs_map (f : Int → Int) (g : Int → Int) (l : List Int) : rs f (l.map g) = (l.map (fun x => f (g x))).sum := by
  unfold rs; rw [List.map_map]; rfl
theorem row500 (s : List Int) : rs (pc 500) (s.map (fun x => 500 + x)) = (s.map pp).sum ∧ rs (pf 500) (s.map (fun x => 500 + x)) = (s.map pn).sum := by
  rw [rs_map, rs_map]
  refine ⟨congrArg List.sum (List.map_congr_left (fun x _ => ?_)), congrArg List.sum (List.map_congr_left (fun x _ => ?_))⟩
  · unfold pc mx pp; split <;> split <;> omega
  · unfold pf mx pn; split <;> split <;> omega
theorem ok500 {s : List Int} (hf : fits s = true) (hm : s.all mid = true) : okE [s.map (fun x => 500 + x), s.map (fun x => 500 + x)] 500 = true := by
  unfold fits at hf; rw [decide_eq_true_eq] at hf
  unfold okE okG cols
  have : rowOk s.length (s.map (fun x => 500 + x)) = true := by
    unfold rowOk
    simp only [List.length_map, decide_true, Bool.true_and]
    rw [List.all_eq_true]
    intro y hy
    obtain ⟨x, hx, rfl⟩ := List.mem_map.1 hy
    have := List.all_eq_true.1 hm x hx
    unfold mid at this; rw [decide_eq_true_eq] at this
    simp [okH]; omega
  simp [this]; omega
theorem FnHaulLevel : laws_FnHaulLevel.Pure := by
  intro l _ hl1 hwf
  refine EvQ.rounds (g := fun k => laws_FnHaulLevel.f k l) ?_
  unfold laws_FnHaulLevel.f
  refine EvQ.ite (fun _ => EvQ.ret rfl) (fun _ => ?_)
  unfold spec_DrawHaulPlan.f
  refine drawn hwf (fun s hs => ?_)
  have hl : Len s := by unfold Len; omega
  have hpl := plan_length s
  refine EvQ.call (implPlan hl) (EvQ.call (specPlan hl) (EvQ.neg (by simp) ?_))
  refine EvQ.call (sameHauls_refl (by simp only []; omega)) (EvQ.pos rfl ?_)
  refine EvQ.step (fun k => by simp only [laws_FnHaulLevel.j0]; rfl) ?_
  by_cases hb : bal s = true
  · have ho := bal_ok hb
    obtain ⟨h1, h12, hr⟩ := okS_of ho
    obtain ⟨p1, p2⟩ := plan_loads hb
    refine EvQ.neg (by simp [hb]) (EvQ.bindc rfl ?_)
    have hj : EvQ (fun k => laws_FnHaulLevel.j1 k s (plan s) [] (fits s)) (fun r => r = true) := by
      refine EvQ.step (fun k => by simp only [laws_FnHaulLevel.j1]; rfl) ?_
      refine EvQ.loop (σ := List Int × Bool) (g := fun k i t => laws_FnHaulLevel.l0 k s (plan s) t.1 t.2 0 i) s.length (fun i t => t = ((s.take i).map (fun x => 500 + x), fits s && (s.take i).all mid)) ?_ ?_ 0 ([], fits s) (by omega) (by simp)
      · rintro i _ hi rfl ih
        have hm := mem_bound ho hi
        refine EvQ.step (fun k => by simp only [laws_FnHaulLevel.l0]; rfl) ?_
        refine EvQ.pos (by omega) (EvQ.pos (by omega) (EvQ.pos (by simp; omega) (EvQ.bindc rfl ?_)))
        rw [rd_get hi, w64 (n := 500 + s[i]) (by omega) (by omega), w64 (n := (i : Int) + 1) (by omega) (by omega)]
        have e1 : (s.take (i + 1)).map (fun x => 500 + x) = (s.take i).map (fun x => 500 + x) ++ [500 + s[i]] := by
          rw [List.take_succ_eq_append_getElem hi, List.map_append]; rfl
        have e2 : (fits s && (s.take (i + 1)).all mid) = ((fits s && (s.take i).all mid) && mid s[i]) := by
          rw [List.take_succ_eq_append_getElem hi, List.all_append, Bool.and_assoc]; simp
        rw [e1, e2] at ih
        refine EvQ.ite (fun c1 => EvQ.ite (fun c2 => ?_) (fun c2 => ?_)) (fun c1 => ?_)
        · exact ih (_, decide (s[i] ≤ 500)) (by rw [c1, Bool.true_and]; unfold mid; rw [show decide (-500 ≤ s[i] ∧ s[i] ≤ 500) = decide (s[i] ≤ 500) from by rw [Bool.eq_iff_iff]; simp; omega])
        · exact ih (_, false) (by rw [c1, Bool.true_and]; unfold mid; rw [decide_eq_false (by omega)])
        · exact ih (_, false) (by rw [Bool.eq_false_iff.2 c1, Bool.false_and])
      · rintro _ rfl
        refine EvQ.step (fun k => by simp only [laws_FnHaulLevel.l0]; rfl) ?_
        simp only [List.take_length]
        refine EvQ.neg (by omega) ?_
        refine EvQ.loop (σ := Int) (g := fun k i t => laws_FnHaulLevel.l1 k (plan s) (s.map (fun x => 500 + x)) (fits s && s.all mid) t i) (plan s).length (fun i t => t = loads ((plan s).take i)) ?_ ?_ 0 0 (by omega) (by simp [loads])
        · rintro i _ hi rfl ih
          have hx := plan_f2 _ (List.getElem_mem hi)
          have hlr := loads_range (p := (plan s).take i) (fun x hx => plan_f2 x (List.mem_of_mem_take hx))
          rw [List.length_take] at hlr
          refine EvQ.step (fun k => by simp only [laws_FnHaulLevel.l1]; rfl) ?_
          refine EvQ.pos (by omega) (EvQ.pos (by omega) ?_)
          rw [rdH_get hi, w64 (n := loads ((plan s).take i) + (plan s)[i].f2) (by omega) (by omega), w64 (n := (i : Int) + 1) (by omega) (by omega)]
          exact ih _ (by rw [List.take_succ_eq_append_getElem hi, loads_append, loads_one])
        · rintro _ rfl
          have hlr := loads_range (p := plan s) (fun x hx => plan_f2 x hx)
          refine EvQ.step (fun k => by simp only [laws_FnHaulLevel.l1]; rfl) ?_
          rw [List.take_length]
          refine EvQ.neg (by omega) (EvQ.ite (fun hc => ?_) (fun hc => EvQ.ret (by simpa using hlr.1)))
          obtain ⟨c1, c2⟩ := Bool.and_eq_true_iff.1 hc
          have ho5 := ok500 c1 c2
          obtain ⟨r1, r2⟩ := row500 s
          have e1 : cutV [s.map (fun x => 500 + x), s.map (fun x => 500 + x)] 500 = 2 * loads (plan s) := by
            unfold cutV; rw [if_pos ho5, gs_cons, gs_cons, gs_nil, r1, ← p1]; omega
          have e2 : fillV [s.map (fun x => 500 + x), s.map (fun x => 500 + x)] 500 = 2 * loads (plan s) := by
            unfold fillV; rw [if_pos ho5, gs_cons, gs_cons, gs_nil, r2, ← p2]; omega
          rw [w64 (n := 2 * loads (plan s)) (by omega) (by omega)]
          refine EvQ.bindc rfl (EvQ.call (implCut _ 500) (EvQ.pos e1 (EvQ.call (implFill _ 500) (EvQ.ret ?_))))
          rw [e2]; simp
    refine EvQ.ite (fun c => ?_) (fun c => ?_)
    · have : decide ((s.length : Int) ≤ 6) = fits s := by unfold fits; rw [Bool.eq_iff_iff]; simp; omega
      rw [this]; exact hj
    · have : false = fits s := by unfold fits; symm; rw [decide_eq_false_iff_not]; omega
      rw [this]; exact hj
  · refine EvQ.pos (by simpa using hb) (EvQ.pos (by simp) ?_)
    exact EvQ.call (sameHauls_refl (by omega)) (EvQ.ret rfl)
end Go.Proofs.Ytekgcfjoimdecaa.Pure

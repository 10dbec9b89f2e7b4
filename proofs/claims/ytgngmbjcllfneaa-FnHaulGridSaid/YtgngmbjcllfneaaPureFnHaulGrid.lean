/- Levelling a row of a grid is a haul: for all codes. No condition is added. -/
import Derived.Test.YtgngmbjcllfneaaPx37
import Derived.Test.YtgngmbjcllfneaaEarthB
import Derived.Test.YtgngmbjcllfneaaHaulA0
import Derived.Test.YtgngmbjcllfneaaDrawStations
import Derived.Test.YtgngmbjcllfneaaPx36
set_option linter.unusedVariables false
set_option linter.unusedSimpArgs false
namespace Go.Proofs.Ytgngmbjcllfneaa.Pure
open Go.RowKit Go.Proofs.Ytgngmbjcllfneaa.P Go.Proofs.YtgngmbjcllfneaaW.PrintWords Go.Proofs.YtgngmbjcllfneaaW.PrintLast Go.Proofs.Ytgngmbjcllfneaa.Ev Go.Proofs.Ytgngmbjcllfneaa.Ints Go.Proofs.Ytgngmbjcllfneaa.GridA Go.Proofs.Ytgngmbjcllfneaa.Pick Go.Proofs.Ytgngmbjcllfneaa.HaulA
theorem rs_500 (l : List Int) : rs (fun x => x - 500) (l.map (fun x => 500 + x)) = l.sum := by
  induction l with
  | nil => rfl
  | cons x l ih => rw [List.map_cons, rs_cons, ih, List.sum_cons]; omega
theorem rs_drop (f : Int → Int) (d : Int) (l : List Int) : rs (fun x => f x - d) l = rs f l - d * l.length := by
  induction l with
  | nil => simp [rs]
  | cons x l ih => rw [rs_cons, rs_cons, ih, List.length_cons]; push_cast; rw [Int.mul_add]; omega
theorem sumOf {l : List Int} (hl : okS l = true) : EvQ (fun k => laws_sumOf.f k l) (fun r => r = l.sum) := by
  have h12 := (okS_of hl).2.1
  unfold laws_sumOf.f
  refine EvQ.loop (σ := Int) (g := fun k i s => laws_sumOf.l0 k l s i) l.length (fun i s => s = (l.take i).sum) ?_ ?_ 0 0 (by omega) (by simp)
  · rintro i _ hi rfl ih
    have hb := take_sum_bound hl i
    have hm := mem_bound hl hi
    refine EvQ.step (fun k => by simp only [laws_sumOf.l0]; rfl) ?_
    refine EvQ.pos (by omega) (EvQ.pos (by omega) ?_)
    rw [rd_get hi, w64 (by omega) (by omega), w64 (n := (i : Int) + 1) (by omega) (by omega)]
    exact ih _ (sum_take_succ hi).symm
  · rintro _ rfl
    refine EvQ.step (fun k => by simp only [laws_sumOf.l0]; rfl) ?_
    exact EvQ.neg (by omega) (EvQ.ret (by simp))
/-- A row that a grid takes. -/
def mid (x : Int) : Bool := decide (-500 ≤ x ∧ x ≤ 500)
def fits (s : List Int) : Bool := decide (2 ≤ s.length ∧ s.length ≤ 6)
theorem level500 {s : List Int} (hs : s.sum = 0) (hf : fits s = true) (hm : s.all mid = true) :
    okG [s.map (fun x => 500 + x), s.map (fun x => 500 + x)] = true ∧ dv [s.map (fun x => 500 + x), s.map (fun x => 500 + x)] 500 = 0 ∧ dv [s.map (fun x => 500 + x), s.map (fun x => 500 + x)] 501 < 0 := by
  unfold fits at hf; rw [decide_eq_true_eq] at hf
  refine ⟨?_, ?_, ?_⟩
  · unfold okG cols
    have : rowOk s.length (s.map (fun x => 500 + x)) = true := by
      unfold rowOk
      simp only [List.length_map, decide_true, Bool.true_and]
      rw [List.all_eq_true]
      intro y hy
      obtain ⟨x, hx, rfl⟩ := List.mem_map.1 hy
      have := List.all_eq_true.1 hm x hx
      unfold mid at this; rw [decide_eq_true_eq] at this
      simp [okH]; omega
    simp [this]; omega
  · unfold dv; rw [gs_cons, gs_cons, gs_nil, rs_500, hs]; rfl
  · unfold dv
    rw [gs_cons, gs_cons, gs_nil]
    have e : rs (fun x => x - 501) (s.map (fun x => 500 + x)) = rs (fun x => (x - 500) - 1) (s.map (fun x => 500 + x)) := rs_congr (fun x _ => by omega)
    rw [e, rs_drop, rs_500, hs, List.length_map]; omega
theorem FnHaulGrid : laws_FnHaulGrid.Pure := by
  intro l _ hl1 hwf
  refine EvQ.rounds (g := fun k => laws_FnHaulGrid.f k l) ?_
  unfold laws_FnHaulGrid.f
  refine EvQ.ite (fun _ => EvQ.ret rfl) (fun _ => ?_)
  unfold spec_DrawHaulBalanced.f
  refine drawn hwf (fun s hs => ?_)
  have hl : Len s := by unfold Len; omega
  refine EvQ.call (implBalanced hl) (EvQ.call (specBalanced hl) (EvQ.neg (by simp) ?_))
  refine EvQ.step (fun k => by simp only [laws_FnHaulGrid.j0]; rfl) ?_
  by_cases hb : bal s = true
  · obtain ⟨ho, hsum⟩ : okS s = true ∧ s.sum = 0 := by simpa [bal] using hb
    obtain ⟨h1, h12, hr⟩ := okS_of ho
    refine EvQ.neg (by simp [hb]) (EvQ.bindc rfl ?_)
    have hj : EvQ (fun k => laws_FnHaulGrid.j1 k s [] (fits s)) (fun r => r = true) := by
      refine EvQ.step (fun k => by simp only [laws_FnHaulGrid.j1]; rfl) ?_
      refine EvQ.loop (σ := List Int × Bool) (g := fun k i t => laws_FnHaulGrid.l0 k s t.1 t.2 i) s.length (fun i t => t = ((s.take i).map (fun x => 500 + x), fits s && (s.take i).all mid)) ?_ ?_ 0 ([], fits s) (by omega) (by simp)
      · rintro i _ hi rfl ih
        have hm := mem_bound ho hi
        refine EvQ.step (fun k => by simp only [laws_FnHaulGrid.l0]; rfl) ?_
        refine EvQ.pos (by omega) (EvQ.pos (by omega) (EvQ.pos (by simp; omega) (EvQ.bindc rfl ?_)))
        rw [rd_get hi, w64 (n := 500 + s[i]) (by omega) (by omega), w64 (n := (i : Int) + 1) (by omega) (by omega)]
        have e1 : (s.take (i + 1)).map (fun x => 500 + x) = (s.take i).map (fun x => 500 + x) ++ [500 + s[i]] := by
          rw [List.take_succ_eq_append_getElem hi, List.map_append]; rfl
        have e2 : (fits s && (s.take (i + 1)).all mid) = ((fits s && (s.take i).all mid) && mid s[i]) := by
          rw [List.take_succ_eq_append_getElem hi, List.all_append, Bool.and_assoc]; simp
        rw [e1, e2] at ih
        refine EvQ.ite (fun c1 => EvQ.ite (fun c2 => ?_) (fun c2 => ?_)) (fun c1 => ?_)
        · exact ih (_, decide (s[i] ≤ 500)) (by rw [c1, Bool.true_and]; unfold mid; rw [show decide (-500 ≤ s[i] ∧ s[i] ≤ 500) = decide (s[i] ≤ 500) from by rw [Bool.eq_iff_iff]; simp; omega])
        · exact ih (_, false) (by rw [c1, Bool.true_and]; unfold mid; rw [decide_eq_false (by omega)])
        · exact ih (_, false) (by rw [Bool.eq_false_iff.2 c1, Bool.false_and])
      · rintro _ rfl
        refine EvQ.step (fun k => by simp only [laws_FnHaulGrid.l0]; rfl) ?_
        simp only [List.take_length]
        refine EvQ.neg (by omega) (EvQ.bindc rfl ?_)
        refine EvQ.ite (fun hc => ?_) (fun hc => EvQ.call (sumOf ho) (EvQ.ret (by simp [hsum])))
        obtain ⟨c1, c2⟩ := Bool.and_eq_true_iff.1 hc
        obtain ⟨k1, k2, k3⟩ := level500 hsum c1 c2
        obtain ⟨v, hv, hi⟩ := level_ex k1
        obtain ⟨v0, v1, v2, v3⟩ := id hv
        generalize [s.map (fun x => 500 + x), s.map (fun x => 500 + x)] = g at *
        have hv5 : v = 500 := by
          by_cases a : v < 500
          · have := v3 500 a (by omega)
            unfold lessP at this; rw [decide_eq_true_eq] at this; omega
          · by_cases b : 500 < v
            · have := v2 501 (by omega) (by omega)
              unfold lessP at this; rw [decide_eq_false_iff_not] at this; omega
            · omega
        subst hv5
        refine EvQ.call hi (EvQ.pos rfl (EvQ.pos rfl (EvQ.call (implCut g 500) (EvQ.call (implFill g 500) (EvQ.ret ?_)))))
        have ho5 : okE g 500 = true := by unfold okE; rw [k1]; rfl
        have d := dv_eq g 500
        unfold cutV fillV; rw [if_pos ho5, if_pos ho5, beq_iff_eq]; omega
    refine EvQ.ite (fun c => ?_) (fun c => ?_)
    · have : decide ((s.length : Int) ≤ 6) = fits s := by unfold fits; rw [Bool.eq_iff_iff]; simp; omega
      rw [this]; exact hj
    · have : false = fits s := by unfold fits; symm; rw [decide_eq_false_iff_not]; omega
      rw [this]; exact hj
  · exact EvQ.pos (by simpa using hb) (EvQ.ret (by simp))
end Go.Proofs.Ytgngmbjcllfneaa.Pure

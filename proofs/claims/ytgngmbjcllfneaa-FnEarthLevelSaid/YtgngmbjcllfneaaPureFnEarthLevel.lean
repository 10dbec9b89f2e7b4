/- There is earth for the level: for all codes. No condition is added. -/
import Derived.Test.YtgngmbjcllfneaaPx32
import Derived.Test.YtgngmbjcllfneaaEarthB
import Derived.Test.YtgngmbjcllfneaaGridB
import Derived.Test.YtgngmbjcllfneaaDrawGrid
set_option linter.unusedVariables false
set_option linter.unusedSimpArgs false
namespace Go.Proofs.Ytgngmbjcllfneaa.Pure
open Go.RowKit Go.Proofs.Ytgngmbjcllfneaa.P Go.Proofs.YtgngmbjcllfneaaW.PrintWords Go.Proofs.YtgngmbjcllfneaaW.PrintLast Go.Proofs.Ytgngmbjcllfneaa.Ev Go.Proofs.Ytgngmbjcllfneaa.Ints Go.Proofs.Ytgngmbjcllfneaa.GridA Go.Proofs.Ytgngmbjcllfneaa.Pick
theorem dv_lin {g : List (List Int)} (h : okG g = true) (lv : Int) : dv g lv = gs (fun x => x) g - lv * ((g.length : Int) * cols g) := by
  have : gs (fun _ => lv) g = lv * ((g.length : Int) * cols g) := by
    rw [← okG_one h, ← gs_scale]; exact gs_congr (fun _ _ x _ => by omega)
  rw [← this, ← gs_sub]; rfl
theorem FnEarthLevel : laws_FnEarthLevel.Pure := by
  intro l _ hl1 hwf
  refine EvQ.rounds (g := fun k => laws_FnEarthLevel.f k l) ?_
  unfold laws_FnEarthLevel.f
  refine EvQ.ite (fun _ => EvQ.ret rfl) (fun _ => ?_)
  unfold spec_DrawEarthLevel.f
  refine drawnG hwf (fun g => ?_)
  by_cases h : okG g = true
  · obtain ⟨v, hv, hi⟩ := level_ex h
    refine EvQ.call hi (EvQ.call (specLevel h hv) (EvQ.neg (by simp) (EvQ.pos rfl ?_)))
    obtain ⟨h0, h1, h2, h3⟩ := id hv
    obtain ⟨g1, g2, g3⟩ := okG_of h
    refine EvQ.step (fun k => by simp only [laws_FnEarthLevel.j0]; rfl) ?_
    refine EvQ.neg (by simp) ?_
    have hid : ∀ x : Int, 0 ≤ x ∧ x ≤ 1000 → -1000 ≤ x ∧ x ≤ 1000 := fun x hx => by omega
    refine EvQ.grid (σ := Int) (g0 := fun k i s => laws_FnEarthLevel.l0 k g v s i) (g1 := fun k i j s => laws_FnEarthLevel.l1 k g v s i j) g.length (fun i => (g.getD i []).length)
      (fun i s => s = gs (fun x => x) (g.take i)) (fun i j s => s = gs (fun x => x) (g.take i) + rs (fun x => x) ((g.getD i []).take j)) ?_ ?_ ?_ ?_ 0 (by simp [gs])
    · rintro i _ hi rfl ih
      refine EvQ.step (fun k => by simp only [laws_FnEarthLevel.l0]; rfl) ?_
      exact EvQ.pos (by omega) (ih _ (by simp [rs]))
    · rintro i j _ hi hj rfl ih
      have eg : g.getD i [] = g[i] := by simp [List.getD_eq_getElem?_getD, hi]
      simp only [eg] at hj ih ⊢
      have b1 := okG_small h (f := fun x => x) hid i
      have b2 := okG_rsmall h (f := fun x => x) hid hi j
      have hx := okG_get h hi hj
      have hcl := okG_row h hi
      refine EvQ.step (fun k => by simp only [laws_FnEarthLevel.l1]; rfl) ?_
      rw [rdG_get hi, rd_get hj]
      refine EvQ.pos (by omega) (EvQ.pos (by omega) (EvQ.pos (by omega) (EvQ.pos (by omega) ?_)))
      rw [w64 (n := gs (fun x => x) (g.take i) + rs (fun x => x) (g[i].take j) + g[i][j]) (by omega) (by omega), w64 (n := (j : Int) + 1) (by omega) (by omega)]
      exact ih _ (by rw [rs_take_succ hj]; omega)
    · rintro i _ hi rfl ih
      have eg : g.getD i [] = g[i] := by simp [List.getD_eq_getElem?_getD, hi]
      simp only [eg, List.take_length] at ih ⊢
      refine EvQ.step (fun k => by simp only [laws_FnEarthLevel.l1]; rfl) ?_
      rw [rdG_get hi]
      refine EvQ.pos (by omega) (EvQ.pos (by omega) (EvQ.neg (by omega) ?_))
      rw [w64 (n := (i : Int) + 1) (by omega) (by omega)]
      exact ih _ (by rw [gs_take_succ hi])
    · rintro _ rfl
      refine EvQ.step (fun k => by simp only [laws_FnEarthLevel.l0]; rfl) ?_
      rw [List.take_length, w64 (n := v + 1) (by omega) (by omega), okG_wn h]
      refine EvQ.neg (by omega) (EvQ.call (implCut g _) (EvQ.call (implCut g _) (EvQ.call (implFill g _) ?_)))
      have ho : okE g v = true := by unfold okE; rw [h, Bool.true_and, decide_eq_true_eq]; omega
      have e2 : cutV g v = gs (pc v) g := by unfold cutV; rw [if_pos ho]
      have e3 : fillV g v = gs (pf v) g := by unfold fillV; rw [if_pos ho]
      have d1 := dv_eq g v
      have p1 := h2 v h0 (by omega)
      unfold lessP at p1; rw [decide_eq_false_iff_not] at p1
      refine EvQ.pos (by omega) (EvQ.call (implFill g _) ?_)
      have hnn := okG_n h
      have l1 := dv_lin h v
      have l2 := dv_lin h (v + 1)
      have hS := okG_small' h (f := fun x => x) hid
      have hfin : v = wrap64 (Int.tdiv (gs (fun x => x) g) ((g.length : Int) * cols g)) := by
        have q0 : 0 ≤ gs (fun x => x) g := okG_nonneg h (fun x hx => hx.1)
        have q1 : gs (fun x => x) g < (v + 1) * ((g.length : Int) * cols g) := by
          by_cases hk : v = 1000
          · have := gs_le (f := fun x => x) (h := fun _ => 1000 * 1) (g := g) (fun r hr x hx => by have := ((g3 r hr).2 x hx).2; omega)
            rw [gs_scale 1000 (fun _ => 1), okG_one h] at this
            subst hk; omega
          · have p2 := h3 (v + 1) (by omega) (by omega)
            unfold lessP at p2; rw [decide_eq_true_eq] at p2
            omega
        generalize (g.length : Int) * cols g = n at *
        generalize gs (fun x => x) g = S at *
        have hd : Int.tdiv S n = v := by
          rw [Int.tdiv_eq_ediv_of_nonneg q0]
          refine Int.le_antisymm (Int.lt_add_one_iff.1 (Int.ediv_lt_of_lt_mul (by omega) q1)) (Int.le_ediv_of_mul_le (by omega) (by omega))
        rw [hd, w64 (by omega) (by omega)]
      have hend : EvQ (fun _ => if 0 < (g.length : Int) then (if (g.length : Int) * cols g = 0 then none else some (v == wrap64 (Int.tdiv (gs (fun x => x) g) ((g.length : Int) * cols g)))) else none) (fun r => r = true) := by
        refine EvQ.pos (by omega) (EvQ.neg (by omega) (EvQ.ret ?_))
        rw [beq_iff_eq]; exact hfin
      by_cases hk : v = 1000
      · have k1 : ¬ okE g (v + 1) = true := by unfold okE; simp; omega
        refine EvQ.neg ?_ (EvQ.pos hk hend)
        unfold cutV fillV; rw [if_neg k1, if_neg k1]; omega
      · have k1 : okE g (v + 1) = true := by unfold okE; rw [h, Bool.true_and, decide_eq_true_eq]; omega
        have e5 : cutV g (v + 1) = gs (pc (v + 1)) g := by unfold cutV; rw [if_pos k1]
        have e6 : fillV g (v + 1) = gs (pf (v + 1)) g := by unfold fillV; rw [if_pos k1]
        have d2 := dv_eq g (v + 1)
        have p2 := h3 (v + 1) (by omega) (by omega)
        unfold lessP at p2; rw [decide_eq_true_eq] at p2
        exact EvQ.pos (by omega) hend
  · refine EvQ.call (implLevel_no h) (EvQ.call (specLevel_no h) (EvQ.neg (by simp) (EvQ.pos rfl ?_)))
    refine EvQ.step (fun k => by simp only [laws_FnEarthLevel.j0]; rfl) ?_
    exact EvQ.pos (by simp) (EvQ.pos (by simp) (EvQ.ret (by simp)))
end Go.Proofs.Ytgngmbjcllfneaa.Pure

/- The middle height moves least earth: for all codes. No condition is added. -/
import Derived.Test.YtgngmbjcllfneaaPx28
import Derived.Test.YtgngmbjcllfneaaEarthC
import Derived.Test.YtgngmbjcllfneaaGridB
import Derived.Test.YtgngmbjcllfneaaDrawGrid
set_option linter.unusedVariables false
set_option linter.unusedSimpArgs false
namespace Go.Proofs.Ytgngmbjcllfneaa.Pure
open Go.RowKit Go.Proofs.Ytgngmbjcllfneaa.P Go.Proofs.YtgngmbjcllfneaaW.PrintWords Go.Proofs.YtgngmbjcllfneaaW.PrintLast Go.Proofs.Ytgngmbjcllfneaa.Ev Go.Proofs.Ytgngmbjcllfneaa.Ints Go.Proofs.Ytgngmbjcllfneaa.GridA Go.Proofs.Ytgngmbjcllfneaa.Pick
def lo (v x : Int) : Int := if x < v then 1 else 0
def hig (v x : Int) : Int := if x > v then 1 else 0
theorem FnEarthFlat : laws_FnEarthFlat.Pure := by
  intro l m _ hl1 hwf _ hm1 hwm
  refine EvQ.rounds (g := fun k => laws_FnEarthFlat.f k l m) ?_
  unfold laws_FnEarthFlat.f
  have hj : ∀ b : Bool, EvQ (fun k => laws_FnEarthFlat.j0 k l m b) (fun r => r = true) := by
    intro b
    refine EvQ.step (fun k => by simp only [laws_FnEarthFlat.j0]; rfl) ?_
    refine EvQ.ite (fun _ => EvQ.ret rfl) (fun _ => ?_)
    unfold spec_DrawEarthFlat.f
    refine drawnG hwf (fun g => ?_)
    by_cases h : okG g = true
    · obtain ⟨v, hv, hi⟩ := flat_ex h
      refine EvQ.call hi (EvQ.call (specFlat h hv) (EvQ.neg (by simp) (EvQ.pos rfl ?_)))
      obtain ⟨h0, h1, h2, h3⟩ := id hv
      obtain ⟨g1, g2, g3⟩ := okG_of h
      refine EvQ.step (fun k => by simp only [laws_FnEarthFlat.j1]; rfl) ?_
      refine EvQ.neg (by simp) ?_
      have hid : ∀ x : Int, 0 ≤ x ∧ x ≤ 1000 → -1000 ≤ lo v x ∧ lo v x ≤ 1000 := fun x hx => by unfold lo; split <;> omega
      have hid2 : ∀ x : Int, 0 ≤ x ∧ x ≤ 1000 → -1000 ≤ hig v x ∧ hig v x ≤ 1000 := fun x hx => by unfold hig; split <;> omega
      refine EvQ.grid (σ := Int × Int) (g0 := fun k i s => laws_FnEarthFlat.l0 k m g v s.1 s.2 i) (g1 := fun k i j s => laws_FnEarthFlat.l1 k m g v s.1 s.2 i j) g.length (fun i => (g.getD i []).length)
        (fun i s => s = (gs (lo v) (g.take i), gs (hig v) (g.take i))) (fun i j s => s = (gs (lo v) (g.take i) + rs (lo v) ((g.getD i []).take j), gs (hig v) (g.take i) + rs (hig v) ((g.getD i []).take j))) ?_ ?_ ?_ ?_ (0, 0) (by simp [gs])
      · rintro i _ hi rfl ih
        refine EvQ.step (fun k => by simp only [laws_FnEarthFlat.l0]; rfl) ?_
        exact EvQ.pos (by omega) (ih (gs (lo v) (g.take i), gs (hig v) (g.take i)) (by simp [rs]))
      · rintro i j _ hi hj rfl ih
        have eg : g.getD i [] = g[i] := by simp [List.getD_eq_getElem?_getD, hi]
        simp only [eg] at hj ih ⊢
        have b1 := okG_small h (f := lo v) hid i
        have b2 := okG_rsmall h (f := lo v) hid hi j
        have b3 := okG_small h (f := hig v) hid2 i
        have b4 := okG_rsmall h (f := hig v) hid2 hi j
        have hcl := okG_row h hi
        refine EvQ.step (fun k => by simp only [laws_FnEarthFlat.l1]; rfl) ?_
        rw [rdG_get hi, rd_get hj]
        refine EvQ.pos (by omega) (EvQ.pos (by omega) (EvQ.pos (by omega) (EvQ.pos (by omega) ?_)))
        rw [w64 (n := gs (lo v) (g.take i) + rs (lo v) (g[i].take j) + 1) (by omega) (by omega), w64 (n := gs (hig v) (g.take i) + rs (hig v) (g[i].take j) + 1) (by omega) (by omega), w64 (n := (j : Int) + 1) (by omega) (by omega)]
        rw [rs_take_succ hj, rs_take_succ hj] at ih
        refine EvQ.ite (fun c1 => EvQ.ite (fun c2 => ?_) (fun c2 => ?_)) (fun c1 => EvQ.ite (fun c2 => ?_) (fun c2 => ?_))
        · omega
        · exact ih (_, _) (by unfold lo hig; rw [if_pos c1, if_neg c2]; simp only [Prod.mk.injEq]; omega)
        · exact ih (_, _) (by unfold lo hig; rw [if_neg c1, if_pos c2]; simp only [Prod.mk.injEq]; omega)
        · exact ih (_, _) (by unfold lo hig; rw [if_neg c1, if_neg c2]; simp only [Prod.mk.injEq]; omega)
      · rintro i _ hi rfl ih
        have eg : g.getD i [] = g[i] := by simp [List.getD_eq_getElem?_getD, hi]
        simp only [eg, List.take_length] at ih ⊢
        refine EvQ.step (fun k => by simp only [laws_FnEarthFlat.l1]; rfl) ?_
        rw [rdG_get hi]
        refine EvQ.pos (by omega) (EvQ.pos (by omega) (EvQ.neg (by omega) ?_))
        rw [w64 (n := (i : Int) + 1) (by omega) (by omega)]
        exact ih (_, _) (by rw [gs_take_succ hi, gs_take_succ hi])
      · rintro _ rfl
        refine EvQ.step (fun k => by simp only [laws_FnEarthFlat.l0]; rfl) ?_
        simp only [List.take_length]
        rw [okG_wn h]
        refine EvQ.neg (by omega) (EvQ.pos (by omega) (EvQ.call (implMove g _) (EvQ.call (implMove g _) ?_)))
        have ht : 0 ≤ (m.length : Int) % 25 ∧ (m.length : Int) % 25 ≤ 1000 := by omega
        rw [moveV_in h ⟨h0, h1⟩, moveV_in h ht]
        have c1 := okG_small' h hid
        have c2 := okG_small' h hid2
        have hnn := okG_n h
        have ho := okG_one h
        rw [w64 (by omega) (by omega), w64 (by omega) (by omega)]
        refine EvQ.pos (flat_least hv ht.1 ht.2) (EvQ.pos ?_ (EvQ.ret ?_))
        · by_cases hz : v = 0
          · have z : gs (lo v) g = gs (fun _ => 0 * 1) g := gs_congr (fun r hr x hx => by have := (g3 r hr).2 x hx; unfold lo; rw [if_neg (by omega)]; rfl)
            rw [gs_scale 0 (fun _ => 1)] at z; omega
          · have p := h2 (v - 1) (by omega) (by omega)
            have p2 : ¬ 0 ≤ GridA.up g (v - 1) := by rw [← flatP_up, p]; simp
            have e : GridA.up g (v - 1) = gs (lo v) g + gs (lo v) g - gs (fun _ => 1) g := by
              unfold GridA.up; rw [← gs_add, ← gs_sub]; exact gs_congr (fun _ _ x _ => by unfold lo; split <;> split <;> omega)
            omega
        · rw [decide_eq_true_eq]
          by_cases hz : v = 1000
          · have z : gs (hig v) g = gs (fun _ => 0 * 1) g := gs_congr (fun r hr x hx => by have := (g3 r hr).2 x hx; unfold hig; rw [if_neg (by omega)]; rfl)
            rw [gs_scale 0 (fun _ => 1)] at z; omega
          · have p := h3 v (by omega) (by omega)
            rw [flatP_up] at p
            have e : GridA.up g v = gs (fun _ => 1) g - gs (hig v) g - gs (hig v) g := by
              unfold GridA.up; rw [← gs_sub, ← gs_sub]; exact gs_congr (fun _ _ x _ => by unfold hig; split <;> split <;> omega)
            omega
    · refine EvQ.call (implFlat_no h) (EvQ.call (specFlat_no h) (EvQ.neg (by simp) (EvQ.pos rfl ?_)))
      refine EvQ.step (fun k => by simp only [laws_FnEarthFlat.j1]; rfl) ?_
      exact EvQ.pos (by simp) (EvQ.pos (by simp) (EvQ.ret (by simp)))
  exact EvQ.ite (fun _ => hj _) (fun _ => hj _)
end Go.Proofs.Ytgngmbjcllfneaa.Pure

/- A higher level fills more: for all codes. No condition is added. -/
import Derived.Test.YtgngmbjcllfneaaPx30
import Derived.Test.YtgngmbjcllfneaaEarthB
import Derived.Test.YtgngmbjcllfneaaGridB
import Derived.Test.YtgngmbjcllfneaaDrawLevel
set_option linter.unusedVariables false
set_option linter.unusedSimpArgs false
namespace Go.Proofs.Ytgngmbjcllfneaa.Pure
open Go.RowKit Go.Proofs.Ytgngmbjcllfneaa.P Go.Proofs.YtgngmbjcllfneaaW.PrintWords Go.Proofs.YtgngmbjcllfneaaW.PrintLast Go.Proofs.Ytgngmbjcllfneaa.Ev Go.Proofs.Ytgngmbjcllfneaa.Ints Go.Proofs.Ytgngmbjcllfneaa.GridA Go.Proofs.Ytgngmbjcllfneaa.Pick
theorem FnFillLevel : laws_FnFillLevel.Pure := by
  intro l _ hl1 hwf
  refine EvQ.rounds (g := fun k => laws_FnFillLevel.f k l) ?_
  unfold laws_FnFillLevel.f
  refine EvQ.ite (fun _ => EvQ.ret rfl) (fun _ => ?_)
  unfold spec_DrawEarthFill.f
  refine drawnL hwf (fun g lv _ _ => ?_)
  refine EvQ.call (implFill g lv) (EvQ.call (specFill g lv) (EvQ.pos rfl ?_))
  refine EvQ.step (fun k => by simp only [laws_FnFillLevel.j0]; rfl) ?_
  refine EvQ.ite (fun _ => EvQ.ret (by simp)) (fun hn => ?_)
  simp only [decide_eq_true_eq] at hn
  have ho : okE g lv = true := by
    by_cases h : okE g lv = true
    · exact h
    · unfold fillV at hn; rw [if_neg h] at hn; omega
  obtain ⟨h1, h2⟩ := okE_of ho
  have hlen := (okG_of h1).1
  rw [w64 (n := lv + 1) (by omega) (by omega), okG_wn h1]
  refine EvQ.pos (by omega) (EvQ.call (implFill g _) (EvQ.call (implHigh g _) ?_))
  have hnn := okG_n h1
  have e1 : highV g (lv + 1) = gs (hi (lv + 1)) g := by unfold highV; rw [if_pos h1]
  have e2 : cutV g lv = gs (pc lv) g := by unfold cutV; rw [if_pos ho]
  have e3 : fillV g lv = gs (pf lv) g := by unfold fillV; rw [if_pos ho]
  have e4 := okG_one h1
  by_cases hk : lv = 1000
  · refine EvQ.pos hk (EvQ.pos ?_ (EvQ.ret rfl))
    have : ¬ okE g (lv + 1) = true := by unfold okE; simp; omega
    unfold fillV; rw [if_neg this]
  · have k1 : okE g (lv + 1) = true := by unfold okE; rw [h1, Bool.true_and, decide_eq_true_eq]; omega
    have e5 : cutV g (lv + 1) = gs (pc (lv + 1)) g := by unfold cutV; rw [if_pos k1]
    have e6 : fillV g (lv + 1) = gs (pf (lv + 1)) g := by unfold fillV; rw [if_pos k1]
    have c1 : gs (pc (lv + 1)) g = gs (pc lv) g - gs (hi (lv + 1)) g := by
      rw [← gs_sub]; exact gs_congr (fun _ _ x _ => by unfold pc mx hi; split <;> split <;> split <;> omega)
    have c2 : gs (pf (lv + 1)) g = gs (pf lv) g + gs (fun _ => 1) g - gs (hi (lv + 1)) g := by
      rw [← gs_add, ← gs_sub]; exact gs_congr (fun _ _ x _ => by unfold pf mx hi; split <;> split <;> split <;> omega)
    have s1 := pc_nonneg h1 (lv := lv)
    have s2 := pf_nonneg h1 (lv := lv)
    have s3 := pc_small h1 h2
    have s4 := pf_small h1 h2
    have s5 := okG_small' h1 (f := hi (lv + 1)) (fun x _ => by have := hi_range (lv + 1) x; omega)
    have s6 := okG_nonneg h1 (f := hi (lv + 1)) (fun x _ => (hi_range (lv + 1) x).1)
    refine EvQ.neg hk (EvQ.pos ?_ (EvQ.call (implCut g _) (EvQ.call (implCut g _) (EvQ.ret ?_))))
    · rw [e1, e3, e6, w64 (n := gs (pf lv) g + _) (by omega) (by omega), w64 (by omega) (by omega)]; omega
    · rw [e1, e2, e5, w64 (by omega) (by omega), beq_iff_eq]; omega
end Go.Proofs.Ytgngmbjcllfneaa.Pure

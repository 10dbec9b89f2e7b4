/- Moving is convex: for all codes. No condition is added. -/
import Derived.Test.YtgngmbjcllfneaaPx26
import Derived.Test.YtgngmbjcllfneaaEarthC
import Derived.Test.YtgngmbjcllfneaaDrawLevel
set_option linter.unusedVariables false
set_option linter.unusedSimpArgs false
namespace Go.Proofs.Ytgngmbjcllfneaa.Pure
open Go.RowKit Go.Proofs.Ytgngmbjcllfneaa.P Go.Proofs.YtgngmbjcllfneaaW.PrintWords Go.Proofs.YtgngmbjcllfneaaW.PrintLast Go.Proofs.Ytgngmbjcllfneaa.Ev Go.Proofs.Ytgngmbjcllfneaa.Ints Go.Proofs.Ytgngmbjcllfneaa.GridA Go.Proofs.Ytgngmbjcllfneaa.Pick
theorem FnEarthMove : laws_FnEarthMove.Pure := by
  intro l _ hl1 hwf
  refine EvQ.rounds (g := fun k => laws_FnEarthMove.f k l) ?_
  unfold laws_FnEarthMove.f
  refine EvQ.ite (fun _ => EvQ.ret rfl) (fun _ => ?_)
  unfold spec_DrawEarthMove.f
  refine drawnL hwf (fun g lv _ _ => ?_)
  refine EvQ.call (implMove g lv) (EvQ.call (specMove g lv) (EvQ.pos rfl ?_))
  refine EvQ.step (fun k => by simp only [laws_FnEarthMove.j0]; rfl) ?_
  refine EvQ.ite (fun _ => EvQ.ret (by simp)) (fun hn => ?_)
  simp only [decide_eq_true_eq] at hn
  have ho : okE g lv = true := by
    by_cases h : okE g lv = true
    · exact h
    · unfold moveV at hn; rw [if_neg h] at hn; omega
  obtain ⟨h1, h2⟩ := okE_of ho
  refine EvQ.call (implMove g _) (EvQ.call (implMove g _) (EvQ.call (implCut g lv) (EvQ.call (implFill g lv) ?_)))
  have s1 := pc_nonneg h1 (lv := lv)
  have s2 := pf_nonneg h1 (lv := lv)
  have s3 := pc_small h1 h2
  have s4 := pf_small h1 h2
  have e1 : moveV g lv = gs (pc lv) g + gs (pf lv) g := by unfold moveV; rw [if_pos ho]
  have e2 : cutV g lv = gs (pc lv) g := by unfold cutV; rw [if_pos ho]
  have e3 : fillV g lv = gs (pf lv) g := by unfold fillV; rw [if_pos ho]
  refine EvQ.pos (by rw [e1, e2, e3, w64 (by omega) (by omega)]) ?_
  rw [w64 (n := lv - 1) (by omega) (by omega), w64 (n := lv + 1) (by omega) (by omega)]
  refine EvQ.ite (fun _ => EvQ.ret rfl) (fun n1 => EvQ.ite (fun _ => EvQ.ret rfl) (fun n2 => EvQ.ret ?_))
  have k1 : okE g (lv - 1) = true := by
    by_cases h : okE g (lv - 1) = true
    · exact h
    · unfold moveV at n1; rw [if_neg h] at n1; omega
  have k2 : okE g (lv + 1) = true := by
    by_cases h : okE g (lv + 1) = true
    · exact h
    · unfold moveV at n2; rw [if_neg h] at n2; omega
  have a1 := moveV_in h1 (lv := lv - 1) (okE_of k1).2
  have a2 := moveV_in h1 (lv := lv + 1) (okE_of k2).2
  have a3 := moveV_in h1 (lv := lv) h2
  have b1 := pc_small h1 (okE_of k1).2
  have b2 := pf_small h1 (okE_of k1).2
  have b3 := pc_small h1 (okE_of k2).2
  have b4 := pf_small h1 (okE_of k2).2
  have b5 := pc_nonneg h1 (lv := lv - 1)
  have b6 := pf_nonneg h1 (lv := lv - 1)
  have b7 := pc_nonneg h1 (lv := lv + 1)
  have b8 := pf_nonneg h1 (lv := lv + 1)
  rw [a1, a2, a3]
  have u1 := up_eq g lv
  have u2 := up_eq g (lv - 1)
  rw [Int.sub_add_cancel] at u2
  have u3 := up_mono g (a := lv - 1) (b := lv) (by omega)
  unfold mv at *
  rw [w64 (by omega) (by omega), w64 (by omega) (by omega), decide_eq_true_eq]
  omega
end Go.Proofs.Ytgngmbjcllfneaa.Pure

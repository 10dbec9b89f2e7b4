/- What is drawn for the laws on plans, plain: stations and a short list of hauls. No program in sight. -/
import Derived.Test.YtekgcfjoimdecaaHaulE
import Derived.Test.YtekgcfjoimdecaaDrawStations
import Derived.Test.YtekgcfjoimdecaaPx28
set_option linter.unusedVariables false
set_option linter.unusedSimpArgs false
namespace Go.Proofs.Ytekgcfjoimdecaa.HaulA
open Go.RowKit Go.Proofs.Ytekgcfjoimdecaa.P Go.Proofs.YtekgcfjoimdecaaW.PrintWords Go.Proofs.YtekgcfjoimdecaaW.PrintLast Go.Proofs.YtekgcfjoimdecaaW.PrintMore Go.Proofs.Ytekgcfjoimdecaa.Ev Go.Proofs.Ytekgcfjoimdecaa.Pick
theorem drawOk {l : List Int} (h : ∀ x ∈ l, (Lit.int .u8 x).wf = true) : EvQ (fun k => spec_DrawHaulOk.f k l) (fun r => r.1.length ≤ 6 ∧ r.2.length ≤ 14) := by
  obtain ⟨b, hb, hb2⟩ := openQ h
  unfold spec_DrawHaulOk.f
  refine EvQ.bindc hb (EvQ.bind (stations hb2 (by simp) (by simp)) ?_)
  rintro ⟨s, p⟩ ⟨hs, hp0, hp1⟩
  simp only [] at hs hp0 hp1 ⊢
  refine EvQ.call (specPlan (by unfold Len; omega)) ?_
  have hpl := plan_length s
  have hj1 : ∀ (q : List Haul) (p : Int), q.length ≤ 14 → 0 ≤ p → p ≤ 100 → EvQ (fun k => spec_DrawHaulOk.j1 k s q b p) (fun r => r.1.length ≤ 6 ∧ r.2.length ≤ 14) := by
    intro q p hq h0 h1
    refine EvQ.step (fun k => by simp only [spec_DrawHaulOk.j1]; rfl) ?_
    refine EvQ.ite (fun c => ?_) (fun c => EvQ.ret ⟨hs, hq⟩)
    refine EvQ.bind (pick hb2 h0 (by omega)) ?_
    rintro ⟨x, r⟩ _
    refine EvQ.ite (fun _ => EvQ.pos (by omega) (EvQ.ret ⟨hs, by simpa using hq⟩)) (fun _ => ?_)
    exact EvQ.ite (fun _ => EvQ.pos (by omega) (EvQ.ret ⟨hs, by simpa using hq⟩)) (fun _ => EvQ.ret ⟨hs, hq⟩)
  have hj0 : ∀ (c : Bool) (p : Int), (c = true → 1 < s.length) → 0 ≤ p → p ≤ 50 → EvQ (fun k => spec_DrawHaulOk.j0 k s (plan s) (s.length : Int) c b p) (fun r => r.1.length ≤ 6 ∧ r.2.length ≤ 14) := by
    intro c p hc h0 h1
    refine EvQ.step (fun k => by simp only [spec_DrawHaulOk.j0]; rfl) ?_
    refine EvQ.ite (fun hct => ?_) (fun _ => hj1 _ _ (by omega) h0 (by omega))
    have hn := hc hct
    refine EvQ.bind (pick hb2 h0 (by omega)) ?_
    rintro ⟨x1, p1⟩ ⟨_, _, e1⟩
    simp only [] at e1 ⊢
    refine EvQ.bind (pick hb2 (by omega) (by omega)) ?_
    rintro ⟨x2, p2⟩ ⟨_, _, e2⟩
    simp only [] at e2 ⊢
    refine EvQ.neg (by omega) ?_
    refine EvQ.bind (pick hb2 (by omega) (by omega)) ?_
    rintro ⟨x3, p3⟩ ⟨_, _, e3⟩
    simp only [] at e3 ⊢
    refine EvQ.bind (pick hb2 (by omega) (by omega)) ?_
    rintro ⟨x4, p4⟩ ⟨_, _, e4⟩
    simp only [] at e4 ⊢
    refine EvQ.bindc rfl (EvQ.pos (by simp; omega) (EvQ.bindc rfl ?_))
    refine EvQ.bind (pick hb2 (by omega) (by omega)) ?_
    rintro ⟨x5, p5⟩ ⟨_, _, e5⟩
    simp only [] at e5 ⊢
    have hlen : (plan s ++ [(⟨x1, Int.tmod (wrap64 (wrap64 (x1 + 1) + x2)) (s.length : Int), wrap64 (1 + x3)⟩ : Haul), ⟨Int.tmod (wrap64 (wrap64 (x1 + 1) + x2)) (s.length : Int), x1, wrap64 (1 + x4)⟩]).length = (plan s).length + 2 := by simp
    generalize hq : (plan s ++ [(⟨x1, Int.tmod (wrap64 (wrap64 (x1 + 1) + x2)) (s.length : Int), wrap64 (1 + x3)⟩ : Haul), ⟨Int.tmod (wrap64 (wrap64 (x1 + 1) + x2)) (s.length : Int), x1, wrap64 (1 + x4)⟩]) = q at hlen ⊢
    have w1 : wrap64 ((q.length : Int) - 2) = (q.length : Int) - 2 := w64 (by omega) (by omega)
    have w2 : wrap64 ((q.length : Int) - 1) = (q.length : Int) - 1 := w64 (by omega) (by omega)
    refine EvQ.ite (fun _ => ?_) (fun _ => hj1 _ _ (by omega) (by omega) (by omega))
    rw [w1, w2]
    refine EvQ.pos (by omega) (EvQ.pos (by omega) (EvQ.pos (by omega) (EvQ.pos (by omega) ?_)))
    exact hj1 _ _ (by simp; omega) (by omega) (by omega)
  refine EvQ.ite (fun _ => ?_) (fun _ => EvQ.ret ⟨hs, by simp⟩)
  refine EvQ.ite (fun c => ?_) (fun _ => hj0 _ _ (by simp) hp0 (by omega))
  refine EvQ.bind (pick hb2 hp0 (by omega)) ?_
  rintro ⟨x, p2⟩ ⟨_, _, e⟩
  simp only [] at e ⊢
  exact hj0 _ _ (fun _ => by omega) (by omega) (by omega)
end Go.Proofs.Ytekgcfjoimdecaa.HaulA

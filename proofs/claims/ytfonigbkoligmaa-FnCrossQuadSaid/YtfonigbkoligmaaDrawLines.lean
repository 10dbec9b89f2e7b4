import Derived.Test.YtfonigbkoligmaaDrawPoint
import Derived.Test.YtfonigbkoligmaaPx6
set_option linter.unusedVariables false
set_option linter.unusedSimpArgs false
namespace Go.Proofs.Ytfonigbkoligmaa.Pick
open Go.RowKit Go.Proofs.Ytfonigbkoligmaa.P Go.Proofs.YtfonigbkoligmaaW.PrintWords Go.Proofs.YtfonigbkoligmaaW.PrintLast Go.Proofs.YtfonigbkoligmaaW.PrintMore Go.Proofs.Ytfonigbkoligmaa.Ev
theorem lines {b : List Int} {p : Int} (hb : Bytes b) (hp : 0 ≤ p) (hp2 : p ≤ 1000) :
    EvQ (fun k => spec_l92Lines.f k b p) (fun r => 0 ≤ r.2.2.2.2.2.2.2.2 ∧ r.2.2.2.2.2.2.2.2 ≤ p + 40) := by
  unfold spec_l92Lines.f
  refine EvQ.bind (point hb hp (by omega)) ?_
  rintro ⟨a1, a2, q1⟩ ⟨_, _, h1, h1'⟩
  simp only [] at h1 h1' ⊢
  refine EvQ.bind (point hb (by omega) (by omega)) ?_
  rintro ⟨b1, b2, q2⟩ ⟨_, _, h2, h2'⟩
  simp only [] at h2 h2' ⊢
  refine EvQ.bind (point hb (by omega) (by omega)) ?_
  rintro ⟨c1, c2, q3⟩ ⟨_, _, h3, h3'⟩
  simp only [] at h3 h3' ⊢
  refine EvQ.bind (point hb (by omega) (by omega)) ?_
  rintro ⟨d1, d2, q4⟩ ⟨_, _, h4, h4'⟩
  simp only [] at h4 h4' ⊢
  refine EvQ.bind (pick hb (by omega) (by omega)) ?_
  rintro ⟨v, q5⟩ ⟨_, _, h5⟩
  simp only [] at h5 ⊢
  refine EvQ.ite (fun _ => EvQ.ret ⟨by simp only []; omega, by simp only []; omega⟩) (fun _ => ?_)
  refine EvQ.ite (fun _ => EvQ.ret ⟨by simp only []; omega, by simp only []; omega⟩) (fun _ => ?_)
  exact EvQ.ite (fun _ => EvQ.ret ⟨by simp only []; omega, by simp only []; omega⟩) (fun _ => EvQ.ret ⟨by simp only []; omega, by simp only []; omega⟩)
end Go.Proofs.Ytfonigbkoligmaa.Pick

/- What is drawn for the laws of chapter 33, plain: a point and at most six steps. No program in sight. -/
import Derived.Test.YtkafhhiplimniaaDrawPoint
import Derived.Test.YtkafhhiplimniaaDrawTravel
import Derived.Test.YtkafhhiplimniaaPx31
set_option linter.unusedVariables false
set_option linter.unusedSimpArgs false
namespace Go.Proofs.Ytkafhhiplimniaa.Pick
open Go.RowKit Go.Proofs.Ytkafhhiplimniaa.P Go.Proofs.YtkafhhiplimniaaW.PrintWords Go.Proofs.YtkafhhiplimniaaW.PrintLast Go.Proofs.YtkafhhiplimniaaW.PrintMore Go.Proofs.Ytkafhhiplimniaa.Ev
/-- A draw that hands on the point and the steps. -/
theorem drawnFrom {l : List Int} (h : ∀ x ∈ l, (Lit.int .u8 x).wf = true) {β : Type} {f : Nat → Int × Int × List S30 → Option β} {Q : β → Prop} (hf : ∀ (x y : Int) (s : List S30), Coord x → Coord y → s.length ≤ 6 → EvQ (fun k => f k (x, y, s)) Q) :
    EvQ (fun k => ((spec_l6Open.f l).bind fun bt => ((spec_l92From.f k bt.1 bt.2).bind fun bt2 => (some (bt2.1, bt2.2.1, bt2.2.2.1)))).bind (f k)) Q := by
  obtain ⟨b, hb, hb2⟩ := openQ h
  refine EvQ.bind (P := fun r => Coord r.1 ∧ Coord r.2.1 ∧ r.2.2.length ≤ 6) ?_ (fun r hr => hf r.1 r.2.1 r.2.2 hr.1 hr.2.1 hr.2.2)
  refine EvQ.bindc hb (EvQ.bind (P := fun r => Coord r.1 ∧ Coord r.2.1 ∧ r.2.2.1.length ≤ 6) ?_ (fun r hr => EvQ.ret hr))
  unfold spec_l92From.f
  refine EvQ.bind (point hb2 (by simp) (by simp)) ?_
  rintro ⟨x, y, q⟩ ⟨h1, h2, h3, h4⟩
  simp only [] at h1 h2 h3 h4 ⊢
  refine EvQ.bind (travel hb2 (by omega) (by omega)) ?_
  rintro ⟨s, q⟩ ⟨h5, _, _⟩
  exact EvQ.ret ⟨h1, h2, h5⟩
end Go.Proofs.Ytkafhhiplimniaa.Pick

/- What is drawn for the laws over a grid and a level, plain: a draw comes to its end. No program in sight. -/
import Derived.Test.YtkhemhmdapggmaaDrawGrid
import Derived.Test.YtkhemhmdapggmaaPx31
set_option linter.unusedVariables false
set_option linter.unusedSimpArgs false
namespace Go.Proofs.Ytkhemhmdapggmaa.Pick
open Go.RowKit Go.Proofs.Ytkhemhmdapggmaa.P Go.Proofs.YtkhemhmdapggmaaW.PrintWords Go.Proofs.YtkhemhmdapggmaaW.PrintLast Go.Proofs.YtkhemhmdapggmaaW.PrintMore Go.Proofs.Ytkhemhmdapggmaa.Ev
theorem level {b : List Int} (hb : Bytes b) : EvQ (fun k => spec_l92Level.f k b 0) (fun r => -1 ≤ r.2.1 ∧ r.2.1 ≤ 1001) := by
  unfold spec_l92Level.f
  refine EvQ.bind (grid hb (by simp) (by simp)) ?_
  rintro ⟨g, q⟩ ⟨h1, h2⟩
  simp only [] at h1 h2 ⊢
  refine EvQ.bind (pick hb (by omega) (by omega)) ?_
  rintro ⟨v, q1⟩ ⟨a1, a2, a3⟩
  simp only [] at a1 a2 a3 ⊢
  refine EvQ.ite (fun _ => EvQ.bindc rfl (EvQ.bind (pick hb (by omega) (by omega)) ?_)) (fun _ => EvQ.bind (pick hb (by omega) (by omega)) ?_)
  · rintro ⟨w, q2⟩ ⟨b1, b2, b3⟩
    simp only [] at b1 b2 b3 ⊢
    have b2 := b2 (by omega)
    refine EvQ.pos (by omega) (EvQ.pos (by simp; omega) (EvQ.ret ?_))
    obtain h | h | h : w = 0 ∨ w = 1 ∨ w = 2 := by omega
    all_goals subst h; simp [rd]
  · rintro ⟨w, q2⟩ ⟨b1, b2, b3⟩
    simp only [] at b1 b2 b3 ⊢
    have b2 := b2 (by omega)
    exact EvQ.ret ⟨by simp only []; omega, by simp only []; omega⟩
/-- A draw that hands on the grid and the level. -/
theorem drawnL {l : List Int} (h : ∀ x ∈ l, (Lit.int .u8 x).wf = true) {β : Type} {f : Nat → List (List Int) × Int → Option β} {Q : β → Prop} (hf : ∀ (s : List (List Int)) (lv : Int), -1 ≤ lv → lv ≤ 1001 → EvQ (fun k => f k (s, lv)) Q) :
    EvQ (fun k => ((spec_l6Open.f l).bind fun bt => ((spec_l92Level.f k bt.1 bt.2).bind fun bt2 => (some (bt2.1, bt2.2.1)))).bind (f k)) Q := by
  obtain ⟨b, hb, hb2⟩ := openQ h
  refine EvQ.bind (P := fun s => -1 ≤ s.2 ∧ s.2 ≤ 1001) ?_ (fun s hs => hf s.1 s.2 hs.1 hs.2)
  refine EvQ.bindc hb (EvQ.bind (level hb2) ?_)
  rintro ⟨s, lv, q⟩ hs
  exact EvQ.ret hs
end Go.Proofs.Ytkhemhmdapggmaa.Pick

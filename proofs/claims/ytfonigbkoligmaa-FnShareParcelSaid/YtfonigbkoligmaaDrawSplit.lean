import Derived.Test.YtfonigbkoligmaaDrawPoly
import Derived.Test.YtfonigbkoligmaaPx4
set_option linter.unusedVariables false
set_option linter.unusedSimpArgs false
namespace Go.Proofs.Ytfonigbkoligmaa.Pick
open Go.RowKit Go.Proofs.Ytfonigbkoligmaa.P Go.Proofs.YtfonigbkoligmaaW.PrintWords Go.Proofs.YtfonigbkoligmaaW.PrintLast Go.Proofs.YtfonigbkoligmaaW.PrintMore Go.Proofs.Ytfonigbkoligmaa.Ev
def Idx (x : Int) : Prop := -20 ≤ x ∧ x ≤ 100
theorem split {b : List Int} {p : Int} (hb : Bytes b) (hp : 0 ≤ p) (hp2 : p ≤ 100) : EvQ (fun k => spec_l92Split.f k b p) (fun r => r.1.length ≤ 12 ∧ Idx r.2.1 ∧ Idx r.2.2.1) := by
  have tail : ∀ (l : PL) (t : Bool) (q : Int), l.length ≤ 12 → (t = false → 4 ≤ l.length) → 0 ≤ q → q ≤ 2000 → EvQ (fun k => spec_l92Split.j0 k l (l.length : Int) t b q) (fun r => r.1.length ≤ 12 ∧ Idx r.2.1 ∧ Idx r.2.2.1) := by
    intro l t q hl ht h0 h1
    refine EvQ.step (fun k => by simp only [spec_l92Split.j0]; rfl) ?_
    refine EvQ.ite (fun _ => ?_) (fun hf => ?_)
    · refine EvQ.bind (pick hb h0 (by omega)) ?_
      rintro ⟨x, q1⟩ ⟨a1, a2, a3⟩
      simp only [] at a1 a2 a3 ⊢
      have a2 := a2 (by omega)
      refine EvQ.bind (pick hb (by omega) (by omega)) ?_
      rintro ⟨y, q2⟩ ⟨b1, b2, b3⟩
      simp only [] at b1 b2 b3 ⊢
      have b2 := b2 (by omega)
      exact EvQ.ret ⟨hl, by simp only [Idx]; omega, by simp only [Idx]; omega⟩
    · have h4 := ht (by simpa using hf)
      rw [w64 (n := (l.length : Int) - 2) (by omega) (by omega)]
      refine EvQ.bind (pick hb h0 (by omega)) ?_
      rintro ⟨x, q1⟩ ⟨a1, a2, a3⟩
      simp only [] at a1 a2 a3 ⊢
      have a2 := a2 (by omega)
      refine EvQ.bind (pick hb (by omega) (by omega)) ?_
      rintro ⟨y, q2⟩ ⟨b1, b2, b3⟩
      simp only [] at b1 b2 b3 ⊢
      rw [w64 (n := (l.length : Int) - 2 - x) (by omega) (by omega)] at b2
      have b2 := b2 (by omega)
      rw [w64 (n := (l.length : Int) - 1) (by omega) (by omega), w64 (n := x + 2) (by omega) (by omega), w64 (n := x + 2 + y) (by omega) (by omega)]
      refine EvQ.ret ⟨hl, by simp only [Idx]; omega, ?_⟩
      simp only [Idx]
      unfold mn
      split <;> omega
  unfold spec_l92Split.f
  refine EvQ.bind (poly hb hp hp2) ?_
  rintro ⟨l, q⟩ ⟨h1, h2, h3⟩
  simp only [] at h1 h2 h3 ⊢
  refine EvQ.ite (fun _ => tail l true q h1 (by simp) h2 (by omega)) (fun h4 => ?_)
  refine EvQ.bind (pick hb h2 (by omega)) ?_
  rintro ⟨x, q1⟩ ⟨a1, a2, a3⟩
  simp only [] at a1 a2 a3 ⊢
  exact tail l _ q1 h1 (fun _ => by omega) (by omega) (by omega)
theorem drawnSplit {l : List Int} (h : ∀ x ∈ l, (Lit.int .u8 x).wf = true) {β : Type} {f : Nat → PL × Int × Int → Option β} {Q : β → Prop} (hf : ∀ (s : PL) (i j : Int), s.length ≤ 12 → Idx i → Idx j → EvQ (fun k => f k (s, i, j)) Q) :
    EvQ (fun k => ((spec_l6Open.f l).bind fun bt => ((spec_l92Split.f k bt.1 bt.2).bind fun bt2 => (some (bt2.1, bt2.2.1, bt2.2.2.1)))).bind (f k)) Q := by
  obtain ⟨b, hb, hb2⟩ := openQ h
  refine EvQ.bind (P := fun s => s.1.length ≤ 12 ∧ Idx s.2.1 ∧ Idx s.2.2) ?_ (fun s hs => hf s.1 s.2.1 s.2.2 hs.1 hs.2.1 hs.2.2)
  refine EvQ.bindc hb (EvQ.bind (split hb2 (by simp) (by simp)) ?_)
  rintro ⟨s, i, j, q⟩ ⟨h1, h2, h3⟩
  exact EvQ.ret ⟨h1, h2, h3⟩
end Go.Proofs.Ytfonigbkoligmaa.Pick

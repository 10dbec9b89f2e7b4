/- What is drawn for the laws of chapter 43, plain: a list of at most six numbers. No program in sight. -/
import Derived.Test.YtekgcfjoimdecaaPick
import Derived.Test.YtekgcfjoimdecaaPx11
set_option linter.unusedVariables false
set_option linter.unusedSimpArgs false
namespace Go.Proofs.Ytekgcfjoimdecaa.Pick
open Go.RowKit Go.Proofs.Ytekgcfjoimdecaa.P Go.Proofs.YtekgcfjoimdecaaW.PrintWords Go.Proofs.YtekgcfjoimdecaaW.PrintLast Go.Proofs.YtekgcfjoimdecaaW.PrintMore Go.Proofs.Ytekgcfjoimdecaa.Ev
theorem stations {b : List Int} {p : Int} (hb : Bytes b) (hp : 0 ≤ p) (hp2 : p ≤ 1000) :
    EvQ (fun k => spec_l92Stations.f k b p) (fun r => r.1.length ≤ 6 ∧ 0 ≤ r.2 ∧ r.2 ≤ p + 20) := by
  unfold spec_l92Stations.f
  refine EvQ.bind (pick hb hp (by omega)) ?_
  rintro ⟨v, q⟩ ⟨h1, h2, h3⟩
  simp only [] at h1 h2 h3 ⊢
  have h2 := h2 (by omega)
  subst h3
  have hj : ∀ (l : List Int) (q : Int), 1 ≤ l.length → l.length ≤ 6 → 0 ≤ q → q ≤ p + 10 → EvQ (fun k => spec_l92Stations.j1 k l b q) (fun r => r.1.length ≤ 6 ∧ 0 ≤ r.2 ∧ r.2 ≤ p + 20) := by
    intro l q hl hl2 hq hq2
    refine EvQ.step (fun k => by simp only [spec_l92Stations.j1]; rfl) ?_
    refine EvQ.bind (pick hb hq (by omega)) ?_
    rintro ⟨x, r⟩ ⟨_, _, h⟩
    simp only [] at h ⊢
    refine EvQ.ite (fun _ => EvQ.pos (by omega) (EvQ.ret ⟨by simpa using hl2, by simp only []; omega, by simp only []; omega⟩)) (fun _ => ?_)
    exact EvQ.ite (fun _ => EvQ.ret ⟨by simp, by simp only []; omega, by simp only []; omega⟩) (fun _ => EvQ.ret ⟨hl2, by simp only []; omega, by simp only []; omega⟩)
  have hn : wrap64 (1 + v) = 1 + v := w64 (by omega) (by omega)
  rw [hn]
  obtain ⟨n, hn1⟩ : ∃ n : Nat, (n : Int) = 1 + v := ⟨(1 + v).toNat, by omega⟩
  rw [← hn1]
  refine EvQ.loop (σ := List Int × Int × Int) (g := fun k i s => spec_l92Stations.l0 k s.1 (n : Int) s.2.1 i b s.2.2) n (fun i s => s.1.length = i ∧ s.2.2 = p + 1 + i) ?_ ?_ 0 ([], 0, p + 1) (by omega) (by simp)
  · rintro i ⟨l, m, q⟩ hi ⟨h4, h5⟩ ih
    simp only [] at h4 h5 ⊢
    refine EvQ.step (fun k => by simp only [spec_l92Stations.l0]; rfl) ?_
    refine EvQ.pos (by omega) ?_
    refine EvQ.bind (pick hb (by omega) (by omega)) ?_
    rintro ⟨x, r⟩ ⟨_, _, h⟩
    simp only [] at h ⊢
    refine EvQ.pos (by omega) ?_
    rw [w64 (n := (i : Int) + 1) (by omega) (by omega)]
    exact ih (_, _, _) ⟨by simp [h4], by simp only []; omega⟩
  · rintro ⟨l, m, q⟩ ⟨h4, h5⟩
    simp only [] at h4 h5 ⊢
    refine EvQ.step (fun k => by simp only [spec_l92Stations.l0]; rfl) ?_
    refine EvQ.neg (by omega) ?_
    refine EvQ.bind (pick hb (by omega) (by omega)) ?_
    rintro ⟨x, r⟩ ⟨_, _, h⟩
    simp only [] at h ⊢
    have hw : wrap64 ((n : Int) - 1) = (n : Int) - 1 := w64 (by omega) (by omega)
    refine EvQ.ite (fun _ => ?_) (fun _ => hj _ _ (by omega) (by omega) (by omega) (by omega))
    rw [hw]
    refine EvQ.pos (by omega) (EvQ.pos (by omega) ?_)
    exact hj _ _ (by simp; omega) (by simp; omega) (by omega) (by omega)
/-- A draw that hands on the stations alone. -/
theorem drawn {l : List Int} (h : ∀ x ∈ l, (Lit.int .u8 x).wf = true) {β : Type} {f : Nat → List Int → Option β} {Q : β → Prop} (hf : ∀ s : List Int, s.length ≤ 6 → EvQ (fun k => f k s) Q) :
    EvQ (fun k => ((spec_l6Open.f l).bind fun bt => ((spec_l92Stations.f k bt.1 bt.2).bind fun bt2 => (some bt2.1))).bind (f k)) Q := by
  obtain ⟨b, hb, hb2⟩ := openQ h
  refine EvQ.bind (P := fun s => s.length ≤ 6) ?_ hf
  refine EvQ.bindc hb (EvQ.bind (stations hb2 (by simp) (by simp)) ?_)
  rintro ⟨s, q⟩ ⟨h1, _, _⟩
  exact EvQ.ret h1
end Go.Proofs.Ytekgcfjoimdecaa.Pick

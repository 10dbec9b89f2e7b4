import Derived.Test.YtolkcbnolbkgmaaPick
import Derived.Test.YtolkcbnolbkgmaaPx6
set_option linter.unusedVariables false
set_option linter.unusedSimpArgs false
namespace Go.Proofs.Ytolkcbnolbkgmaa.Pick
open Go.RowKit Go.Proofs.Ytolkcbnolbkgmaa.P Go.Proofs.YtolkcbnolbkgmaaW.PrintWords Go.Proofs.YtolkcbnolbkgmaaW.PrintLast Go.Proofs.YtolkcbnolbkgmaaW.PrintMore Go.Proofs.Ytolkcbnolbkgmaa.Ev
theorem travel {b : List Int} {p : Int} (hb : Bytes b) (hp : 0 ≤ p) (hp2 : p ≤ 1000) :
    EvQ (fun k => spec_l92Travel.f k b p) (fun r => r.1.length ≤ 6 ∧ 0 ≤ r.2 ∧ r.2 ≤ p + 20) := by
  unfold spec_l92Travel.f
  refine EvQ.bind (pick hb hp (by omega)) ?_
  rintro ⟨v, q⟩ ⟨h1, h2, h3⟩
  simp only [] at h1 h2 h3 ⊢
  have h2 := h2 (by omega)
  subst h3
  have hn : wrap64 (1 + v) = 1 + v := w64 (by omega) (by omega)
  rw [hn]
  obtain ⟨n, hn1⟩ : ∃ n : Nat, (n : Int) = 1 + v := ⟨(1 + v).toNat, by omega⟩
  rw [← hn1]
  refine EvQ.loop (σ := List S34 × Int) (g := fun k i s => spec_l92Travel.l0 k s.1 (n : Int) i b s.2) n (fun i s => s.1.length = i ∧ s.2 = p + 1 + 2 * i) ?_ ?_ 0 ([], p + 1) (by omega) (by simp)
  · rintro i ⟨l, q⟩ hi ⟨h4, h5⟩ ih
    simp only [] at h4 h5 ⊢
    refine EvQ.step (fun k => by simp only [spec_l92Travel.l0]; rfl) ?_
    refine EvQ.pos (by omega) ?_
    refine EvQ.bind (pick hb (by omega) (by omega)) ?_
    rintro ⟨x, r⟩ ⟨_, _, h⟩
    simp only [] at h ⊢
    refine EvQ.bind (pick hb (by omega) (by omega)) ?_
    rintro ⟨y, r2⟩ ⟨_, _, h6⟩
    simp only [] at h6 ⊢
    refine EvQ.pos (by omega) ?_
    rw [w64 (n := (i : Int) + 1) (by omega) (by omega)]
    exact ih (_, _) ⟨by simp [h4], by simp only []; omega⟩
  · rintro ⟨l, q⟩ ⟨h4, h5⟩
    simp only [] at h4 h5 ⊢
    refine EvQ.step (fun k => by simp only [spec_l92Travel.l0]; rfl) ?_
    refine EvQ.neg (by omega) ?_
    refine EvQ.bind (pick hb (by omega) (by omega)) ?_
    rintro ⟨x, r⟩ ⟨_, _, h⟩
    simp only [] at h ⊢
    refine EvQ.ite (fun _ => EvQ.bindc rfl (EvQ.bind (pick hb (by omega) (by omega)) ?_)) (fun _ => ?_)
    · rintro ⟨y, r2⟩ ⟨h7, h8, h6⟩
      simp only [] at h6 h7 h8 ⊢
      have h8 := h8 (by omega)
      exact EvQ.pos h7 (EvQ.pos (by simp; omega) (EvQ.pos (by omega) (EvQ.ret ⟨by simp; omega, by simp only []; omega, by simp only []; omega⟩)))
    refine EvQ.ite (fun _ => EvQ.ret ⟨by simp, by simp only []; omega, by simp only []; omega⟩) (fun _ => ?_)
    refine EvQ.ite (fun _ => EvQ.pos (by omega) (EvQ.pos (by omega) (EvQ.ret ⟨by simp; omega, by simp only []; omega, by simp only []; omega⟩))) (fun _ => EvQ.ret ⟨by simp only []; omega, by simp only []; omega, by simp only []; omega⟩)
theorem drawnTravel {l : List Int} (h : ∀ x ∈ l, (Lit.int .u8 x).wf = true) {β : Type} {f : Nat → List S34 → Option β} {Q : β → Prop} (hf : ∀ s : List S34, s.length ≤ 6 → EvQ (fun k => f k s) Q) :
    EvQ (fun k => ((spec_l6Open.f l).bind fun bt => ((spec_l92Travel.f k bt.1 bt.2).bind fun bt2 => (some bt2.1))).bind (f k)) Q := by
  obtain ⟨b, hb, hb2⟩ := openQ h
  refine EvQ.bind (P := fun s => s.length ≤ 6) ?_ hf
  refine EvQ.bindc hb (EvQ.bind (travel hb2 (by simp) (by simp)) ?_)
  rintro ⟨s, q⟩ ⟨h1, _, _⟩
  exact EvQ.ret h1
end Go.Proofs.Ytolkcbnolbkgmaa.Pick

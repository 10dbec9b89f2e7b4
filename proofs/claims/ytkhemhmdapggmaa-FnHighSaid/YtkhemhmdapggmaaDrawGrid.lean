/- What is drawn for the laws of chapters 41 and 42, plain: a draw comes to its end. No program in sight. -/
import Derived.Test.YtkhemhmdapggmaaPick
import Derived.Test.YtkhemhmdapggmaaGridA
import Derived.Test.YtkhemhmdapggmaaPx30
set_option linter.unusedVariables false
set_option linter.unusedSimpArgs false
namespace Go.Proofs.Ytkhemhmdapggmaa.Pick
open Go.RowKit Go.Proofs.Ytkhemhmdapggmaa.P Go.Proofs.YtkhemhmdapggmaaW.PrintWords Go.Proofs.YtkhemhmdapggmaaW.PrintLast Go.Proofs.YtkhemhmdapggmaaW.PrintMore Go.Proofs.Ytkhemhmdapggmaa.Ev
theorem grid {b : List Int} {p : Int} (hb : Bytes b) (hp : 0 ≤ p) (hp2 : p ≤ 1000) :
    EvQ (fun k => spec_l92Grid.f k b p) (fun r => 0 ≤ r.2 ∧ r.2 ≤ p + 100) := by
  unfold spec_l92Grid.f
  refine EvQ.bind (pick hb hp (by omega)) ?_
  rintro ⟨v1, q1⟩ ⟨a1, a2, a3⟩
  simp only [] at a1 a2 a3 ⊢
  have a2 := a2 (by omega)
  refine EvQ.bind (pick hb (by omega) (by omega)) ?_
  rintro ⟨v2, q2⟩ ⟨b1, b2, b3⟩
  simp only [] at b1 b2 b3 ⊢
  have b2 := b2 (by omega)
  rw [w64 (n := 2 + v1) (by omega) (by omega), w64 (n := 2 + v2) (by omega) (by omega)]
  obtain ⟨n, hn⟩ : ∃ n : Nat, (n : Int) = 2 + v1 := ⟨(2 + v1).toNat, by omega⟩
  obtain ⟨m, hm⟩ : ∃ m : Nat, (m : Int) = 2 + v2 := ⟨(2 + v2).toNat, by omega⟩
  rw [← hn, ← hm]
  refine EvQ.grid (σ := List (List Int) × List Int × Int) (g0 := fun k i s => spec_l92Grid.l0 k s.1 (n : Int) (m : Int) i b s.2.2) (g1 := fun k i j s => spec_l92Grid.l1 k s.1 (n : Int) (m : Int) i s.2.1 j b s.2.2) n (fun _ => m)
    (fun i s => s.1.length = i ∧ (∀ r ∈ s.1, r.length = m) ∧ s.2.2 = p + 2 + i * m) (fun i j s => s.1.length = i ∧ (∀ r ∈ s.1, r.length = m) ∧ s.2.1.length = j ∧ s.2.2 = p + 2 + i * m + j) ?_ ?_ ?_ ?_ ([], [], q2) ⟨rfl, by simp, by simp; omega⟩
  · rintro i ⟨l, r, q⟩ hi ⟨h1, h2, h3⟩ ih
    simp only [] at h1 h2 h3 ⊢
    refine EvQ.step (fun k => by simp only [spec_l92Grid.l0]; rfl) ?_
    exact EvQ.pos (by omega) (ih (l, [], q) ⟨h1, h2, rfl, by simp only []; omega⟩)
  · rintro i j ⟨l, r, q⟩ hi hj ⟨h1, h2, h3, h4⟩ ih
    simp only [] at h1 h2 h3 h4 ⊢
    have h5 : (i : Int) * m ≤ 4 * 4 := Int.mul_le_mul (by omega) (by omega) (by omega) (by omega)
    have h6 : 0 ≤ (i : Int) * m := Int.mul_nonneg (by omega) (by omega)
    refine EvQ.step (fun k => by simp only [spec_l92Grid.l1]; rfl) ?_
    refine EvQ.pos (by omega) (EvQ.bind (pick hb (by omega) (by omega)) ?_)
    rintro ⟨v, q'⟩ ⟨c1, c2, c3⟩
    simp only [] at c1 c2 c3 ⊢
    refine EvQ.pos (by omega) ?_
    rw [w64 (n := (j : Int) + 1) (by omega) (by omega)]
    exact ih (l, r ++ [v], q') ⟨h1, h2, by simp [h3], by simp only []; omega⟩
  · rintro i ⟨l, r, q⟩ hi ⟨h1, h2, h3, h4⟩ ih
    simp only [] at h1 h2 h3 h4 ⊢
    refine EvQ.step (fun k => by simp only [spec_l92Grid.l1]; rfl) ?_
    refine EvQ.neg (by omega) (EvQ.pos (by omega) ?_)
    rw [w64 (n := (i : Int) + 1) (by omega) (by omega)]
    refine ih (l ++ [r], r, q) ⟨by simp [h1], fun x hx => ?_, ?_⟩
    · rcases List.mem_append.1 hx with h | h
      · exact h2 x h
      · rw [List.mem_singleton.1 h]; exact h3
    · simp only []; push_cast; rw [Int.add_mul]; omega
  · rintro ⟨l, r, q⟩ ⟨h1, h2, h3⟩
    simp only [] at h1 h2 h3 ⊢
    have h5 : (n : Int) * m ≤ 4 * 4 := Int.mul_le_mul (by omega) (by omega) (by omega) (by omega)
    have h6 : 0 ≤ (n : Int) * m := Int.mul_nonneg (by omega) (by omega)
    refine EvQ.step (fun k => by simp only [spec_l92Grid.l0]; rfl) ?_
    refine EvQ.neg (by omega) (EvQ.bind (pick hb (by omega) (by omega)) ?_)
    rintro ⟨v, q'⟩ ⟨c1, c2, c3⟩
    simp only [] at c1 c2 c3 ⊢
    refine EvQ.ite (fun hz => ?_) (fun hz => EvQ.ite (fun hz1 => ?_) (fun hz1 => EvQ.ite (fun hz2 => ?_) (fun hz2 => ?_)))
    · refine EvQ.pos (by omega) (EvQ.bindc rfl ?_)
      refine EvQ.bind (pick hb (by omega) (by omega)) ?_
      rintro ⟨w, q''⟩ ⟨d1, d2, d3⟩
      simp only [] at d1 d2 d3 ⊢
      have d2 := d2 (by omega)
      have hl0 : (rd_L1 l 0).length = m := by
        have := GridA.rdG_get (g := l) (i := 0) (by omega)
        simp only [Int.natCast_zero] at this
        rw [this]; exact h2 _ (List.getElem_mem _)
      refine EvQ.pos (by omega) (EvQ.pos (by simp; omega) (EvQ.pos (by omega) (EvQ.ret ⟨by simp only []; omega, by simp only []; omega⟩)))
    · refine EvQ.pos (by omega) ?_
      have hl1 : (rd_L1 l 1).length = m := by
        have := GridA.rdG_get (g := l) (i := 1) (by omega)
        simp only [Int.natCast_one] at this
        rw [this]; exact h2 _ (List.getElem_mem _)
      exact EvQ.pos (by omega) (EvQ.ret ⟨by simp only []; omega, by simp only []; omega⟩)
    · exact EvQ.pos (by omega) (EvQ.ret ⟨by simp only []; omega, by simp only []; omega⟩)
    · exact EvQ.ret ⟨by simp only []; omega, by simp only []; omega⟩
/-- A draw that hands on the grid alone. -/
theorem drawnG {l : List Int} (h : ∀ x ∈ l, (Lit.int .u8 x).wf = true) {β : Type} {f : Nat → List (List Int) → Option β} {Q : β → Prop} (hf : ∀ s : List (List Int), EvQ (fun k => f k s) Q) :
    EvQ (fun k => ((spec_l6Open.f l).bind fun bt => ((spec_l92Grid.f k bt.1 bt.2).bind fun bt2 => (some bt2.1))).bind (f k)) Q := by
  obtain ⟨b, hb, hb2⟩ := openQ h
  refine EvQ.bind (P := fun _ => True) ?_ (fun s _ => hf s)
  refine EvQ.bindc hb (EvQ.bind (grid hb2 (by simp) (by simp)) ?_)
  rintro ⟨s, q⟩ _
  exact EvQ.ret trivial
end Go.Proofs.Ytkhemhmdapggmaa.Pick

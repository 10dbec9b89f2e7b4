import Derived.Test.YtfonigbkoligmaaCrossA
import Derived.Test.YtfonigbkoligmaaPx7
import Derived.Test.YtfonigbkoligmaaPx9
set_option linter.unusedVariables false
set_option linter.unusedSimpArgs false
namespace Go.Proofs.Ytfonigbkoligmaa.Cr
open Go.RowKit Go.Proofs.Ytfonigbkoligmaa.P Go.Proofs.YtfonigbkoligmaaW.PrintWords Go.Proofs.YtfonigbkoligmaaW.PrintLast Go.Proofs.YtfonigbkoligmaaW.PrintMore Go.Proofs.Ytfonigbkoligmaa.Ev
theorem meet_core {sx sy tx ty ux uy D P Q : Int} (hD : D = sx * ty - sy * tx) (hP : P = ux * ty - uy * tx) (hQ : Q = ux * sy - uy * sx) (h0 : D ≠ 0) :
    ((sx * uy - sy * ux = 0 ∧ Bt sx ux ∧ Bt sy uy) ∨ (sx * (uy + ty) - sy * (ux + tx) = 0 ∧ Bt sx (ux + tx) ∧ Bt sy (uy + ty)) ∨ (tx * (-uy) - ty * (-ux) = 0 ∧ Bt tx (-ux) ∧ Bt ty (-uy)) ∨ (tx * (sy - uy) - ty * (sx - ux) = 0 ∧ Bt tx (sx - ux) ∧ Bt ty (sy - uy)) ∨
      (((sx * uy - sy * ux < 0 ∧ 0 < sx * (uy + ty) - sy * (ux + tx)) ∨ (0 < sx * uy - sy * ux ∧ sx * (uy + ty) - sy * (ux + tx) < 0)) ∧ ((tx * (-uy) - ty * (-ux) < 0 ∧ 0 < tx * (sy - uy) - ty * (sx - ux)) ∨ (0 < tx * (-uy) - ty * (-ux) ∧ tx * (sy - uy) - ty * (sx - ux) < 0)))) ↔ (Bt D P ∧ Bt D Q) := by
  have e1 : sx * uy - sy * ux = -Q := by grind
  have e2 : sx * (uy + ty) - sy * (ux + tx) = D - Q := by grind
  have e3 : tx * (-uy) - ty * (-ux) = P := by grind
  have e4 : tx * (sy - uy) - ty * (sx - ux) = P - D := by grind
  have hs : sx ≠ 0 ∨ sy ≠ 0 := by
    by_cases a : sx = 0
    · right; rintro rfl; apply h0; rw [hD, a]; simp
    · exact Or.inl a
  have ht : tx ≠ 0 ∨ ty ≠ 0 := by
    by_cases a : tx = 0
    · right; rintro rfl; apply h0; rw [hD, a]; simp
    · exact Or.inl a
  rw [e1, e2, e3, e4]
  have b1 : Q = 0 → ((Bt sx ux ∧ Bt sy uy) ↔ Bt D P) := fun hq => Bt.both h0 (by grind) (by grind) hs
  have b2 : Q = D → ((Bt sx (ux + tx) ∧ Bt sy (uy + ty)) ↔ Bt D P) := fun hq => Bt.both h0 (by grind) (by grind) hs
  have b3 : P = 0 → ((Bt tx (-ux) ∧ Bt ty (-uy)) ↔ Bt D Q) := fun hq => Bt.both h0 (by grind) (by grind) ht
  have b4 : P = D → ((Bt tx (sx - ux) ∧ Bt ty (sy - uy)) ↔ Bt D Q) := fun hq => Bt.both h0 (by grind) (by grind) ht
  constructor
  · rintro (⟨h, h2⟩ | ⟨h, h2⟩ | ⟨h, h2⟩ | ⟨h, h2⟩ | ⟨h1, h2⟩)
    · exact ⟨(b1 (by omega)).1 h2, by unfold Bt; omega⟩
    · exact ⟨(b2 (by omega)).1 h2, by unfold Bt; omega⟩
    · exact ⟨by unfold Bt; omega, (b3 (by omega)).1 h2⟩
    · exact ⟨by unfold Bt; omega, (b4 (by omega)).1 h2⟩
    · unfold Bt; omega
  · rintro ⟨hp, hq⟩
    by_cases q0 : Q = 0
    · exact Or.inl ⟨by omega, (b1 q0).2 hp⟩
    by_cases q1 : Q = D
    · exact Or.inr (Or.inl ⟨by omega, (b2 q1).2 hp⟩)
    by_cases p0 : P = 0
    · exact Or.inr (Or.inr (Or.inl ⟨by omega, (b3 p0).2 hq⟩))
    by_cases p1 : P = D
    · exact Or.inr (Or.inr (Or.inr (Or.inl ⟨by omega, (b4 p1).2 hq⟩)))
    refine Or.inr (Or.inr (Or.inr (Or.inr ?_)))
    unfold Bt at hp hq; omega
theorem meet_iff {ax ay bx by_ cx cy dx dy : Int} (h0 : pD ax ay bx by_ cx cy dx dy ≠ 0) : Meet ax ay bx by_ cx cy dx dy ↔ (Bt (pD ax ay bx by_ cx cy dx dy) (pP ax ay bx by_ cx cy dx dy) ∧ Bt (pD ax ay bx by_ cx cy dx dy) (pQ ax ay bx by_ cx cy dx dy)) := by
  refine Iff.trans ?_ (meet_core (sx := bx - ax) (sy := by_ - ay) (tx := dx - cx) (ty := dy - cy) (ux := cx - ax) (uy := cy - ay) (D := pD ax ay bx by_ cx cy dx dy) (P := pP ax ay bx by_ cx cy dx dy) (Q := pQ ax ay bx by_ cx cy dx dy) rfl rfl rfl h0)
  unfold Meet On sd cr
  rw [sg_mul, sg_mul]
  rw [show cx - ax + (dx - cx) = dx - ax by omega, show cy - ay + (dy - cy) = dy - ay by omega, show -(cx - ax) = ax - cx by omega, show -(cy - ay) = ay - cy by omega, show bx - ax - (cx - ax) = bx - cx by omega, show by_ - ay - (cy - ay) = by_ - cy by omega]
def inner (ax ay bx by_ cx cy dx dy : Int) : Bool := lnOk ax ay bx by_ cx cy dx dy && decide (pD ax ay bx by_ cx cy dx dy ≠ 0 ∧ Bt (pD ax ay bx by_ cx cy dx dy) (pP ax ay bx by_ cx cy dx dy) ∧ Bt (pD ax ay bx by_ cx cy dx dy) (pQ ax ay bx by_ cx cy dx dy))
theorem implInner (ax ay bx by_ cx cy dx dy : Int) : impl_CrossInner.f ax ay bx by_ cx cy dx dy = some (inner ax ay bx by_ cx cy dx dy) := by
  unfold impl_CrossInner.f ciB inner
  cases hl : lnOk ax ay bx by_ cx cy dx dy with
  | false => rfl
  | true =>
    have h := (lnOk_iff _ _ _ _ _ _ _ _).1 hl
    rw [alI_eq h, alI_eq h.swap, hdI_nrm, hdI_nrm, pD_swap ax ay bx by_ cx cy dx dy, pP_swap ax ay bx by_ cx cy dx dy]
    congr 1
    rw [Bool.eq_iff_iff]
    simp only [Bool.true_and, Bool.and_eq_true, decide_eq_true_eq, Bt.neg]
    constructor
    · rintro ⟨⟨h1, h2⟩, h3, h4⟩; exact ⟨h1, h2, h4⟩
    · rintro ⟨h1, h2, h3⟩; exact ⟨⟨h1, h2⟩, by omega, h3⟩
theorem specInner (ax ay bx by_ cx cy dx dy : Int) : EvQ (fun k => spec_CrossInner.f k ax ay bx by_ cx cy dx dy) (fun r => r = inner ax ay bx by_ cx cy dx dy) := by
  unfold spec_CrossInner.f inner
  refine EvQ.bindc (l34Ok _ _ _ _ _ _ _ _) (EvQ.ite (fun hl => ?_) (fun hl => EvQ.ret (by simp [hl])))
  have h := (lnOk_iff _ _ _ _ _ _ _ _).1 hl
  rw [hl]
  refine EvQ.bindc (l34Parts h) (EvQ.ite (fun h0 => EvQ.ret ?_) (fun h0 => EvQ.bind (l31Meet h.a h.b h.c h.d) ?_))
  · simp only [] at h0; rw [h0]; simp
  · rintro _ rfl
    refine EvQ.ret ?_
    have h0 : pD ax ay bx by_ cx cy dx dy ≠ 0 := h0
    rw [Bool.true_and, Bool.eq_iff_iff, decide_eq_true_eq, decide_eq_true_eq, meet_iff h0]
    exact ⟨fun h => ⟨h0, h.1, h.2⟩, fun h => h.2⟩
end Go.Proofs.Ytfonigbkoligmaa.Cr

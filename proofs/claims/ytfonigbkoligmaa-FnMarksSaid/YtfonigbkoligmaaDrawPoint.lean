import Derived.Test.YtfonigbkoligmaaPick
import Derived.Test.YtfonigbkoligmaaPx4
set_option linter.unusedVariables false
set_option linter.unusedSimpArgs false
namespace Go.Proofs.Ytfonigbkoligmaa.Pick
open Go.RowKit Go.Proofs.Ytfonigbkoligmaa.P Go.Proofs.YtfonigbkoligmaaW.PrintWords Go.Proofs.YtfonigbkoligmaaW.PrintLast Go.Proofs.YtfonigbkoligmaaW.PrintMore Go.Proofs.Ytfonigbkoligmaa.Ev
def Coord (x : Int) : Prop := -10001 ≤ x ∧ x ≤ 10001
theorem point {b : List Int} {p : Int} (hb : Bytes b) (hp : 0 ≤ p) (hp2 : p ≤ 10000) :
    EvQ (fun k => spec_l91Point.f k b p) (fun r => Coord r.1 ∧ Coord r.2.1 ∧ p ≤ r.2.2 ∧ r.2.2 ≤ p + 5) := by
  unfold spec_l91Point.f
  refine EvQ.bind (pick hb hp (by omega)) ?_
  rintro ⟨x, q1⟩ ⟨a1, a2, a3⟩
  simp only [] at a1 a2 a3 ⊢
  have a2 := a2 (by omega)
  refine EvQ.bind (pick hb (by omega) (by omega)) ?_
  rintro ⟨y, q2⟩ ⟨b1, b2, b3⟩
  simp only [] at b1 b2 b3 ⊢
  have b2 := b2 (by omega)
  refine EvQ.bind (pick hb (by omega) (by omega)) ?_
  rintro ⟨z, q3⟩ ⟨c1, c2, c3⟩
  simp only [] at c1 c2 c3 ⊢
  have wx : wrap64 (x - 6) = x - 6 := w64 (by omega) (by omega)
  have wy : wrap64 (y - 6) = y - 6 := w64 (by omega) (by omega)
  rw [wx, wy]
  refine EvQ.ite (fun _ => EvQ.bindc rfl (EvQ.bind (pick hb (by omega) (by omega)) ?_)) (fun _ => EvQ.ite (fun _ => EvQ.bind (pick hb (by omega) (by omega)) ?_) (fun _ => EvQ.ret ?_))
  · rintro ⟨u, q4⟩ ⟨d1, d2, d3⟩
    simp only [] at d1 d2 d3 ⊢
    have d2 := d2 (by omega)
    refine EvQ.pos d1 (EvQ.pos (by simp; omega) (EvQ.ret ?_))
    have hu : u = 0 ∨ u = 1 ∨ u = 2 := by omega
    refine ⟨?_, ?_, by simp only []; omega, by simp only []; omega⟩
    · rcases hu with rfl | rfl | rfl <;> simp [rd, Coord]
    · simp only [Coord]; omega
  · rintro ⟨u, q4⟩ ⟨d1, d2, d3⟩
    simp only [] at d1 d2 d3 ⊢
    have d2 := d2 (by omega)
    refine EvQ.bind (pick hb (by omega) (by omega)) ?_
    rintro ⟨v, q5⟩ ⟨e1, e2, e3⟩
    simp only [] at e1 e2 e3 ⊢
    have e2 := e2 (by omega)
    rw [w64 (n := u * 50) (by omega) (by omega), w64 (n := v * 50) (by omega) (by omega), w64 (n := u * 50 - 5000) (by omega) (by omega), w64 (n := v * 50 - 5000) (by omega) (by omega)]
    refine EvQ.ret ⟨?_, ?_, by simp only []; omega, by simp only []; omega⟩ <;> simp only [Coord] <;> omega
  · refine ⟨?_, ?_, by simp only []; omega, by simp only []; omega⟩ <;> simp only [Coord] <;> omega
end Go.Proofs.Ytfonigbkoligmaa.Pick

/- The helpers of the exact statements over lists of hauls, plain: marks; equal lists. No program in sight. -/
import Derived.Test.YtekgcfjoimdecaaHaulC
import Derived.Test.YtekgcfjoimdecaaPx29
set_option linter.unusedVariables false
set_option linter.unusedSimpArgs false
namespace Go.Proofs.Ytekgcfjoimdecaa.HaulA
open Go.RowKit Go.Proofs.Ytekgcfjoimdecaa.P Go.Proofs.YtekgcfjoimdecaaW.PrintWords Go.Proofs.YtekgcfjoimdecaaW.PrintLast Go.Proofs.YtekgcfjoimdecaaW.PrintMore Go.Proofs.Ytekgcfjoimdecaa.Ev
/-- n marks. -/
def marks (n : Nat) : List Haul := (List.range n).map fun j : Nat => ⟨3 * (j : Int) + 1, 3 * (j : Int) + 2, 3 * (j : Int) + 3⟩
theorem marks_length (n : Nat) : (marks n).length = n := by simp [marks]
theorem marks_succ (n : Nat) : marks (n + 1) = marks n ++ [⟨3 * (n : Int) + 1, 3 * (n : Int) + 2, 3 * (n : Int) + 3⟩] := by simp [marks, List.range_succ]
theorem marks_rd {n i : Nat} (h : i < n) : rd_T47 (marks n) (i : Int) = ⟨3 * (i : Int) + 1, 3 * (i : Int) + 2, 3 * (i : Int) + 3⟩ := by
  rw [rdH_get (by rw [marks_length]; exact h)]; simp [marks]
theorem markHaulS {l : List Haul} (hl : l.length ≤ 1048577) : EvQ (fun k => laws_markHaulS.f k l 1) (fun r => r = (3 * (l.length : Int) + 1, marks l.length)) := by
  unfold laws_markHaulS.f
  refine EvQ.loop (σ := Int × List Haul) (g := fun k i s => laws_markHaulS.l0 k s.2 s.1 i) l.length (fun i s => s = (3 * (i : Int) + 1, marks i ++ l.drop i)) ?_ ?_ 0 (1, l) (by omega) (by simp [marks])
  · rintro i s hi rfl ih
    have hlen : (marks i ++ l.drop i).length = l.length := by rw [List.length_append, marks_length, List.length_drop]; omega
    have hs : ∀ p q : Haul, (marks i ++ q :: l.drop (i + 1)).set i p = marks i ++ p :: l.drop (i + 1) := by
      intro p q
      rw [List.set_append, marks_length, if_neg (Nat.lt_irrefl _), Nat.sub_self, List.set_cons_zero]
    have hr : ∀ p : Haul, rd_T47 (marks i ++ p :: l.drop (i + 1)) (i : Int) = p := by
      intro p
      rw [rdH_get (by rw [List.length_append, marks_length]; simp)]
      rw [List.getElem_append_right (by rw [marks_length]; exact Nat.le_refl _)]
      simp [marks_length]
    have hd : l.drop i = l[i] :: l.drop (i + 1) := List.drop_eq_getElem_cons hi
    refine EvQ.step (fun k => by simp only [laws_markHaulS.l0]; rfl) ?_
    simp only [hlen]
    refine EvQ.pos (by omega) (EvQ.pos (by omega) ?_)
    rw [hd]
    simp only [Int.toNat_natCast, hs, hr, Option.bind_some]
    rw [w64 (n := 3 * (i : Int) + 1 + 1) (by omega) (by omega), w64 (n := 3 * (i : Int) + 1 + 1 + 1) (by omega) (by omega), w64 (n := 3 * (i : Int) + 1 + 1 + 1 + 1) (by omega) (by omega), w64 (n := (i : Int) + 1) (by omega) (by omega)]
    refine ih (_, _) ?_
    rw [marks_succ, List.append_assoc]
    simp only [List.singleton_append, Prod.mk.injEq]
    refine ⟨by push_cast; omega, ?_⟩
    congr 2
  · rintro s rfl
    have hlen : (marks l.length ++ l.drop l.length).length = l.length := by rw [List.length_append, marks_length, List.length_drop]; omega
    refine EvQ.step (fun k => by simp only [laws_markHaulS.l0]; rfl) ?_
    simp only [hlen]
    refine EvQ.neg (by omega) (EvQ.ret ?_)
    rw [List.drop_length, List.append_nil]
theorem heldHaulS {n : Nat} (hn : n ≤ 1048577) : EvQ (fun k => laws_heldHaulS.f k (marks n) 1) (fun r => r = 3 * (n : Int) + 1) := by
  unfold laws_heldHaulS.f
  refine EvQ.loop (σ := Int) (g := fun k i s => laws_heldHaulS.l0 k (marks n) s i) n (fun i s => s = 3 * (i : Int) + 1) ?_ ?_ 0 1 (by omega) (by simp)
  · rintro i s hi rfl ih
    refine EvQ.step (fun k => by simp only [laws_heldHaulS.l0]; rfl) ?_
    rw [marks_length, marks_rd hi]
    rw [w64 (n := 3 * (i : Int) + 1 + 1) (by omega) (by omega), w64 (n := 3 * (i : Int) + 1 + 1 + 1) (by omega) (by omega), w64 (n := 3 * (i : Int) + 1 + 1 + 1 + 1) (by omega) (by omega), w64 (n := (i : Int) + 1) (by omega) (by omega)]
    refine EvQ.pos (by omega) (EvQ.pos (by omega) (EvQ.pos rfl (EvQ.pos (by simp only []; omega) (EvQ.pos (by simp only []; omega) ?_))))
    exact ih _ (by omega)
  · rintro s rfl
    refine EvQ.step (fun k => by simp only [laws_heldHaulS.l0]; rfl) ?_
    rw [marks_length]
    exact EvQ.neg (by omega) (EvQ.ret rfl)
end Go.Proofs.Ytekgcfjoimdecaa.HaulA

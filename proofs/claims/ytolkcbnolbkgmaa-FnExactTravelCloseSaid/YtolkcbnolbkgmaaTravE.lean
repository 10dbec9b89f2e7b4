import Derived.Test.YtolkcbnolbkgmaaTravA
import Derived.Test.YtolkcbnolbkgmaaPx5
import Derived.Test.YtolkcbnolbkgmaaPx6
set_option linter.unusedVariables false
set_option linter.unusedSimpArgs false
namespace Go.Proofs.Ytolkcbnolbkgmaa.TravA
open Go.RowKit Go.Proofs.Ytolkcbnolbkgmaa.P Go.Proofs.YtolkcbnolbkgmaaW.PrintWords Go.Proofs.YtolkcbnolbkgmaaW.PrintLast Go.Proofs.YtolkcbnolbkgmaaW.PrintMore Go.Proofs.Ytolkcbnolbkgmaa.Ev
def marks (n : Nat) : List Pt := (List.range n).map fun j : Nat => ⟨2 * (j : Int) + 1, 2 * (j : Int) + 2⟩
theorem marks_length (n : Nat) : (marks n).length = n := by simp [marks]
theorem marks_succ (n : Nat) : marks (n + 1) = marks n ++ [⟨2 * (n : Int) + 1, 2 * (n : Int) + 2⟩] := by simp [marks, List.range_succ]
theorem marks_rd {n i : Nat} (h : i < n) : rd_T34 (marks n) (i : Int) = ⟨2 * (i : Int) + 1, 2 * (i : Int) + 2⟩ := by
  rw [rdP_get (by rw [marks_length]; exact h)]; simp [marks]
theorem markPointS {l : List Pt} (hl : l.length ≤ 1048577) : EvQ (fun k => laws_markPointS.f k l 1) (fun r => r = (2 * (l.length : Int) + 1, marks l.length)) := by
  unfold laws_markPointS.f
  refine EvQ.loop (σ := Int × List Pt) (g := fun k i s => laws_markPointS.l0 k s.2 s.1 i) l.length (fun i s => s = (2 * (i : Int) + 1, marks i ++ l.drop i)) ?_ ?_ 0 (1, l) (by omega) (by simp [marks])
  · rintro i s hi rfl ih
    have hlen : (marks i ++ l.drop i).length = l.length := by rw [List.length_append, marks_length, List.length_drop]; omega
    have hs : ∀ p q : Pt, (marks i ++ q :: l.drop (i + 1)).set i p = marks i ++ p :: l.drop (i + 1) := by
      intro p q
      rw [List.set_append, marks_length, if_neg (Nat.lt_irrefl _), Nat.sub_self, List.set_cons_zero]
    have hr : ∀ p : Pt, rd_T34 (marks i ++ p :: l.drop (i + 1)) (i : Int) = p := by
      intro p
      rw [rdP_get (by rw [List.length_append, marks_length]; simp)]
      rw [List.getElem_append_right (by rw [marks_length]; exact Nat.le_refl _)]
      simp [marks_length]
    have hd : l.drop i = l[i] :: l.drop (i + 1) := List.drop_eq_getElem_cons hi
    refine EvQ.step (fun k => by simp only [laws_markPointS.l0]; rfl) ?_
    simp only [hlen]
    refine EvQ.pos (by omega) (EvQ.pos (by omega) ?_)
    rw [hd]
    simp only [Int.toNat_natCast, hs, hr, Option.bind_some]
    rw [w64 (n := 2 * (i : Int) + 1 + 1) (by omega) (by omega), w64 (n := 2 * (i : Int) + 1 + 1 + 1) (by omega) (by omega), w64 (n := (i : Int) + 1) (by omega) (by omega)]
    refine ih (_, _) ?_
    rw [marks_succ, List.append_assoc]
    simp only [List.singleton_append, Prod.mk.injEq]
    refine ⟨by push_cast; omega, ?_⟩
    congr 2
  · rintro s rfl
    have hlen : (marks l.length ++ l.drop l.length).length = l.length := by rw [List.length_append, marks_length, List.length_drop]; omega
    refine EvQ.step (fun k => by simp only [laws_markPointS.l0]; rfl) ?_
    simp only [hlen]
    refine EvQ.neg (by omega) (EvQ.ret ?_)
    rw [List.drop_length, List.append_nil]
theorem heldPointS {n : Nat} (hn : n ≤ 1048577) : EvQ (fun k => laws_heldPointS.f k (marks n) 1) (fun r => r = 2 * (n : Int) + 1) := by
  unfold laws_heldPointS.f
  refine EvQ.loop (σ := Int) (g := fun k i s => laws_heldPointS.l0 k (marks n) s i) n (fun i s => s = 2 * (i : Int) + 1) ?_ ?_ 0 1 (by omega) (by simp)
  · rintro i s hi rfl ih
    refine EvQ.step (fun k => by simp only [laws_heldPointS.l0]; rfl) ?_
    rw [marks_length, marks_rd hi]
    rw [w64 (n := 2 * (i : Int) + 1 + 1) (by omega) (by omega), w64 (n := 2 * (i : Int) + 1 + 1 + 1) (by omega) (by omega), w64 (n := (i : Int) + 1) (by omega) (by omega)]
    refine EvQ.pos (by omega) (EvQ.pos (by omega) (EvQ.pos rfl (EvQ.pos (by simp only []; omega) ?_)))
    exact ih _ (by omega)
  · rintro s rfl
    refine EvQ.step (fun k => by simp only [laws_heldPointS.l0]; rfl) ?_
    rw [marks_length]
    exact EvQ.neg (by omega) (EvQ.ret rfl)
end Go.Proofs.Ytolkcbnolbkgmaa.TravA

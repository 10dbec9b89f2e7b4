import Derived.Test.YtfonigbkoligmaaPolyA
set_option linter.unusedVariables false
set_option linter.unusedSimpArgs false
namespace Go.Proofs.Ytfonigbkoligmaa.Cr
open Go.RowKit Go.Proofs.Ytfonigbkoligmaa.P Go.Proofs.YtfonigbkoligmaaW.PrintWords Go.Proofs.YtfonigbkoligmaaW.PrintLast Go.Proofs.YtfonigbkoligmaaW.PrintMore Go.Proofs.Ytfonigbkoligmaa.Ev
theorem rot_idx (i j m n : Nat) : ((i + j) % n + m) % n = ((i + m) % n + j) % n := by
  rw [Nat.mod_add_mod, Nat.mod_add_mod]; congr 1; omega
theorem simp_rot {X Y X' Y' : Nat → Int} {n m : Nat} (hn : 0 < n) (hx : ∀ i, i < n → X' i = X ((i + m) % n)) (hy : ∀ i, i < n → Y' i = Y ((i + m) % n)) (h : Simp X Y n) : Simp X' Y' n := by
  have ml := fun i => Nat.mod_lt i hn
  have ex : ∀ i j, X' ((i + j) % n) = X (((i + m) % n + j) % n) := fun i j => by rw [hx _ (ml _), rot_idx]
  have ey : ∀ i j, Y' ((i + j) % n) = Y (((i + m) % n + j) % n) := fun i j => by rw [hy _ (ml _), rot_idx]
  refine ⟨fun i hi j h0 hj hs => ?_, fun i hi => ⟨?_, fun j h0 hj => ?_⟩⟩
  · unfold sameP at hs
    rw [ex, ey, hx i hi, hy i hi] at hs
    exact h.1 _ (ml _) j h0 hj hs
  · have := (h.2 _ (ml (i + m))).1
    unfold foldB at this ⊢
    rw [ex, ey, ex, ey, hx i hi, hy i hi]
    exact this
  · have := (h.2 _ (ml (i + m))).2 j h0 hj
    unfold sideB at this ⊢
    rw [next_mod ((i + m) % n + j) n] at this
    rw [next_mod (i + j) n]
    rw [Nat.add_assoc i j 1, ex i 1, ey i 1, ex i j, ey i j, ex i (j + 1), ey i (j + 1), hx i hi, hy i hi]
    rw [Nat.add_assoc _ j 1] at this
    exact this
end Go.Proofs.Ytfonigbkoligmaa.Cr

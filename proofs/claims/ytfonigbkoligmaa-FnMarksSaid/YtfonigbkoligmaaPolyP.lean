import Derived.Test.YtfonigbkoligmaaPolyG
import Derived.Test.YtfonigbkoligmaaPx4
set_option linter.unusedVariables false
set_option linter.unusedSimpArgs false
namespace Go.Proofs.Ytfonigbkoligmaa.Cr
open Go.RowKit Go.Proofs.Ytfonigbkoligmaa.P Go.Proofs.YtfonigbkoligmaaW.PrintWords Go.Proofs.YtfonigbkoligmaaW.PrintLast Go.Proofs.YtfonigbkoligmaaW.PrintMore Go.Proofs.Ytfonigbkoligmaa.Ev
def edge (l : List S33) : Int := cycE gapP l
theorem edge_sg {l : List S33} (hv : vdB l = true) : sgN (gN (plX l) (plY l) l.length) l.length = edge l ∧ 0 ≤ edge l ∧ edge l ≤ 480000 := by
  obtain ⟨h3, h12, hp⟩ := vdB_ok hv
  have hg : ∀ i, i < l.length → gN (plX l) (plY l) l.length i = gapP (l.getD i z33) (l.getD ((i + 1) % l.length) z33) ∧ 0 ≤ gapP (l.getD i z33) (l.getD ((i + 1) % l.length) z33) ∧ gapP (l.getD i z33) (l.getD ((i + 1) % l.length) z33) ≤ 40000 := fun i hi => by
    have m := Nat.mod_lt (i + 1) (show 0 < l.length by omega)
    have p1 := hp i hi
    have p2 := hp _ m
    refine ⟨?_, gap_bound p1 p2⟩
    unfold gN gpI
    rw [if_pos ⟨by rw [inR_P]; exact p1, by rw [inR_P]; exact p2⟩]
    rfl
  have hs : ∀ i, i ≤ l.length → sgN (gN (plX l) (plY l) l.length) i = su (fun i => gapP (l.getD i z33) (l.getD ((i + 1) % l.length) z33)) i ∧ 0 ≤ su (fun i => gapP (l.getD i z33) (l.getD ((i + 1) % l.length) z33)) i ∧ su (fun i => gapP (l.getD i z33) (l.getD ((i + 1) % l.length) z33)) i ≤ 40000 * i := by
    intro i
    induction i with
    | zero => intro _; exact ⟨rfl, by simp [su], by simp [su]⟩
    | succ i ih =>
      intro hi
      obtain ⟨a1, a2, a3⟩ := ih (by omega)
      obtain ⟨b1, b2, b3⟩ := hg i (by omega)
      have es : su (fun i => gapP (l.getD i z33) (l.getD ((i + 1) % l.length) z33)) (i + 1) = su (fun i => gapP (l.getD i z33) (l.getD ((i + 1) % l.length) z33)) i + gapP (l.getD i z33) (l.getD ((i + 1) % l.length) z33) := rfl
      refine ⟨?_, by rw [es]; omega, by rw [es]; push_cast; omega⟩
      rw [sgN, a1, b1, es]
      exact w64 (by omega) (by omega)
  have h := hs l.length (Nat.le_refl _)
  rw [su_cyc gapP z33 l (by omega)] at h
  unfold edge
  omega
theorem inside {l : List S33} (h : prB l = true) : ∃ x, impl_PolyInside.f l = some x ∧ 2 * x = area l - edge l + 2 := by
  have hv := okB_vd (prB_ok h)
  have hp := (prB_iff.1 h).2
  obtain ⟨e1, e2, e3⟩ := edge_sg hv
  obtain ⟨a1, a2, a3⟩ := area_eq hv
  have hpar := cyc_par l
  rw [← area_cyc (by have := (vdB_ok hv).1; omega)] at hpar
  change (area l - edge l) % 2 = 0 at hpar
  refine ⟨Int.tdiv (area l - edge l + 2) 2, ?_, ?_⟩
  · unfold impl_PolyInside.f impl_PolyInside.v abI
    rw [if_pos (prB_ok h), a1, e1, if_neg (by omega), w64 (n := area l - edge l) (by omega) (by omega), w64 (n := area l - edge l + 2) (by omega) (by omega), w64]
    · have := Int.tdiv_eq_ediv (a := area l - edge l + 2) (b := 2); split at this <;> omega
    · have := Int.tdiv_eq_ediv (a := area l - edge l + 2) (b := 2); split at this <;> omega
  · have := Int.mul_tdiv_add_tmod (area l - edge l + 2) 2
    have h2 : Int.tmod (area l - edge l + 2) 2 = 0 := Int.tmod_eq_zero_of_dvd (Int.dvd_of_emod_eq_zero (by omega))
    omega
end Go.Proofs.Ytfonigbkoligmaa.Cr

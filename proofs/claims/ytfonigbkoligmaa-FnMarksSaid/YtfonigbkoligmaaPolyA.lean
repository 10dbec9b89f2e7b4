import Derived.Test.YtfonigbkoligmaaCrossA0
import Derived.Test.YtfonigbkoligmaaPx2
import Derived.Test.YtfonigbkoligmaaPx3
set_option linter.unusedVariables false
set_option linter.unusedSimpArgs false
namespace Go.Proofs.Ytfonigbkoligmaa.Cr
open Go.RowKit Go.Proofs.Ytfonigbkoligmaa.P Go.Proofs.YtfonigbkoligmaaW.PrintWords Go.Proofs.YtfonigbkoligmaaW.PrintLast Go.Proofs.YtfonigbkoligmaaW.PrintMore Go.Proofs.Ytfonigbkoligmaa.Ev
theorem sdP_eq {ax ay bx by_ cx cy : Int} (ha : okP ax ay = true) (hb : okP bx by_ = true) (hc : okP cx cy = true) : sdP ax ay bx by_ cx cy = (sd ax ay bx by_ cx cy, true) := by
  unfold sdP
  rw [if_pos ⟨by rw [inR_P]; exact ha, by rw [inR_P]; exact hb, by rw [inR_P]; exact hc⟩, sdI_eq ha hb hc]
theorem onB_eq {ax ay bx by_ cx cy : Int} (ha : okP ax ay = true) (hb : okP bx by_ = true) (hc : okP cx cy = true) : onB ax ay bx by_ cx cy = decide (On ax ay bx by_ cx cy) := by
  unfold onB
  rw [sdP_eq ha hb hc, Bool.eq_iff_iff]
  simp only [Bool.true_and, Bool.and_eq_true, beq_iff_eq, decide_eq_true_eq]
  unfold On sd
  rw [sg0, box_iff, box_iff]
theorem meetB_eq {ax ay bx by_ cx cy dx dy : Int} (ha : okP ax ay = true) (hb : okP bx by_ = true) (hc : okP cx cy = true) (hd : okP dx dy = true) : meetB ax ay bx by_ cx cy dx dy = decide (Meet ax ay bx by_ cx cy dx dy) := by
  unfold meetB
  rw [onB_eq ha hb hc, onB_eq ha hb hd, onB_eq hc hd ha, onB_eq hc hd hb, sdP_eq ha hb hc, sdP_eq ha hb hd, sdP_eq hc hd ha, sdP_eq hc hd hb]
  simp only [sd_mul_w]
  rw [Bool.eq_iff_iff]
  simp only [Bool.or_eq_true, Bool.and_eq_true, decide_eq_true_eq]
  rfl
def S3 (ax ay bx by_ cx cy : Int) : Int := cr (bx - ax) (by_ - ay) (cx - ax) (cy - ay)
theorem S3_rot (ax ay bx by_ cx cy : Int) : S3 bx by_ cx cy ax ay = S3 ax ay bx by_ cx cy := by unfold S3 cr; grind
theorem onB_ne {ax ay bx by_ cx cy : Int} (ha : okP ax ay = true) (hb : okP bx by_ = true) (hc : okP cx cy = true) (h : S3 ax ay bx by_ cx cy ≠ 0) : onB ax ay bx by_ cx cy = false := by
  rw [onB_eq ha hb hc, decide_eq_false_iff_not]
  exact fun ho => h ho.1
def arZ (X Y : Nat → Int) (n : Nat) : Nat → Int
  | 0 => 0
  | i + 1 => arZ X Y n i + cr (X i) (Y i) (X ((i + 1) % n)) (Y ((i + 1) % n))
theorem arN_eq {X Y : Nat → Int} {n : Nat} (hn : n ≤ 12) (hv : ∀ i, i < n → okP (X i) (Y i) = true) : ∀ i, i ≤ n → arN X Y n i = arZ X Y n i ∧ -(i * 800000000 : Int) ≤ arZ X Y n i ∧ arZ X Y n i ≤ i * 800000000 := by
  intro i
  induction i with
  | zero => intro _; exact ⟨rfl, by simp [arZ], by simp [arZ]⟩
  | succ i ih =>
    intro hi
    obtain ⟨h1, h2, h3⟩ := ih (by omega)
    have v1 := okP_iff.1 (hv i (by omega))
    have v2 := okP_iff.1 (hv ((i + 1) % n) (Nat.mod_lt _ (by omega)))
    have hc := cr_bound (x := X i) (y := Y i) (a := X ((i + 1) % n)) (b := Y ((i + 1) % n)) (by omega) (by omega) (by omega) (by omega)
    have he := crI_eq (x := X i) (y := Y i) (a := X ((i + 1) % n)) (b := Y ((i + 1) % n)) (by omega) (by omega) (by omega) (by omega)
    refine ⟨?_, ?_, ?_⟩
    · rw [arN, arZ, he, h1, w64 (by omega) (by omega)]
    · rw [arZ]; push_cast; omega
    · rw [arZ]; push_cast; omega
def area (l : List S33) : Int := arZ (plX l) (plY l) l.length l.length
theorem vdB_ok {l : List S33} (h : vdB l = true) : 3 ≤ l.length ∧ l.length ≤ 12 ∧ ∀ i, i < l.length → okP (plX l i) (plY l i) = true := by
  have h := vdB_iff.1 h
  exact ⟨h.1, h.2.1, fun i hi => by rw [← inR_P]; exact h.2.2 i hi⟩
theorem area_eq {l : List S33} (h : vdB l = true) : arN (plX l) (plY l) l.length l.length = area l ∧ -9600000000 ≤ area l ∧ area l ≤ 9600000000 := by
  obtain ⟨h1, h2, h3⟩ := vdB_ok h
  have := arN_eq h2 h3 l.length (Nat.le_refl _)
  unfold area
  omega
theorem prB_iff {l : List S33} : prB l = true ↔ okB l = true ∧ 0 < area l := by
  unfold prB
  rw [Bool.and_eq_true, decide_eq_true_iff]
  constructor
  · rintro ⟨h1, h2⟩; rw [(area_eq (okB_vd h1)).1] at h2; exact ⟨h1, h2⟩
  · rintro ⟨h1, h2⟩; rw [(area_eq (okB_vd h1)).1]; exact ⟨h1, h2⟩
end Go.Proofs.Ytfonigbkoligmaa.Cr

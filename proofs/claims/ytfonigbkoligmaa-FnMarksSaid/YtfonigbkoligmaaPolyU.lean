import Derived.Test.YtfonigbkoligmaaPolyR
import Derived.Test.YtfonigbkoligmaaPolyG
set_option linter.unusedVariables false
set_option linter.unusedSimpArgs false
namespace Go.Proofs.Ytfonigbkoligmaa.Cr
open Go.RowKit Go.Proofs.Ytfonigbkoligmaa.P Go.Proofs.YtfonigbkoligmaaW.PrintWords Go.Proofs.YtfonigbkoligmaaW.PrintLast Go.Proofs.YtfonigbkoligmaaW.PrintMore Go.Proofs.Ytfonigbkoligmaa.Ev
def rotL (l : List S33) (m : Nat) : List S33 := l.drop m ++ l.take m
theorem rot_len {l : List S33} {m : Nat} : (rotL l m).length = l.length := by unfold rotL; simp; omega
theorem rot_getD {l : List S33} {m i : Nat} (hm : m ≤ l.length) (hi : i < l.length) (z : S33) : (rotL l m).getD i z = l.getD ((i + m) % l.length) z := by
  unfold rotL
  rw [List.getD_eq_getElem?_getD, List.getD_eq_getElem?_getD, List.getElem?_append]
  congr 1
  by_cases h : i < l.length - m
  · rw [if_pos (by simp; omega), List.getElem?_drop, Nat.mod_eq_of_lt (by omega), Nat.add_comm]
  · rw [if_neg (by simp; omega), List.length_drop, List.getElem?_take_of_lt (by omega)]
    have e : (i + m) % l.length = i - (l.length - m) := by
      rw [show i + m = (i - (l.length - m)) + l.length by omega, Nat.add_mod_right, Nat.mod_eq_of_lt (by omega)]
    rw [e]
theorem rot_X {l : List S33} {m i : Nat} (hm : m ≤ l.length) (hi : i < l.length) : plX (rotL l m) i = plX l ((i + m) % l.length) := congrArg (·.f0) (rot_getD hm hi z33)
theorem rot_Y {l : List S33} {m i : Nat} (hm : m ≤ l.length) (hi : i < l.length) : plY (rotL l m) i = plY l ((i + m) % l.length) := congrArg (·.f1) (rot_getD hm hi z33)
theorem okB_rot {l : List S33} {m : Nat} (hm : m ≤ l.length) (h : okB l = true) : okB (rotL l m) = true := by
  have hv := vdB_iff.1 (okB_vd h)
  unfold okB at h ⊢
  rw [Bool.and_eq_true] at h ⊢
  refine ⟨vdB_iff.2 ⟨by rw [rot_len]; exact hv.1, by rw [rot_len]; exact hv.2.1, fun i hi => ?_⟩, ?_⟩
  · rw [rot_len] at hi
    rw [rot_X hm hi, rot_Y hm hi]
    exact hv.2.2 _ (Nat.mod_lt _ (by omega))
  · rw [smB_iff, rot_len]
    exact simp_rot (by omega) (fun i hi => rot_X hm hi) (fun i hi => rot_Y hm hi) (smB_iff.1 h.2)
theorem cyc_rot (e : S33 → S33 → Int) (l : List S33) (m : Nat) : cycE e (rotL l m) = cycE e l := by
  unfold rotL
  rw [cycE_rot, List.take_append_drop]
theorem area_rot {l : List S33} {m : Nat} (h : 0 < l.length) : area (rotL l m) = area l := by
  rw [area_cyc (by rw [rot_len]; exact h), area_cyc h, cyc_rot]
theorem prB_rot {l : List S33} {m : Nat} (hm : m ≤ l.length) (h : prB l = true) : prB (rotL l m) = true := by
  obtain ⟨h1, h2⟩ := prB_iff.1 h
  have h3 := vdB_ok (okB_vd h1)
  exact prB_iff.2 ⟨okB_rot hm h1, by rw [area_rot (by omega)]; exact h2⟩
end Go.Proofs.Ytfonigbkoligmaa.Cr

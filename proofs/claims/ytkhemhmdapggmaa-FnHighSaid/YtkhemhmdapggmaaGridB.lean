/- Chapter 41, plain: how many are high. No program in sight. -/
import Derived.Test.YtkhemhmdapggmaaGS
import Derived.Test.YtkhemhmdapggmaaPx14
set_option linter.unusedVariables false
set_option linter.unusedSimpArgs false
namespace Go.Proofs.Ytkhemhmdapggmaa.GridA
open Go.RowKit Go.Proofs.Ytkhemhmdapggmaa.P Go.Proofs.YtkhemhmdapggmaaW.PrintWords Go.Proofs.YtkhemhmdapggmaaW.PrintLast Go.Proofs.YtkhemhmdapggmaaW.PrintMore Go.Proofs.Ytkhemhmdapggmaa.Ev Go.Proofs.Ytkhemhmdapggmaa.Ints
/-- 1 for a high height. -/
def hi (lv x : Int) : Int := if lv ≤ x then 1 else 0
theorem hiRow_rs (lv : Int) (r : List Int) : hiRow lv r = rs (hi lv) r := by
  induction r with
  | nil => rfl
  | cons x r ih => rw [hiRow, ih, rs_cons]; rfl
theorem hiAll_gs (lv : Int) (g : List (List Int)) : hiAll lv g = gs (hi lv) g := by
  induction g with
  | nil => rfl
  | cons r g ih => rw [hiAll, ih, gs_cons, hiRow_rs]
theorem okG_small6 {g : List (List Int)} (h : okG g = true) : small6 g = true := by
  obtain ⟨h1, h2, h3⟩ := okG_of h
  unfold small6
  rw [decide_eq_true h1.2, Bool.true_and, List.all_eq_true]
  intro r hr
  have := (h3 r hr).1
  rw [decide_eq_true_eq]; omega
def highV (g : List (List Int)) (lv : Int) : Int := if okG g then gs (hi lv) g else -1
theorem implHigh (g : List (List Int)) (lv : Int) : EvQ (fun k => impl_GridHigh.f k g lv) (fun r => r = highV g lv) := by
  unfold impl_GridHigh.f highV
  refine EvQ.call (implValid g) (EvQ.ite (fun h => ?_) (fun h => EvQ.ret (by simp [h])))
  rw [h, hiAll_gs]
  exact EvQ.pos (okG_small6 h) (EvQ.ret rfl)
theorem hi_range (lv x : Int) : 0 ≤ hi lv x ∧ hi lv x ≤ 1 := by unfold hi; split <;> omega
theorem rs_one (r : List Int) : rs (fun _ => 1) r = r.length := by
  induction r with
  | nil => rfl
  | cons x r ih => rw [rs_cons, ih, List.length_cons]; push_cast; omega
theorem rs_scale (c : Int) (f : Int → Int) (r : List Int) : rs (fun x => c * f x) r = c * rs f r := by
  induction r with
  | nil => simp [rs]
  | cons x r ih => rw [rs_cons, rs_cons, ih, Int.mul_add]
theorem gs_scale (c : Int) (f : Int → Int) (g : List (List Int)) : gs (fun x => c * f x) g = c * gs f g := by
  induction g with
  | nil => simp [gs]
  | cons r g ih => rw [gs_cons, gs_cons, ih, rs_scale, Int.mul_add]
theorem gs_one {g : List (List Int)} {c : Nat} (h : ∀ r ∈ g, r.length = c) : gs (fun _ => 1) g = (g.length : Int) * c := by
  induction g with
  | nil => simp [gs]
  | cons r g ih => rw [gs_cons, ih (fun y hy => h y (by simp [hy])), rs_one, h r (by simp), List.length_cons]; push_cast; rw [Int.add_mul]; omega
theorem okG_one {g : List (List Int)} (h : okG g = true) : gs (fun _ => 1) g = (g.length : Int) * cols g := gs_one (fun r hr => ((okG_of h).2.2 r hr).1)
theorem okG_n {g : List (List Int)} (h : okG g = true) : 4 ≤ (g.length : Int) * cols g ∧ (g.length : Int) * cols g ≤ 36 := by
  obtain ⟨h1, h2, _⟩ := okG_of h
  have a : (2 : Int) * 2 ≤ (g.length : Int) * cols g := Int.mul_le_mul (by omega) (by omega) (by omega) (by omega)
  have b : (g.length : Int) * cols g ≤ 6 * 6 := Int.mul_le_mul (by omega) (by omega) (by omega) (by omega)
  omega
/-- Rows times columns, as the laws write it. -/
theorem okG_wn {g : List (List Int)} (h : okG g = true) : wrap64 ((g.length : Int) * ((rd_L1 g 0).length : Int)) = (g.length : Int) * cols g := by
  rw [rdG_zero]
  have := okG_n h
  exact w64 (by unfold cols at this; omega) (by unfold cols at this; omega)
end Go.Proofs.Ytkhemhmdapggmaa.GridA

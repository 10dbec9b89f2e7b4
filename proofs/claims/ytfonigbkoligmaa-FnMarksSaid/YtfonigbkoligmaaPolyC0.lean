import Derived.Test.YtfonigbkoligmaaPolyA
import Derived.Test.YtfonigbkoligmaaPx2
import Derived.Test.YtfonigbkoligmaaPx3
set_option linter.unusedVariables false
set_option linter.unusedSimpArgs false
namespace Go.Proofs.Ytfonigbkoligmaa.Cr
open Go.RowKit Go.Proofs.Ytfonigbkoligmaa.P Go.Proofs.YtfonigbkoligmaaW.PrintWords Go.Proofs.YtfonigbkoligmaaW.PrintLast Go.Proofs.YtfonigbkoligmaaW.PrintMore Go.Proofs.Ytfonigbkoligmaa.Ev
def pathE (e : S33 → S33 → Int) : List S33 → Int
  | x :: y :: t => e x y + pathE e (y :: t)
  | _ => 0
theorem pathE_append (e : S33 → S33 → Int) (p : S33) (v : List S33) : ∀ u : List S33, pathE e (u ++ p :: v) = pathE e (u ++ [p]) + pathE e (p :: v) := by
  intro u
  induction u with
  | nil => simp [pathE]
  | cons x u ih =>
    cases u with
    | nil => simp [pathE]
    | cons y u =>
      simp only [List.cons_append, pathE] at ih ⊢
      omega
def cycE (e : S33 → S33 → Int) : List S33 → Int
  | [] => 0
  | x :: t => pathE e (x :: t ++ [x])
def su (g : Nat → Int) : Nat → Int
  | 0 => 0
  | i + 1 => su g i + g i
theorem su_path (e : S33 → S33 → Int) (z : S33) (l : List S33) : ∀ i, i < l.length → su (fun i => e (l.getD i z) (l.getD ((i + 1) % l.length) z)) i = pathE e (l.take (i + 1)) := by
  intro i
  induction i with
  | zero => intro h; cases l with | nil => simp at h | cons x t => simp [su, pathE]
  | succ i ih =>
    intro h
    rw [su, ih (by omega), Nat.mod_eq_of_lt h]
    have g1 : l.getD i z = l[i] := by simp [List.getD_eq_getElem?_getD, show i < l.length by omega]
    have g2 : l.getD (i + 1) z = l[i + 1] := by simp [List.getD_eq_getElem?_getD, h]
    have e2 : l.take (i + 1) = l.take i ++ [l.getD i z] := by
      rw [g1]; exact List.take_succ_eq_append_getElem (show i < l.length by omega)
    have e1 : l.take (i + 1 + 1) = l.take i ++ l.getD i z :: [l.getD (i + 1) z] := by
      rw [List.take_succ_eq_append_getElem h, e2, g2, List.append_assoc]; rfl
    have k1 := pathE_append e (l.getD i z) [l.getD (i + 1) z] (l.take i)
    rw [e1, e2, k1]
    simp only [pathE]
    omega
theorem su_cyc (e : S33 → S33 → Int) (z : S33) (l : List S33) (h : 0 < l.length) : su (fun i => e (l.getD i z) (l.getD ((i + 1) % l.length) z)) l.length = cycE e l := by
  obtain ⟨m, hm⟩ : ∃ m, l.length = m + 1 := ⟨l.length - 1, by omega⟩
  have h1 := su_path e z l m (by omega)
  have h2 : su (fun i => e (l.getD i z) (l.getD ((i + 1) % l.length) z)) l.length = su (fun i => e (l.getD i z) (l.getD ((i + 1) % l.length) z)) m + e (l.getD m z) (l.getD 0 z) := by
    rw [hm, su]
    simp
  rw [h2, h1, List.take_of_length_le (by omega)]
  cases l with
  | nil => simp at h
  | cons x t =>
    have e1 : x :: t = (x :: t).take m ++ [(x :: t).getD m z] := by
      have := List.take_succ_eq_append_getElem (l := x :: t) (i := m) (by omega)
      rw [List.take_of_length_le (by omega)] at this
      rw [List.getD_eq_getElem?_getD, List.getElem?_eq_getElem (by omega)]
      exact this
    show _ = pathE e (x :: t ++ [x])
    have e2 : x :: t ++ [x] = (x :: t).take m ++ (x :: t).getD m z :: [x] := by
      conv => lhs; rw [e1]
      simp
    rw [e2, pathE_append, ← e1]
    simp [pathE]
def crP (a b : S33) : Int := cr a.f0 a.f1 b.f0 b.f1
theorem arZ_su (l : List S33) (n : Nat) : ∀ i, arZ (plX l) (plY l) n i = su (fun i => crP (l.getD i z33) (l.getD ((i + 1) % n) z33)) i := by
  intro i
  induction i with
  | zero => rfl
  | succ i ih => rw [arZ, su, ih]; rfl
theorem area_cyc {l : List S33} (h : 0 < l.length) : area l = cycE crP l := by
  unfold area
  rw [arZ_su]
  exact su_cyc crP _ l h
theorem polyArea {l : List S33} (h : vdB l = true) : impl_PolyArea.f l = some (area l, true) := by
  unfold impl_PolyArea.f impl_PolyArea.v
  rw [if_pos h, (area_eq h).1]
end Go.Proofs.Ytfonigbkoligmaa.Cr

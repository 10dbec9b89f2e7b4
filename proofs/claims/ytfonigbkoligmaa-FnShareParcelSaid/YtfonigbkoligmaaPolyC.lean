import Derived.Test.YtfonigbkoligmaaPolyA
import Derived.Test.YtfonigbkoligmaaPx6
set_option linter.unusedVariables false
set_option linter.unusedSimpArgs false
namespace Go.Proofs.Ytfonigbkoligmaa.Cr
open Go.RowKit Go.Proofs.Ytfonigbkoligmaa.P Go.Proofs.YtfonigbkoligmaaW.PrintWords Go.Proofs.YtfonigbkoligmaaW.PrintLast Go.Proofs.YtfonigbkoligmaaW.PrintMore Go.Proofs.Ytfonigbkoligmaa.Ev
def pathE (e : S33 → S33 → Int) : List S33 → Int
  | x :: y :: t => e x y + pathE e (y :: t)
  | _ => 0
theorem pathE_append (e : S33 → S33 → Int) (p : S33) (v : List S33) : ∀ u : List S33, pathE e (u ++ p :: v) = pathE e (u ++ [p]) + pathE e (p :: v) := by
  intro u
  induction u with
  | nil => simp [pathE]
  | cons x u ih =>
    cases u with
    | nil => simp [pathE]
    | cons y u =>
      simp only [List.cons_append, pathE] at ih ⊢
      omega
def cycE (e : S33 → S33 → Int) : List S33 → Int
  | [] => 0
  | x :: t => pathE e (x :: t ++ [x])
theorem cycE_split (e : S33 → S33 → Int) (A B C : List S33) (p q : S33) : cycE e (p :: B ++ [q]) + cycE e (q :: C ++ A ++ [p]) = cycE e (A ++ p :: B ++ q :: C) + e q p + e p q := by
  have h1 : cycE e (p :: B ++ [q]) = pathE e (p :: B ++ [q]) + e q p := by
    show pathE e (p :: B ++ [q] ++ [p]) = _
    rw [show p :: B ++ [q] ++ [p] = (p :: B) ++ q :: [p] by simp, pathE_append]
    simp [pathE]
  have h2 : cycE e (q :: C ++ A ++ [p]) = pathE e (q :: C ++ A ++ [p]) + e p q := by
    show pathE e (q :: C ++ A ++ [p] ++ [q]) = _
    rw [show q :: C ++ A ++ [p] ++ [q] = (q :: C ++ A) ++ p :: [q] by simp, pathE_append]
    simp [pathE]
  have h3 : cycE e (A ++ p :: B ++ q :: C) = pathE e (p :: B ++ [q]) + pathE e (q :: C ++ A ++ [p]) := by
    cases A with
    | nil =>
      show pathE e (p :: B ++ q :: C ++ [p]) = _
      rw [show p :: B ++ q :: C ++ [p] = (p :: B) ++ q :: (C ++ [p]) by simp, pathE_append]
      simp
    | cons a A =>
      show pathE e (a :: A ++ p :: B ++ q :: C ++ [a]) = _
      have k1 := pathE_append e p (B ++ q :: (C ++ [a])) (a :: A)
      have k2 := pathE_append e q (C ++ [a]) (p :: B)
      have k3 := pathE_append e a (A ++ [p]) (q :: C)
      simp only [List.cons_append, List.append_assoc, List.nil_append] at k1 k2 k3 ⊢
      omega
  omega
def su (g : Nat → Int) : Nat → Int
  | 0 => 0
  | i + 1 => su g i + g i
theorem su_path (e : S33 → S33 → Int) (z : S33) (l : List S33) : ∀ i, i < l.length → su (fun i => e (l.getD i z) (l.getD ((i + 1) % l.length) z)) i = pathE e (l.take (i + 1)) := by
  intro i
  induction i with
  | zero => intro h; cases l with | nil => simp at h | cons x t => simp [su, pathE]
  | succ i ih =>
    intro h
    rw [su, ih (by omega), Nat.mod_eq_of_lt h]
    have g1 : l.getD i z = l[i] := by simp [List.getD_eq_getElem?_getD, show i < l.length by omega]
    have g2 : l.getD (i + 1) z = l[i + 1] := by simp [List.getD_eq_getElem?_getD, h]
    have e2 : l.take (i + 1) = l.take i ++ [l.getD i z] := by
      rw [g1]; exact List.take_succ_eq_append_getElem (show i < l.length by omega)
    have e1 : l.take (i + 1 + 1) = l.take i ++ l.getD i z :: [l.getD (i + 1) z] := by
      rw [List.take_succ_eq_append_getElem h, e2, g2, List.append_assoc]; rfl
    have k1 := pathE_append e (l.getD i z) [l.getD (i + 1) z] (l.take i)
    rw [e1, e2, k1]
    simp only [pathE]
    omega
theorem su_cyc (e : S33 → S33 → Int) (z : S33) (l : List S33) (h : 0 < l.length) : su (fun i => e (l.getD i z) (l.getD ((i + 1) % l.length) z)) l.length = cycE e l := by
  obtain ⟨m, hm⟩ : ∃ m, l.length = m + 1 := ⟨l.length - 1, by omega⟩
  have h1 := su_path e z l m (by omega)
  have h2 : su (fun i => e (l.getD i z) (l.getD ((i + 1) % l.length) z)) l.length = su (fun i => e (l.getD i z) (l.getD ((i + 1) % l.length) z)) m + e (l.getD m z) (l.getD 0 z) := by
    rw [hm, su]
    simp
  rw [h2, h1, List.take_of_length_le (by omega)]
  cases l with
  | nil => simp at h
  | cons x t =>
    have e1 : x :: t = (x :: t).take m ++ [(x :: t).getD m z] := by
      have := List.take_succ_eq_append_getElem (l := x :: t) (i := m) (by omega)
      rw [List.take_of_length_le (by omega)] at this
      rw [List.getD_eq_getElem?_getD, List.getElem?_eq_getElem (by omega)]
      exact this
    show _ = pathE e (x :: t ++ [x])
    have e2 : x :: t ++ [x] = (x :: t).take m ++ (x :: t).getD m z :: [x] := by
      conv => lhs; rw [e1]
      simp
    rw [e2, pathE_append, ← e1]
    simp [pathE]
def crP (a b : S33) : Int := cr a.f0 a.f1 b.f0 b.f1
theorem crP_flip (a b : S33) : crP b a = -crP a b := by unfold crP cr; grind
theorem arZ_su (l : List S33) (n : Nat) : ∀ i, arZ (plX l) (plY l) n i = su (fun i => crP (l.getD i z33) (l.getD ((i + 1) % n) z33)) i := by
  intro i
  induction i with
  | zero => rfl
  | succ i ih => rw [arZ, su, ih]; rfl
theorem area_cyc {l : List S33} (h : 0 < l.length) : area l = cycE crP l := by
  unfold area
  rw [arZ_su]
  exact su_cyc crP _ l h
def partA (l : List S33) (i j : Nat) : List S33 := (l.take (j + 1)).drop i
def partB (l : List S33) (i j : Nat) : List S33 := l.drop j ++ l.take (i + 1)
theorem parts {l : List S33} {i j : Nat} (hij : i < j) (hj : j < l.length) : ∃ A B C p q, l = A ++ p :: B ++ q :: C ∧ partA l i j = p :: B ++ [q] ∧ partB l i j = q :: C ++ A ++ [p] ∧ A.length = i ∧ p = l.getD i z33 ∧ q = l.getD j z33 := by
  have hi : i < l.length := by omega
  have e0 : l[i] :: (l.take j).drop (i + 1) = (l.take j).drop i := by
    have := List.drop_eq_getElem_cons (l := l.take j) (i := i) (by simp; omega)
    rw [this]; simp
  have e1 := List.drop_eq_getElem_cons hj
  have e2 : l.take (j + 1) = l.take j ++ [l[j]] := List.take_succ_eq_append_getElem hj
  have e3 : l.take (i + 1) = l.take i ++ [l[i]] := List.take_succ_eq_append_getElem hi
  have e4 : l.take i ++ (l.take j).drop i = l.take j := by
    have := List.take_append_drop i (l.take j)
    rw [List.take_take, Nat.min_eq_left (by omega)] at this
    exact this
  refine ⟨l.take i, (l.take j).drop (i + 1), l.drop (j + 1), l[i], l[j], ?_, ?_, ?_, by simp; omega, by simp [List.getD_eq_getElem?_getD, hi], by simp [List.getD_eq_getElem?_getD, hj]⟩
  · rw [← e1, List.append_assoc, e0, ← List.append_assoc, e4, List.take_append_drop]
  · unfold partA
    rw [e2, List.drop_append_of_le_length (by simp; omega), ← e0]
  · unfold partB
    rw [e1, e3, ← List.append_assoc]
theorem area_parts {l : List S33} {i j : Nat} (hij : i < j) (hj : j < l.length) : area (partA l i j) + area (partB l i j) = area l := by
  obtain ⟨A, B, C, p, q, h1, h2, h3, _⟩ := parts hij hj
  rw [h2, h3, area_cyc (by simp), area_cyc (by simp), area_cyc (by omega), cycE_split, ← h1]
  have := crP_flip p q
  omega
def splitV (l : List S33) (i j : Int) : List S33 × List S33 × Bool :=
  if prB l = true ∧ 0 ≤ i ∧ i < j ∧ j < (l.length : Int) ∧ prB (partA l i.toNat j.toNat) = true ∧ prB (partB l i.toNat j.toNat) = true then (partA l i.toNat j.toNat, partB l i.toNat j.toNat, true) else ([], [], false)
theorem splitQ (l : List S33) (i j : Int) : EvQ (fun k => impl_ParcelSplit.f k l i j) (fun r => r = splitV l i j) := by
  unfold impl_ParcelSplit.f impl_ParcelValid.f impl_ParcelValid.v
  simp only [Option.bind_some]
  have hno : ∀ b : Bool, b = true → ¬ (prB l = true ∧ 0 ≤ i ∧ i < j ∧ j < (l.length : Int)) → EvQ (fun k => impl_ParcelSplit.j0 k l i j b) (fun r => r = splitV l i j) := by
    rintro _ rfl hn
    refine EvQ.step (fun k => by simp only [impl_ParcelSplit.j0]; rfl) ?_
    refine EvQ.pos (by trivial) (EvQ.ret ?_)
    unfold splitV
    rw [if_neg (fun h => hn ⟨h.1, h.2.1, h.2.2.1, h.2.2.2.1⟩)]
  refine EvQ.ite (fun hp => ?_) (fun hp => hno _ rfl (fun h => hp h.1))
  refine EvQ.ite (fun h0 => hno _ rfl (fun h => by omega)) (fun h0 => ?_)
  refine EvQ.ite (fun h1 => hno _ rfl (fun h => by omega)) (fun h1 => ?_)
  by_cases h2 : j < (l.length : Int)
  · have hl := vdB_ok (okB_vd (prB_ok hp))
    refine EvQ.step (fun k => by simp only [impl_ParcelSplit.j0]; rfl) ?_
    refine EvQ.neg (by simpa using h2) ?_
    have w1 : wrap64 (j + 1) = j + 1 := w64 (by omega) (by omega)
    have w2 : wrap64 (i + 1) = i + 1 := w64 (by omega) (by omega)
    rw [w1, w2]
    simp only [Option.bind_some]
    refine EvQ.pos (by omega) (EvQ.pos (by omega) (EvQ.pos (by omega) (EvQ.pos (by simp; omega) (EvQ.pos (by omega) (EvQ.pos (by omega) (EvQ.pos (by simp; omega) (EvQ.pos (by omega) (EvQ.pos (by omega) (EvQ.pos (by simp; omega) ?_)))))))))
    unfold impl_ParcelValid.f impl_ParcelValid.v
    simp only [Option.bind_some, List.nil_append]
    have ea : (l.take (j + 1).toNat).drop i.toNat = partA l i.toNat j.toNat := by unfold partA; rw [show (j + 1).toNat = j.toNat + 1 by omega]
    have eb : l.drop j.toNat ++ l.take (i + 1).toNat = partB l i.toNat j.toNat := by unfold partB; rw [show (i + 1).toNat = i.toNat + 1 by omega]
    rw [ea, eb]
    unfold splitV
    refine EvQ.ite (fun ha => EvQ.ite (fun hb => EvQ.ret ?_) (fun hb => EvQ.ret ?_)) (fun ha => EvQ.ret ?_)
    · rw [if_pos ⟨hp, by omega, by omega, h2, ha, hb⟩]
    · rw [if_neg (fun h => hb h.2.2.2.2.2)]
    · rw [if_neg (fun h => ha h.2.2.2.2.1)]
  · exact hno _ (by simpa using h2) (fun h => h2 h.2.2.2)
theorem polyArea {l : List S33} (h : vdB l = true) : impl_PolyArea.f l = some (area l, true) := by
  unfold impl_PolyArea.f impl_PolyArea.v
  rw [if_pos h, (area_eq h).1]
end Go.Proofs.Ytfonigbkoligmaa.Cr

import Derived.Test.YtolkcbnolbkgmaaCloseB
import Derived.Test.YtolkcbnolbkgmaaPx7
set_option linter.unusedVariables false
set_option linter.unusedSimpArgs false
namespace Go.Proofs.Ytolkcbnolbkgmaa.TravA
open Go.RowKit Go.Proofs.Ytolkcbnolbkgmaa.P Go.Proofs.YtolkcbnolbkgmaaW.PrintWords Go.Proofs.YtolkcbnolbkgmaaW.PrintLast Go.Proofs.YtolkcbnolbkgmaaW.PrintMore Go.Proofs.Ytolkcbnolbkgmaa.Ev
def okP (x y : Int) : Bool := decide (-10000 ≤ x ∧ x ≤ 10000) && decide (-10000 ≤ y ∧ y ≤ 10000)
theorem okP_iff {x y : Int} : okP x y = true ↔ (-10000 ≤ x ∧ x ≤ 10000) ∧ (-10000 ≤ y ∧ y ≤ 10000) := by
  unfold okP; simp only [Bool.and_eq_true, decide_eq_true_eq]
theorem inR_P (x y : Int) : inR x y 10000 = okP x y := by
  unfold inR okP
  rw [show wrap64 (-10000) = -10000 from w64 (by omega) (by omega)]
theorem inR_T (x y : Int) : inR x y 20000 = okT ⟨x, y⟩ := by
  unfold inR okT
  rw [show wrap64 (-20000) = -20000 from w64 (by omega) (by omega)]
theorem mv_eq (x y : Int) (p : Pt) : mvP x y p.f0 p.f1 = if okP x y = true ∧ okT p = true ∧ okP (wrap64 (x + p.f0)) (wrap64 (y + p.f1)) = true then (wrap64 (x + p.f0), wrap64 (y + p.f1), true) else (0, 0, false) := by
  unfold mvP; rw [inR_P, inR_P, inR_T]
def ptsV (x y : Int) (l : List Pt) : List Pt × Bool := if okP x y && okTr l then (if wkOk l x y l.length = true then (wkP l x y l.length, true) else ([], false)) else ([], false)
theorem implPoints {l : List Pt} (x y : Int) (hl : l.length ≤ 1048576) : EvQ (fun k => impl_TravelPoints.f k x y l) (fun r => r = ptsV x y l) := by
  unfold impl_TravelPoints.f ptsV
  rw [inR_P]
  refine EvQ.ite (fun h0 => EvQ.call (implValid hl) (EvQ.ite (fun h => ?_) (fun h => EvQ.ret (by simp [h])))) (fun h0 => EvQ.ret (by simp [h0]))
  rw [h0, h]
  have h1 := (okTr_of h).1
  refine EvQ.pos (by omega) (EvQ.ite (fun h => EvQ.ret (by simp [h])) (fun h => EvQ.ret (by simp [h])))
theorem wkP_last (l : List Pt) (x y : Int) : ∀ n, rd_T34 (wkP l x y n) (n : Int) = ⟨(wkA l x y n).1, (wkA l x y n).2⟩
  | 0 => rfl
  | n + 1 => by
    unfold wkP rd_T34
    rw [Int.toNat_natCast, List.getD_eq_getElem?_getD, List.getElem?_append_right (by rw [wkP_length]; exact Nat.le_refl _), wkP_length]
    simp
theorem ptsV_true {x y : Int} {l : List Pt} (h : (ptsV x y l).2 = true) : okP x y = true ∧ okTr l = true ∧ wkOk l x y l.length = true ∧ ptsV x y l = (wkP l x y l.length, true) := by
  unfold ptsV at h ⊢
  split at h
  · rename_i h1
    split at h
    · rename_i h2
      simp only [Bool.and_eq_true] at h1
      rw [if_pos (by simp [h1]), if_pos h2]; exact ⟨h1.1, h1.2, h2, rfl⟩
    · simp at h
  · simp at h
def okAt (x y : Int) (l : List Pt) (i : Nat) : Prop := okP (x + gx (l.take i)) (y + gy (l.take i)) = true
theorem wk_of {x y : Int} {l : List Pt} (h0 : okP x y = true) (hT : ∀ p ∈ l, okT p = true) : ∀ n, n ≤ l.length → wkOk l x y n = true → (∀ i, i ≤ n → okAt x y l i) ∧ wkA l x y n = (x + gx (l.take n), y + gy (l.take n))
  | 0, _, _ => by
    refine ⟨fun i hi => ?_, by simp [wkA, gx, gy]⟩
    obtain rfl : i = 0 := by omega
    simpa [okAt, gx, gy] using h0
  | n + 1, hn, hk => by
    have hlt : n < l.length := by omega
    have hs := wk_succ l x y n
    rw [hs.2.1, Bool.and_eq_true] at hk
    obtain ⟨ih1, ih2⟩ := wk_of h0 hT n (by omega) hk.1
    have hk2 := hk.2
    have ht := okT_of (hT _ (List.getElem_mem hlt))
    have h1 := okP_iff.1 (ih1 n (Nat.le_refl n))
    rw [ih2, rdP_get hlt] at hk2 hs
    simp only [] at hk2 hs
    have w1 : wrap64 (x + gx (l.take n) + l[n].f0) = x + gx (l.take n) + l[n].f0 := w64 (by omega) (by omega)
    have w2 : wrap64 (y + gy (l.take n) + l[n].f1) = y + gy (l.take n) + l[n].f1 := w64 (by omega) (by omega)
    rw [mv_eq, w1, w2] at hk2 hs
    split at hk2
    · rename_i hc
      rw [if_pos hc] at hs
      have e1 : gx (l.take (n + 1)) = gx (l.take n) + l[n].f0 := gx_succ hlt
      have e2 : gy (l.take (n + 1)) = gy (l.take n) + l[n].f1 := gy_succ hlt
      refine ⟨fun i hi => ?_, ?_⟩
      · by_cases e : i = n + 1
        · subst e; unfold okAt; rw [e1, e2, ← Int.add_assoc, ← Int.add_assoc]; exact hc.2.2
        · exact ih1 i (by omega)
      · rw [hs.1, e1, e2, Int.add_assoc, Int.add_assoc]
    · simp at hk2
theorem wkP_rd (l : List Pt) (x y : Int) {i : Nat} : ∀ {n : Nat}, i ≤ n → rd_T34 (wkP l x y n) (i : Int) = ⟨(wkA l x y i).1, (wkA l x y i).2⟩
  | n, h => by
    by_cases e : i = n
    · subst e; exact wkP_last l x y i
    · obtain ⟨m, rfl⟩ : ∃ m, n = m + 1 := ⟨n - 1, by omega⟩
      have ih := wkP_rd l x y (i := i) (n := m) (by omega)
      rw [← ih]
      rw [show wkP l x y (m + 1) = wkP l x y m ++ [⟨(wkA l x y (m + 1)).1, (wkA l x y (m + 1)).2⟩] from rfl]
      unfold rd_T34
      rw [Int.toNat_natCast, List.getD_eq_getElem?_getD, List.getD_eq_getElem?_getD, List.getElem?_append_left (by rw [wkP_length]; omega)]
theorem mul_range {x y a b : Int} (hx : -a ≤ x ∧ x ≤ a) (hy : -b ≤ y ∧ y ≤ b) : -(a * b) ≤ x * y ∧ x * y ≤ a * b := by
  have ha : 0 ≤ a := by omega
  have h1 : (x + a) * (b - y) ≥ 0 := Int.mul_nonneg (by omega) (by omega)
  have h2 : (a - x) * (b + y) ≥ 0 := Int.mul_nonneg (by omega) (by omega)
  have h3 : (x + a) * (b + y) ≥ 0 := Int.mul_nonneg (by omega) (by omega)
  have h4 : (a - x) * (b - y) ≥ 0 := Int.mul_nonneg (by omega) (by omega)
  constructor <;> grind
def sN (o : List Pt) : Nat → Int
  | 0 => 0
  | i + 1 => sN o i + gx (o.take i) * (rd_T34 o (i : Int)).f1 - gy (o.take i) * (rd_T34 o (i : Int)).f0
theorem sN_bound {o : List Pt} (ho : okTr o = true) (hp : ∀ i, i ≤ o.length → okAt 0 0 o i) : ∀ i, i ≤ o.length → -(i * 400000000 : Int) ≤ sN o i ∧ sN o i ≤ i * 400000000 := by
  intro i
  induction i with
  | zero => intro _; simp [sN]
  | succ i ih =>
    intro hi
    have ih := ih (by omega)
    have hlt : i < o.length := by omega
    have h1 := okP_iff.1 (hp i (by omega))
    have h2 := okT_of ((okTr_of ho).2 _ (List.getElem_mem hlt))
    have m1 := mul_range (x := gx (o.take i)) (y := o[i].f1) (a := 10000) (b := 20000) (by omega) (by omega)
    have m2 := mul_range (x := gy (o.take i)) (y := o[i].f0) (a := 10000) (b := 20000) (by omega) (by omega)
    unfold sN
    rw [rdP_get hlt]
    push_cast
    omega
theorem pts_rd {o : List Pt} (ho : okTr o = true) (hk : wkOk o 0 0 o.length = true) {i : Nat} (hi : i ≤ o.length) : rd_T34 (wkP o 0 0 o.length) (i : Int) = ⟨gx (o.take i), gy (o.take i)⟩ := by
  have hki : wkOk o 0 0 i = true := by
    cases e : wkOk o 0 0 i with
    | true => rfl
    | false => rw [wkOk_mono hi e] at hk; cases hk
  have h0 : okP 0 0 = true := by decide
  rw [wkP_rd o 0 0 hi, (wk_of h0 (okTr_of ho).2 i hi hki).2, Int.zero_add, Int.zero_add]
theorem pl_take {l : List Pt} {n i : Nat} (hi : i < n) : rd_T34 (l.take n) (i : Int) = rd_T34 l (i : Int) := by
  unfold rd_T34
  rw [Int.toNat_natCast, List.getD_eq_getElem?_getD, List.getD_eq_getElem?_getD, List.getElem?_take, if_pos hi]
theorem area_sum {o : List Pt} (ho : okTr o = true) (h3 : 3 ≤ o.length) (hk : wkOk o 0 0 o.length = true) (hx : gx o = 0) (hy : gy o = 0) :
    impl_PolyArea.f ((wkP o 0 0 o.length).take o.length) = some (sN o o.length, true) := by
  have h0 : okP 0 0 = true := by decide
  obtain ⟨hn, hT⟩ := okTr_of ho
  have hp := (wk_of h0 hT o.length (Nat.le_refl _) hk).1
  have hl : ((wkP o 0 0 o.length).take o.length).length = o.length := by rw [List.length_take, wkP_length]; omega
  have hX : ∀ i, i < o.length → plX ((wkP o 0 0 o.length).take o.length) i = gx (o.take i) ∧ plY ((wkP o 0 0 o.length).take o.length) i = gy (o.take i) := fun i hi => by
    unfold plX plY
    rw [pl_take hi, pts_rd ho hk (by omega)]
    exact ⟨rfl, rfl⟩
  have hv : vdB ((wkP o 0 0 o.length).take o.length) = true := by
    refine vdB_iff.2 ⟨by omega, by omega, fun i hi => ?_⟩
    rw [hl] at hi
    rw [(hX i hi).1, (hX i hi).2, inR_P]
    have := hp i (by omega)
    simpa [okAt] using this
  have ha : ∀ i, i ≤ o.length → arN (plX ((wkP o 0 0 o.length).take o.length)) (plY ((wkP o 0 0 o.length).take o.length)) o.length i = sN o i := by
    intro i
    induction i with
    | zero => intro _; rfl
    | succ i ih =>
      intro hi
      have hlt : i < o.length := by omega
      have b := sN_bound ho hp (i + 1) hi
      have h1 := okP_iff.1 (hp i (by omega))
      have h2 := okP_iff.1 (hp (i + 1) hi)
      have ht := okT_of (hT _ (List.getElem_mem hlt))
      rw [gx_succ hlt, gy_succ hlt] at h2
      have m1 := mul_range (x := gx (o.take i)) (y := gy (o.take i) + o[i].f1) (a := 10000) (b := 10000) (by omega) (by omega)
      have m2 := mul_range (x := gx (o.take i) + o[i].f0) (y := gy (o.take i)) (a := 10000) (b := 10000) (by omega) (by omega)
      have hc : crI (gx (o.take i)) (gy (o.take i)) (plX ((wkP o 0 0 o.length).take o.length) ((i + 1) % o.length)) (plY ((wkP o 0 0 o.length).take o.length) ((i + 1) % o.length)) = gx (o.take i) * o[i].f1 - gy (o.take i) * o[i].f0 := by
        by_cases he : i + 1 = o.length
        · have e1 : gx (o.take (i + 1)) = 0 := by rw [he, List.take_length]; exact hx
          have e2 : gy (o.take (i + 1)) = 0 := by rw [he, List.take_length]; exact hy
          rw [gx_succ hlt] at e1
          rw [gy_succ hlt] at e2
          rw [he, Nat.mod_self, (hX 0 (by omega)).1, (hX 0 (by omega)).2]
          have z1 : gx (o.take 0) = 0 := by simp [gx]
          have z2 : gy (o.take 0) = 0 := by simp [gy]
          have f0 : o[i].f0 = -gx (o.take i) := by omega
          have f1 : o[i].f1 = -gy (o.take i) := by omega
          rw [z1, z2, f0, f1]
          unfold crI
          rw [Int.mul_zero, Int.zero_mul]
          have : gx (o.take i) * -gy (o.take i) - gy (o.take i) * -gx (o.take i) = 0 := by grind
          rw [this, w64 (n := 0) (by omega) (by omega)]
          exact w64 (by omega) (by omega)
        · rw [Nat.mod_eq_of_lt (by omega), (hX (i + 1) (by omega)).1, (hX (i + 1) (by omega)).2, gx_succ hlt, gy_succ hlt]
          unfold crI
          rw [w64 (n := gx (o.take i) * (gy (o.take i) + o[i].f1)) (by omega) (by omega), w64 (n := (gx (o.take i) + o[i].f0) * gy (o.take i)) (by omega) (by omega), w64 (by omega) (by omega)]
          grind
      rw [arN, ih (by omega), (hX i hlt).1, (hX i hlt).2, hc]
      have hs : sN o (i + 1) = sN o i + (gx (o.take i) * o[i].f1 - gy (o.take i) * o[i].f0) := by
        rw [sN, rdP_get hlt]; omega
      rw [hs] at b ⊢
      exact w64 (by omega) (by omega)
  unfold impl_PolyArea.f impl_PolyArea.v
  rw [if_pos hv, hl, ha _ (Nat.le_refl _)]
end Go.Proofs.Ytolkcbnolbkgmaa.TravA

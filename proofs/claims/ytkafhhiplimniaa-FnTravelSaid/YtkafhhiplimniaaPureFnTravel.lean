/- A way goes on: the law holds for all codes of bytes. No condition is added. -/
import Derived.Test.YtkafhhiplimniaaPx36
import Derived.Test.YtkafhhiplimniaaTravF
import Derived.Test.YtkafhhiplimniaaDrawFrom
set_option linter.unusedVariables false
set_option linter.unusedSimpArgs false
namespace Go.Proofs.Ytkafhhiplimniaa.Pure
open Go.RowKit Go.Proofs.Ytkafhhiplimniaa.P Go.Proofs.YtkafhhiplimniaaW.PrintWords Go.Proofs.Ytkafhhiplimniaa.Ev Go.Proofs.Ytkafhhiplimniaa.TravA Go.Proofs.Ytkafhhiplimniaa.Pick
/-- A step the other way. -/
def ng (p : Pt) : Pt := ⟨-p.f0, -p.f1⟩
theorem gx_ng (l : List Pt) : gx (l.map ng) = -gx l := by
  induction l with
  | nil => simp [gx]
  | cons p l ih => simp only [gx, List.map_cons, List.sum_cons] at ih ⊢; rw [ih]; simp only [ng]; omega
theorem gy_ng (l : List Pt) : gy (l.map ng) = -gy l := by
  induction l with
  | nil => simp [gy]
  | cons p l ih => simp only [gy, List.map_cons, List.sum_cons] at ih ⊢; rw [ih]; simp only [ng]; omega
theorem gx_rev (l : List Pt) : gx l.reverse = gx l := by unfold gx; rw [List.map_reverse, List.sum_reverse]
theorem gy_rev (l : List Pt) : gy l.reverse = gy l := by unfold gy; rw [List.map_reverse, List.sum_reverse]
theorem okTr_back {l : List Pt} (h : okTr l = true) : okTr (l.reverse.map ng) = true := by
  obtain ⟨h1, h2⟩ := okTr_of h
  unfold okTr
  rw [List.length_map, List.length_reverse, decide_eq_true h1, Bool.true_and, List.all_eq_true]
  intro p hp
  obtain ⟨q, hq, rfl⟩ := List.mem_map.1 hp
  have := okT_of (h2 q (List.mem_reverse.1 hq))
  unfold okT ng
  simp only [Bool.and_eq_true, decide_eq_true_eq]; omega
theorem back_take (l : List Pt) {i : Nat} (hi : i ≤ l.length) : gx ((l.reverse.map ng).take i) = gx (l.take (l.length - i)) - gx l ∧ gy ((l.reverse.map ng).take i) = gy (l.take (l.length - i)) - gy l := by
  rw [← List.map_take, gx_ng, gy_ng, List.take_reverse, gx_rev, gy_rev, gx_drop, gy_drop]
  constructor <;> omega
theorem okTr_take {l : List Pt} (h : okTr l = true) {k : Nat} (h1 : 1 ≤ k) : okTr (l.take k) = true := by
  obtain ⟨h2, h3⟩ := okTr_of h
  unfold okTr
  rw [decide_eq_true (by rw [List.length_take]; omega), Bool.true_and, List.all_eq_true]
  exact fun p hp => h3 p (List.mem_of_mem_take hp)
theorem okTr_drop {l : List Pt} (h : okTr l = true) {k : Nat} (h1 : k < l.length) : okTr (l.drop k) = true := by
  obtain ⟨h2, h3⟩ := okTr_of h
  unfold okTr
  rw [decide_eq_true (by rw [List.length_drop]; omega), Bool.true_and, List.all_eq_true]
  exact fun p hp => h3 p (List.mem_of_mem_drop hp)
theorem FnTravel : laws_FnTravel.Pure := by
  intro c m _ _ hw _ hm8 _
  refine EvQ.rounds (g := fun k => laws_FnTravel.f k c m) ?_
  have ht : ∀ b : Bool, b = true → EvQ (fun k => laws_FnTravel.j0 k c m b) (fun x => x = true) := by
    rintro _ rfl
    refine EvQ.step (fun k => by simp only [laws_FnTravel.j0]; rfl) ?_
    exact EvQ.pos (by simp) (EvQ.ret rfl)
  unfold laws_FnTravel.f
  refine EvQ.ite (fun _ => ht _ rfl) (fun _ => ?_)
  by_cases hmm : (m.length : Int) > 1048576
  · exact ht _ (by simpa using hmm)
  refine EvQ.step (fun k => by simp only [laws_FnTravel.j0]; rfl) ?_
  refine EvQ.neg (by simpa using hmm) ?_
  unfold spec_DrawTravelEnd.f
  refine drawnFrom hw (fun x y l _ _ h6 => ?_)
  have hl : l.length ≤ 1048576 := by omega
  simp only []
  refine EvQ.call (implEnd x y hl) (EvQ.call (specEnd x y hl) (EvQ.neg (by simp) (EvQ.neg (by simp) ?_)))
  refine EvQ.step (fun k => by simp only [laws_FnTravel.j1]; rfl) ?_
  refine EvQ.ite (fun _ => EvQ.pos (by simp) (EvQ.ret (by simp))) (fun h => ?_)
  have h : (endV x y l).2.2 = true := by simpa using h
  obtain ⟨h0, h1, h4, he⟩ := end_true h
  obtain ⟨hn, hT⟩ := okTr_of h1
  rw [he]
  simp only []
  have hmod := Int.emod_nonneg (m.length : Int) (show (l.length : Int) ≠ 0 by omega)
  have hmod2 := Int.emod_lt_of_pos (m.length : Int) (show (0 : Int) < (l.length : Int) by omega)
  obtain ⟨k, hk⟩ : ∃ k : Nat, (k : Int) = 1 + (m.length : Int) % (l.length : Int) := ⟨(1 + (m.length : Int) % (l.length : Int)).toNat, by omega⟩
  have hw1 : wrap64 (1 + (m.length : Int) % (l.length : Int)) = (k : Int) := by rw [w64 (by omega) (by omega)]; omega
  rw [hw1]
  refine EvQ.neg (by omega) (EvQ.pos (by omega) (EvQ.pos (by omega) ?_))
  rw [Int.toNat_natCast]
  have hk1 : 1 ≤ k := by omega
  have hk2 : k ≤ l.length := by omega
  have hta : endV x y (l.take k) = (x + gx (l.take k), y + gy (l.take k), true) := end_mk (okTr_take h1 hk1) (fun i hi => by
    rw [List.length_take] at hi
    unfold okAt; rw [List.take_take, Nat.min_eq_left (by omega)]; exact h4 i (by omega))
  refine EvQ.call (implEnd x y (by rw [List.length_take]; omega)) (EvQ.call (implGap hl) ?_)
  have hgv : gapV l = (gx l, gy l, true) := by unfold gapV; rw [if_pos h1]
  rw [hta, hgv]
  simp only []
  have hbnd : ∀ i, i ≤ l.length → -10000 ≤ x + gx (l.take i) ∧ x + gx (l.take i) ≤ 10000 ∧ -10000 ≤ y + gy (l.take i) ∧ y + gy (l.take i) ≤ 10000 := fun i hi => by
    have := okP_iff.1 (h4 i hi); omega
  have hbl := hbnd l.length (Nat.le_refl _)
  have hbk := hbnd k hk2
  rw [List.take_length] at hbl
  have hx0 := okP_iff.1 h0
  have hback : endV (x + gx l) (y + gy l) (l.reverse.map ng) = (x, y, true) := by
    rw [end_mk (okTr_back h1) (fun i hi => ?_)]
    · have := back_take l (Nat.le_refl l.length)
      rw [List.take_of_length_le (by simp), Nat.sub_self] at this
      rw [this.1, this.2]
      have z1 : gx (l.take 0) = 0 := by simp [gx]
      have z2 : gy (l.take 0) = 0 := by simp [gy]
      rw [z1, z2]
      simp only [Prod.mk.injEq, and_true]; constructor <;> omega
    · rw [List.length_map, List.length_reverse] at hi
      have := back_take l hi
      unfold okAt
      rw [this.1, this.2]
      have h5 := h4 (l.length - i) (by omega)
      unfold okAt at h5
      rw [show x + gx l + (gx (l.take (l.length - i)) - gx l) = x + gx (l.take (l.length - i)) by omega, show y + gy l + (gy (l.take (l.length - i)) - gy l) = y + gy (l.take (l.length - i)) by omega]
      exact h5
  have hend : ∀ s : List Pt, s = l.reverse.map ng → EvQ (fun q => laws_FnTravel.l0 q l (k : Int) true true s (-1) x y (x + gx l) (y + gy l) (x + gx (l.take k)) (y + gy (l.take k)) (gx l) (gy l)) (fun r => r = true) := by
    rintro s rfl
    refine EvQ.step (fun q => by simp only [laws_FnTravel.l0]; rfl) ?_
    refine EvQ.neg (by omega) (EvQ.call (implEnd _ _ (by rw [List.length_map, List.length_reverse]; omega)) ?_)
    rw [hback]
    simp only []
    rw [w64 (n := x + gx l) (by omega) (by omega), w64 (n := y + gy l) (by omega) (by omega)]
    refine EvQ.pos (by simp) (EvQ.pos (by simp) (EvQ.pos (by simp) (EvQ.neg (by simp) (EvQ.pos rfl ?_))))
    refine EvQ.step (fun q => by simp only [laws_FnTravel.j3]; rfl) ?_
    refine EvQ.neg (by simp) (EvQ.ite (fun hkl => EvQ.ret ?_) (fun hkl => ?_))
    · obtain rfl : k = l.length := by omega
      rw [List.take_length]; simp
    · have hkl : k < l.length := by omega
      refine EvQ.pos (by omega) (EvQ.pos (by omega) ?_)
      rw [Int.toNat_natCast]
      refine EvQ.call (implEnd _ _ (by rw [List.length_drop]; omega)) ?_
      have hd : endV (x + gx (l.take k)) (y + gy (l.take k)) (l.drop k) = (x + gx l, y + gy l, true) := by
        rw [end_mk (okTr_drop h1 hkl) (fun i hi => ?_), gx_drop, gy_drop]
        · simp only [Prod.mk.injEq, and_true]; constructor <;> omega
        · rw [List.length_drop] at hi
          have h5 := h4 (k + i) (by omega)
          unfold okAt at h5 ⊢
          rw [List.take_add, gx_app, gy_app, ← Int.add_assoc, ← Int.add_assoc] at h5
          exact h5
      rw [hd]
      exact EvQ.pos rfl (EvQ.ret (by simp))
  have hw2 : wrap64 ((l.length : Int) - 1) = (l.length : Int) - 1 := w64 (by omega) (by omega)
  rw [hw2]
  have hlp : ∀ (n : Nat) (s : List Pt), n ≤ l.length → s = (l.drop n).reverse.map ng → EvQ (fun q => laws_FnTravel.l0 q l (k : Int) true true s ((n : Int) - 1) x y (x + gx l) (y + gy l) (x + gx (l.take k)) (y + gy (l.take k)) (gx l) (gy l)) (fun r => r = true) := by
    intro n
    induction n with
    | zero => intro s _ hs; exact hend s (by simpa using hs)
    | succ n ih =>
      intro s hn hs
      refine EvQ.step (fun k => by simp only [laws_FnTravel.l0]; rfl) ?_
      have hsl : s.length ≤ 6 := by rw [hs, List.length_map, List.length_reverse, List.length_drop]; omega
      have e : ((n + 1 : Nat) : Int) - 1 = (n : Int) := by omega
      have ht := okT_of (hT _ (List.getElem_mem (show n < l.length by omega)))
      rw [e]
      refine EvQ.pos (by omega) (EvQ.pos (by omega) (EvQ.pos (by omega) (EvQ.pos (by omega) ?_)))
      rw [rdP_get (by omega), w64 (n := (n : Int) - 1) (by omega) (by omega), w64 (n := -l[n].f0) (by omega) (by omega), w64 (n := -l[n].f1) (by omega) (by omega)]
      refine ih _ (by omega) ?_
      rw [hs, List.drop_eq_getElem_cons (i := n) (by omega), List.reverse_cons, List.map_append]
      rfl
  exact hlp l.length [] (Nat.le_refl _) (by simp)
end Go.Proofs.Ytkafhhiplimniaa.Pure

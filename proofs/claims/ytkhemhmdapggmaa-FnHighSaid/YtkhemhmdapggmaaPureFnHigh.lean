/- Fewer are high at higher levels: for all codes. No condition is added. -/
import Derived.Test.YtkhemhmdapggmaaPx32
import Derived.Test.YtkhemhmdapggmaaGridC
import Derived.Test.YtkhemhmdapggmaaDrawLevel
set_option linter.unusedVariables false
set_option linter.unusedSimpArgs false
namespace Go.Proofs.Ytkhemhmdapggmaa.Pure
open Go.RowKit Go.Proofs.Ytkhemhmdapggmaa.P Go.Proofs.YtkhemhmdapggmaaW.PrintWords Go.Proofs.YtkhemhmdapggmaaW.PrintLast Go.Proofs.Ytkhemhmdapggmaa.Ev Go.Proofs.Ytkhemhmdapggmaa.Ints Go.Proofs.Ytkhemhmdapggmaa.GridA Go.Proofs.Ytkhemhmdapggmaa.Pick
/-- No height of the first i rows, and the first j of the next, is over 20. -/
def low20 (r : List Int) : Bool := r.all (fun x => decide (x ≤ 20))
def low20s (g : List (List Int)) : Bool := g.all low20
theorem low20_succ {r : List Int} {j : Nat} (h : j < r.length) : low20 (r.take (j + 1)) = (low20 (r.take j) && decide (r[j] ≤ 20)) := by
  unfold low20; rw [List.take_succ_eq_append_getElem h, List.all_append]; simp
theorem low20s_succ {g : List (List Int)} {i : Nat} (h : i < g.length) : low20s (g.take (i + 1)) = (low20s (g.take i) && low20 g[i]) := by
  unfold low20s; rw [List.take_succ_eq_append_getElem h, List.all_append]; simp
/-- What of a height is over level i - 1. -/
def over (i x : Int) : Int := if x < i then 0 else x - (i - 1)
theorem FnHigh : laws_FnHigh.Pure := by
  intro l _ hl1 hwf
  refine EvQ.rounds (g := fun k => laws_FnHigh.f k l) ?_
  unfold laws_FnHigh.f
  refine EvQ.ite (fun _ => EvQ.ret rfl) (fun _ => ?_)
  unfold spec_DrawGridHigh.f
  refine drawnL hwf (fun g lv hlv0 hlv1 => ?_)
  refine EvQ.call (implHigh g lv) (EvQ.call (specHigh g lv) (EvQ.pos rfl ?_))
  refine EvQ.step (fun k => by simp only [laws_FnHigh.j0]; rfl) ?_
  refine EvQ.ite (fun _ => EvQ.ret (by simp)) (fun hn => ?_)
  simp only [decide_eq_true_eq] at hn
  have h : okG g = true := by
    by_cases h : okG g = true
    · exact h
    · unfold highV at hn; rw [if_neg h] at hn; omega
  obtain ⟨g1, g2, g3⟩ := okG_of h
  have hv : ∀ a, highV g a = gs (hi a) g := fun a => by unfold highV; rw [if_pos h]
  rw [okG_wn h]
  refine EvQ.pos (by omega) ?_
  have hid : ∀ x : Int, 0 ≤ x ∧ x ≤ 1000 → -1000 ≤ x ∧ x ≤ 1000 := fun x hx => by omega
  refine EvQ.grid (σ := Int × Bool) (g0 := fun k i s => laws_FnHigh.l0 k g lv (highV g lv) ((g.length : Int) * cols g) s.1 s.2 i) (g1 := fun k i j s => laws_FnHigh.l1 k g lv (highV g lv) ((g.length : Int) * cols g) s.1 s.2 i j) g.length (fun i => (g.getD i []).length)
    (fun i s => s = (gs (fun x => x) (g.take i), low20s (g.take i))) (fun i j s => s = (gs (fun x => x) (g.take i) + rs (fun x => x) ((g.getD i []).take j), low20s (g.take i) && low20 ((g.getD i []).take j))) ?_ ?_ ?_ ?_ (0, true) (by simp [gs, low20s])
  · rintro i _ hi rfl ih
    refine EvQ.step (fun k => by simp only [laws_FnHigh.l0]; rfl) ?_
    exact EvQ.pos (by omega) (ih (gs (fun x => x) (g.take i), low20s (g.take i)) (by simp [rs, low20]))
  · rintro i j _ hi hj rfl ih
    have eg : g.getD i [] = g[i] := by simp [List.getD_eq_getElem?_getD, hi]
    simp only [eg] at hj ih ⊢
    have b1 := okG_small h (f := fun x => x) hid i
    have b2 := okG_rsmall h (f := fun x => x) hid hi j
    have hx := okG_get h hi hj
    have hcl := okG_row h hi
    refine EvQ.step (fun k => by simp only [laws_FnHigh.l1]; rfl) ?_
    rw [rdG_get hi, rd_get hj]
    refine EvQ.pos (by omega) (EvQ.pos (by omega) (EvQ.pos (by omega) (EvQ.pos (by omega) ?_)))
    rw [w64 (n := gs (fun x => x) (g.take i) + rs (fun x => x) (g[i].take j) + g[i][j]) (by omega) (by omega), w64 (n := (j : Int) + 1) (by omega) (by omega)]
    have hst : gs (fun x => x) (g.take i) + rs (fun x => x) (g[i].take j) + g[i][j] = gs (fun x => x) (g.take i) + rs (fun x => x) (g[i].take (j + 1)) := by
      rw [rs_take_succ hj]; omega
    refine EvQ.ite (fun hb => ih (_, decide (g[i][j] ≤ 20)) ?_) (fun hb => ih (_, false) ?_)
    · rw [hst, low20_succ hj, ← Bool.and_assoc, hb, Bool.true_and]
    · rw [hst, low20_succ hj, ← Bool.and_assoc, Bool.eq_false_iff.2 hb, Bool.false_and]
  · rintro i _ hi rfl ih
    have eg : g.getD i [] = g[i] := by simp [List.getD_eq_getElem?_getD, hi]
    simp only [eg, List.take_length] at ih ⊢
    refine EvQ.step (fun k => by simp only [laws_FnHigh.l1]; rfl) ?_
    rw [rdG_get hi]
    refine EvQ.pos (by omega) (EvQ.pos (by omega) (EvQ.neg (by omega) ?_))
    rw [w64 (n := (i : Int) + 1) (by omega) (by omega)]
    exact ih (gs (fun x => x) (g.take i) + rs (fun x => x) g[i], low20s (g.take i) && low20 g[i]) (by rw [gs_take_succ hi, low20s_succ hi])
  · rintro _ rfl
    refine EvQ.step (fun k => by simp only [laws_FnHigh.l0]; rfl) ?_
    simp only [List.take_length]
    refine EvQ.neg (by omega) ?_
    have k1 : highV g (lv + 1) ≤ highV g lv := by
      rw [hv, hv]; exact gs_le (fun _ _ x _ => by unfold hi; split <;> split <;> omega)
    have k2 : highV g 0 = (g.length : Int) * cols g := by
      rw [hv, ← okG_one h]
      exact gs_congr (fun r hr x hx => by have := (g3 r hr).2 x hx; unfold hi; rw [if_pos (by omega)])
    have wl : wrap64 (lv + 1) = lv + 1 := w64 (by omega) (by omega)
    by_cases hb : low20s g = true
    · have hx20 : ∀ r ∈ g, ∀ x ∈ r, x ≤ 20 := by
        intro r hr x hx
        have := List.all_eq_true.1 (List.all_eq_true.1 hb r hr) x hx
        simpa using this
      rw [hb]
      obtain ⟨n, hn⟩ : ∃ n : Nat, n = 21 := ⟨_, rfl⟩
      have hw : ∀ i x : Int, 1 ≤ i → i ≤ 21 → 0 ≤ x ∧ x ≤ 1000 → -1000 ≤ over i x ∧ over i x ≤ 1000 := by
        intro i x _ _ hx; unfold over; split <;> omega
      refine EvQ.loop (σ := Int) (g := fun k i s => laws_FnHigh.l2 k g lv (highV g lv) ((g.length : Int) * cols g) s true i) n (fun i s => 1 ≤ i ∧ s = gs (over i) g) ?_ ?_ 1 (gs (fun x => x) g) (by omega) ⟨by omega, gs_congr (fun r hr x hx => by have := (g3 r hr).2 x hx; unfold over; split <;> omega)⟩
      · rintro i _ hin ⟨h5, rfl⟩ ih
        refine EvQ.step (fun k => by simp only [laws_FnHigh.l2]; rfl) ?_
        refine EvQ.pos (by omega) (EvQ.pos (by simp) (EvQ.call (implHigh g (i : Int)) ?_))
        have t1 := okG_small' h (f := over (i : Int)) (fun x hx => hw _ _ (by omega) (by omega) hx)
        have t2 := okG_small' h (f := hi (i : Int)) (fun x _ => by have := hi_range (i : Int) x; omega)
        rw [hv (i : Int), w64 (n := gs (over (i : Int)) g - gs (hi (i : Int)) g) (by omega) (by omega), w64 (n := (i : Int) + 1) (by omega) (by omega)]
        refine ih _ ⟨by omega, ?_⟩
        rw [← gs_sub]
        refine gs_congr (fun _ _ x _ => ?_)
        unfold over hi; push_cast
        split <;> split <;> split <;> omega
      · rintro _ ⟨_, rfl⟩
        refine EvQ.step (fun k => by simp only [laws_FnHigh.l2]; rfl) ?_
        rw [wl]
        refine EvQ.neg (by omega) (EvQ.call (implHigh g _) (EvQ.pos k1 (EvQ.call (implHigh g 0) (EvQ.pos k2 (EvQ.pos (by simp) (EvQ.ret ?_))))))
        rw [beq_iff_eq]
        have z : gs (over (n : Int)) g = gs (fun _ => 0 * 1) g := gs_congr (fun r hr x hx => by have := hx20 r hr x hx; unfold over; rw [if_pos (by omega)]; rfl)
        rw [z, gs_scale 0 (fun _ => 1)]; simp
    · rw [Bool.eq_false_iff.2 hb]
      refine EvQ.step (fun k => by simp only [laws_FnHigh.l2]; rfl) ?_
      rw [wl]
      refine EvQ.pos (by omega) (EvQ.neg (by simp) (EvQ.call (implHigh g _) (EvQ.pos k1 (EvQ.call (implHigh g 0) (EvQ.pos k2 (EvQ.ret rfl))))))
end Go.Proofs.Ytkhemhmdapggmaa.Pure

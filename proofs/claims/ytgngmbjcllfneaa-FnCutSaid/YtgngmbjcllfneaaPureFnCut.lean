/- Cut and fill differ by all earth: for all codes. No condition is added. -/
import Derived.Test.YtgngmbjcllfneaaPx24
import Derived.Test.YtgngmbjcllfneaaEarthB
import Derived.Test.YtgngmbjcllfneaaGridB
import Derived.Test.YtgngmbjcllfneaaDrawLevel
set_option linter.unusedVariables false
set_option linter.unusedSimpArgs false
namespace Go.Proofs.Ytgngmbjcllfneaa.Pure
open Go.RowKit Go.Proofs.Ytgngmbjcllfneaa.P Go.Proofs.YtgngmbjcllfneaaW.PrintWords Go.Proofs.YtgngmbjcllfneaaW.PrintLast Go.Proofs.Ytgngmbjcllfneaa.Ev Go.Proofs.Ytgngmbjcllfneaa.Ints Go.Proofs.Ytgngmbjcllfneaa.GridA Go.Proofs.Ytgngmbjcllfneaa.Pick
/-- No height of the first i rows, and the first j of the next, is over 20. -/
def low20 (r : List Int) : Bool := r.all (fun x => decide (x ≤ 20))
def low20s (g : List (List Int)) : Bool := g.all low20
theorem low20_succ {r : List Int} {j : Nat} (h : j < r.length) : low20 (r.take (j + 1)) = (low20 (r.take j) && decide (r[j] ≤ 20)) := by
  unfold low20; rw [List.take_succ_eq_append_getElem h, List.all_append]; simp
theorem low20s_succ {g : List (List Int)} {i : Nat} (h : i < g.length) : low20s (g.take (i + 1)) = (low20s (g.take i) && low20 g[i]) := by
  unfold low20s; rw [List.take_succ_eq_append_getElem h, List.all_append]; simp
/-- How much of the cut lies below level i. -/
def upto (lv i x : Int) : Int := if x ≤ lv then 0 else if x < i then x - lv else i - 1 - lv
theorem FnCut : laws_FnCut.Pure := by
  intro l _ hl1 hwf
  refine EvQ.rounds (g := fun k => laws_FnCut.f k l) ?_
  unfold laws_FnCut.f
  refine EvQ.ite (fun _ => EvQ.ret rfl) (fun _ => ?_)
  unfold spec_DrawEarthCut.f
  refine drawnL hwf (fun g lv _ _ => ?_)
  refine EvQ.call (implCut g lv) (EvQ.call (specCut g lv) (EvQ.pos rfl ?_))
  refine EvQ.step (fun k => by simp only [laws_FnCut.j0]; rfl) ?_
  refine EvQ.ite (fun _ => EvQ.ret (by simp)) (fun hn => ?_)
  simp only [decide_eq_true_eq, cutV_neg] at hn
  have ho : okE g lv = true := by simpa using hn
  obtain ⟨h, h2⟩ := okE_of ho
  obtain ⟨g1, g2, g3⟩ := okG_of h
  have e2 : cutV g lv = gs (pc lv) g := by unfold cutV; rw [if_pos ho]
  have e3 : fillV g lv = gs (pf lv) g := by unfold fillV; rw [if_pos ho]
  have s1 := pc_nonneg h (lv := lv)
  have s2 := pf_nonneg h (lv := lv)
  have s3 := pc_small h h2
  have s4 := pf_small h h2
  have d1 := dv_eq g lv
  rw [e2]
  have hid : ∀ x : Int, 0 ≤ x ∧ x ≤ 1000 → -1000 ≤ x - lv ∧ x - lv ≤ 1000 := fun x hx => by omega
  refine EvQ.grid (σ := Int × Bool) (g0 := fun k i s => laws_FnCut.l0 k g lv (gs (pc lv) g) s.1 s.2 i) (g1 := fun k i j s => laws_FnCut.l1 k g lv (gs (pc lv) g) s.1 s.2 i j) g.length (fun i => (g.getD i []).length)
    (fun i s => s = (gs (fun x => x - lv) (g.take i), low20s (g.take i))) (fun i j s => s = (gs (fun x => x - lv) (g.take i) + rs (fun x => x - lv) ((g.getD i []).take j), low20s (g.take i) && low20 ((g.getD i []).take j))) ?_ ?_ ?_ ?_ (0, true) (by simp [gs, low20s])
  · rintro i _ hi rfl ih
    refine EvQ.step (fun k => by simp only [laws_FnCut.l0]; rfl) ?_
    exact EvQ.pos (by omega) (ih (gs (fun x => x - lv) (g.take i), low20s (g.take i)) (by simp [rs, low20]))
  · rintro i j _ hi hj rfl ih
    have eg : g.getD i [] = g[i] := by simp [List.getD_eq_getElem?_getD, hi]
    simp only [eg] at hj ih ⊢
    have b1 := okG_small h (f := fun x => x - lv) hid i
    have b2 := okG_rsmall h (f := fun x => x - lv) hid hi j
    have hx := okG_get h hi hj
    have hcl := okG_row h hi
    refine EvQ.step (fun k => by simp only [laws_FnCut.l1]; rfl) ?_
    rw [rdG_get hi, rd_get hj]
    refine EvQ.pos (by omega) (EvQ.pos (by omega) (EvQ.pos (by omega) (EvQ.pos (by omega) ?_)))
    rw [w64 (n := gs (fun x => x - lv) (g.take i) + rs (fun x => x - lv) (g[i].take j) + g[i][j]) (by omega) (by omega), w64 (n := gs (fun x => x - lv) (g.take i) + rs (fun x => x - lv) (g[i].take j) + g[i][j] - lv) (by omega) (by omega), w64 (n := (j : Int) + 1) (by omega) (by omega)]
    have hst : gs (fun x => x - lv) (g.take i) + rs (fun x => x - lv) (g[i].take j) + g[i][j] - lv = gs (fun x => x - lv) (g.take i) + rs (fun x => x - lv) (g[i].take (j + 1)) := by
      rw [rs_take_succ hj]; omega
    refine EvQ.ite (fun hb => ih (_, decide (g[i][j] ≤ 20)) ?_) (fun hb => ih (_, false) ?_)
    · rw [hst, low20_succ hj, ← Bool.and_assoc, hb, Bool.true_and]
    · rw [hst, low20_succ hj, ← Bool.and_assoc, Bool.eq_false_iff.2 hb, Bool.false_and]
  · rintro i _ hi rfl ih
    have eg : g.getD i [] = g[i] := by simp [List.getD_eq_getElem?_getD, hi]
    simp only [eg, List.take_length] at ih ⊢
    refine EvQ.step (fun k => by simp only [laws_FnCut.l1]; rfl) ?_
    rw [rdG_get hi]
    refine EvQ.pos (by omega) (EvQ.pos (by omega) (EvQ.neg (by omega) ?_))
    rw [w64 (n := (i : Int) + 1) (by omega) (by omega)]
    exact ih (gs (fun x => x - lv) (g.take i) + rs (fun x => x - lv) g[i], low20s (g.take i) && low20 g[i]) (by rw [gs_take_succ hi, low20s_succ hi])
  · rintro _ rfl
    refine EvQ.step (fun k => by simp only [laws_FnCut.l0]; rfl) ?_
    simp only [List.take_length]
    rw [w64 (n := lv + 1) (by omega) (by omega)]
    refine EvQ.neg (by omega) ?_
    have hchk : wrap64 (gs (pc lv) g - fillV g lv) = gs (fun x => x - lv) g := by
      rw [e3, w64 (by omega) (by omega), d1]; rfl
    by_cases hb : low20s g = true
    · have hx20 : ∀ r ∈ g, ∀ x ∈ r, x ≤ 20 := by
        intro r hr x hx
        have := List.all_eq_true.1 (List.all_eq_true.1 hb r hr) x hx
        simpa using this
      have hend : ∀ s, s = gs (pc lv) g → ∀ i : Int, 20 < i → EvQ (fun k => laws_FnCut.l2 k g lv (gs (pc lv) g) (gs (fun x => x - lv) g) true s i) (fun r => r = true) := by
        rintro _ rfl i hi
        refine EvQ.step (fun k => by simp only [laws_FnCut.l2]; rfl) ?_
        exact EvQ.neg (by omega) (EvQ.call (implFill g lv) (EvQ.pos hchk (EvQ.pos (by simp) (EvQ.ret (by simp)))))
      rw [hb]
      by_cases hlv : lv ≤ 20
      · obtain ⟨a, ha⟩ : ∃ a : Nat, (a : Int) = lv + 1 := ⟨(lv + 1).toNat, by omega⟩
        rw [← ha]
        obtain ⟨n, hn⟩ : ∃ n : Nat, n = 21 := ⟨_, rfl⟩
        have hw : ∀ i x : Int, lv + 1 ≤ i → i ≤ 21 → 0 ≤ x ∧ x ≤ 1000 → -1000 ≤ upto lv i x ∧ upto lv i x ≤ 1000 := by
          intro i x _ _ hx; unfold upto; split
          · omega
          · split <;> omega
        refine EvQ.loop (σ := Int) (g := fun k i s => laws_FnCut.l2 k g lv (gs (pc lv) g) (gs (fun x => x - lv) g) true s i) n (fun i s => lv + 1 ≤ (i : Int) ∧ s = gs (upto lv i) g) ?_ ?_ a 0 (by omega) ⟨by omega, ?_⟩
        · rintro i _ hin ⟨h5, rfl⟩ ih
          refine EvQ.step (fun k => by simp only [laws_FnCut.l2]; rfl) ?_
          refine EvQ.pos (by omega) (EvQ.pos (by simp) (EvQ.call (implHigh g (i : Int)) ?_))
          have t1 := okG_small' h (f := upto lv (i : Int)) (fun x hx => hw _ _ (by omega) (by omega) hx)
          have t2 := okG_small' h (f := hi (i : Int)) (fun x _ => by have := hi_range (i : Int) x; omega)
          have t3 : highV g (i : Int) = gs (hi (i : Int)) g := by unfold highV; rw [if_pos h]
          rw [t3, w64 (by omega) (by omega), w64 (n := (i : Int) + 1) (by omega) (by omega)]
          refine ih _ ⟨by push_cast; omega, ?_⟩
          rw [← gs_add]
          refine gs_congr (fun _ _ x _ => ?_)
          unfold upto Go.Proofs.Ytgngmbjcllfneaa.GridA.hi; push_cast
          split
          · rw [if_neg (by omega)]; omega
          · split
            · rw [if_neg (by omega), if_pos (by omega)]; omega
            · rw [if_pos (by omega)]; split <;> omega
        · rintro _ ⟨_, rfl⟩
          refine hend _ ?_ _ (by omega)
          refine gs_congr (fun r hr x hx => ?_)
          have := hx20 r hr x hx
          unfold upto pc mx
          split
          · rw [if_neg (by omega)]
          · rw [if_pos (by omega), if_pos (by omega)]
        · rw [ha]
          have z : gs (upto lv (lv + 1)) g = gs (fun _ => 0 * 1) g := gs_congr (fun _ _ x _ => by unfold upto; split <;> (try split) <;> omega)
          rw [z, gs_scale 0 (fun _ => 1)]; simp
      · refine hend 0 ?_ _ (by omega)
        have z : gs (pc lv) g = gs (fun _ => 0 * 1) g := gs_congr (fun r hr x hx => by have := hx20 r hr x hx; unfold pc mx; rw [if_neg (by omega)]; rfl)
        rw [z, gs_scale 0 (fun _ => 1)]; simp
    · rw [Bool.eq_false_iff.2 hb]
      refine EvQ.step (fun k => by simp only [laws_FnCut.l2]; rfl) ?_
      refine EvQ.ite (fun _ => EvQ.neg (by simp) (EvQ.call (implFill g lv) (EvQ.pos hchk (EvQ.ret rfl)))) (fun _ => ?_)
      exact EvQ.call (implFill g lv) (EvQ.pos hchk (EvQ.neg (by simp) (EvQ.ret rfl)))
end Go.Proofs.Ytgngmbjcllfneaa.Pure

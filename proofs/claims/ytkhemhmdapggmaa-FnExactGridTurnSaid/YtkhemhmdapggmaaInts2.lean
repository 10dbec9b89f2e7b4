/- The helpers of the exact statements over lists of lists of whole numbers, plain: a copy, '==', the weight. No program in sight. -/
import Derived.Test.YtkhemhmdapggmaaEv
import Derived.Test.YtkhemhmdapggmaaPx3
import Derived.Test.YtkhemhmdapggmaaPx5
import Derived.Test.YtkhemhmdapggmaaPx1
set_option linter.unusedVariables false
set_option linter.unusedSimpArgs false
namespace Go.Proofs.Ytkhemhmdapggmaa.Ints
open Go.RowKit Go.Proofs.Ytkhemhmdapggmaa.P Go.Proofs.YtkhemhmdapggmaaW.PrintWords Go.Proofs.YtkhemhmdapggmaaW.PrintLast Go.Proofs.YtkhemhmdapggmaaW.PrintMore Go.Proofs.Ytkhemhmdapggmaa.Ev
theorem rdSS_get {g : List (List Int)} {i : Nat} (h : i < g.length) : rd_L1 g (i : Int) = g[i] := by
  unfold rd_L1; simp [List.getD_eq_getElem?_getD, h]
theorem set_take {α : Type} {l : List α} {z : α} {i : Nat} (h : i < l.length) (r : List α) (hr : r = l.take i ++ List.replicate (l.length - i) z) : r.set i l[i] = l.take (i + 1) ++ List.replicate (l.length - (i + 1)) z := by
  subst hr
  have h1 : (l.take i).length = i := by rw [List.length_take]; omega
  obtain ⟨m, hm⟩ : ∃ m, l.length - i = m + 1 := ⟨l.length - i - 1, by omega⟩
  rw [hm, show l.length - (i + 1) = m by omega, List.replicate_succ, List.set_append, h1]
  simp only [Nat.lt_irrefl, if_false, Nat.sub_self, List.set_cons_zero]
  rw [List.take_succ_eq_append_getElem h, List.append_assoc]; rfl
theorem toIntS {l : List Int} (hl : l.length ≤ 17592186044416) : EvQ (fun k => laws_toIntS.f k l) (fun r => r = l) := by
  unfold laws_toIntS.f
  refine EvQ.pos (by omega) (EvQ.pos (by omega) ?_)
  refine EvQ.loop (σ := List Int) (g := fun k i s => laws_toIntS.l0 k l s i) l.length (fun i s => s = l.take i ++ List.replicate (l.length - i) 0) ?_ ?_ 0 (List.replicate ((l.length : Int) : Int).toNat 0) (by omega) (by simp)
  · rintro i s hi hs ih
    have hlen : s.length = l.length := by rw [hs, List.length_append, List.length_take, List.length_replicate]; omega
    refine EvQ.step (fun k => by simp only [laws_toIntS.l0]; rfl) ?_
    refine EvQ.pos (by omega) (EvQ.pos (by omega) (EvQ.pos (by omega) ?_))
    rw [rd_get hi, w64i hi (by omega)]
    exact ih _ (by simpa using set_take hi s hs)
  · rintro s hs
    refine EvQ.step (fun k => by simp only [laws_toIntS.l0]; rfl) ?_
    refine EvQ.neg (by omega) (EvQ.ret ?_)
    rw [hs]; simp
theorem eqIntS_refl {a b : List Int} (hl : a.length ≤ 17592186044416) (h : a = b) : EvQ (fun k => laws_eqIntS.f k a b) (fun r => r = true) := by
  subst h
  unfold laws_eqIntS.f
  refine EvQ.pos rfl ?_
  refine EvQ.loop (σ := Unit) (g := fun k i _ => laws_eqIntS.l0 k a a i) a.length (fun i _ => True) ?_ ?_ 0 () (by omega) trivial
  · rintro i _ hi hI ih
    refine EvQ.step (fun k => by simp only [laws_eqIntS.l0]; rfl) ?_
    refine EvQ.pos (by omega) (EvQ.pos (by omega) (EvQ.pos (by omega) (EvQ.pos (by simp) ?_)))
    rw [w64i hi (by omega)]
    exact ih () trivial
  · rintro _ hI
    refine EvQ.step (fun k => by simp only [laws_eqIntS.l0]; rfl) ?_
    exact EvQ.neg (by omega) (EvQ.ret rfl)
/-- Rows and a list of them, each of at most 2^20. -/
def Fit (g : List (List Int)) : Prop := g.length ≤ 1048576 ∧ ∀ r ∈ g, r.length ≤ 1048576
theorem toIntSS {g : List (List Int)} (hg : Fit g) : EvQ (fun k => laws_toIntSS.f k g) (fun r => r = g) := by
  have hl := hg.1
  unfold laws_toIntSS.f
  refine EvQ.pos (by omega) (EvQ.pos (by omega) ?_)
  refine EvQ.loop (σ := List (List Int)) (g := fun k i s => laws_toIntSS.l0 k g s i) g.length (fun i s => s = g.take i ++ List.replicate (g.length - i) []) ?_ ?_ 0 (List.replicate ((g.length : Int) : Int).toNat []) (by omega) (by simp)
  · rintro i s hi hs ih
    have hlen : s.length = g.length := by rw [hs, List.length_append, List.length_take, List.length_replicate]; omega
    have hr := hg.2 _ (List.getElem_mem hi)
    refine EvQ.step (fun k => by simp only [laws_toIntSS.l0]; rfl) ?_
    refine EvQ.pos (by omega) (EvQ.pos (by omega) ?_)
    rw [rdSS_get hi]
    refine EvQ.call (toIntS (by omega)) (EvQ.pos (by omega) ?_)
    rw [w64i hi (by omega)]
    exact ih _ (by simpa using set_take hi s hs)
  · rintro s hs
    refine EvQ.step (fun k => by simp only [laws_toIntSS.l0]; rfl) ?_
    refine EvQ.neg (by omega) (EvQ.ret ?_)
    rw [hs]; simp
theorem eqIntSS_refl {a b : List (List Int)} (ha : Fit a) (h : a = b) : EvQ (fun k => laws_eqIntSS.f k a b) (fun r => r = true) := by
  subst h
  have hl := ha.1
  unfold laws_eqIntSS.f
  refine EvQ.pos rfl ?_
  refine EvQ.loop (σ := Unit) (g := fun k i _ => laws_eqIntSS.l0 k a a i) a.length (fun i _ => True) ?_ ?_ 0 () (by omega) trivial
  · rintro i _ hi hI ih
    have hr := ha.2 _ (List.getElem_mem hi)
    refine EvQ.step (fun k => by simp only [laws_eqIntSS.l0]; rfl) ?_
    refine EvQ.pos (by omega) (EvQ.pos (by omega) (EvQ.pos (by omega) ?_))
    rw [rdSS_get hi]
    refine EvQ.call (eqIntS_refl (by omega) rfl) (EvQ.pos rfl ?_)
    rw [w64i hi (by omega)]
    exact ih () trivial
  · rintro _ hI
    refine EvQ.step (fun k => by simp only [laws_eqIntSS.l0]; rfl) ?_
    exact EvQ.neg (by omega) (EvQ.ret rfl)
theorem szIntSS {g : List (List Int)} (hl : g.length ≤ maxLen) (hr : ∀ r ∈ g, r.length ≤ maxLen) : EvQ (fun k => laws_szIntSS.f k g 1048576) (fun r => r < 0 ∨ Fit g) := by
  unfold maxLen at hl hr
  unfold laws_szIntSS.f
  rw [w64 (n := 1048576 - (g.length : Int)) (by omega) (by omega)]
  refine EvQ.ite (fun h => EvQ.ret (.inl (by omega))) (fun h => ?_)
  refine EvQ.loop (σ := Int) (g := fun k i s => laws_szIntSS.l0 k g s i) g.length (fun i s => 0 ≤ s ∧ s ≤ 1048576 ∧ ∀ r ∈ g.take i, r.length ≤ 1048576) ?_ ?_ 0 (1048576 - (g.length : Int)) (by omega) ⟨by omega, by omega, by simp⟩
  · rintro i s hi ⟨h0, h1, h2⟩ ih
    have hlr := hr _ (List.getElem_mem hi)
    refine EvQ.step (fun k => by simp only [laws_szIntSS.l0]; rfl) ?_
    refine EvQ.pos (by omega) (EvQ.pos (by omega) ?_)
    rw [rdSS_get hi]
    have e : laws_szIntS.f g[i] s = some (if s - (g[i].length : Int) < 0 then -1 else s - (g[i].length : Int)) := by
      unfold laws_szIntS.f
      rw [w64 (by omega) (by omega)]
      split <;> rfl
    refine EvQ.bindc e ?_
    by_cases hn : s - (g[i].length : Int) < 0
    · rw [if_pos hn]
      exact EvQ.pos (by omega) (EvQ.ret (.inl (by omega)))
    · rw [if_neg hn]
      refine EvQ.neg hn ?_
      rw [w64i hi (by omega)]
      refine ih _ ⟨by omega, by omega, fun r hr2 => ?_⟩
      rw [List.take_succ_eq_append_getElem hi] at hr2
      rcases List.mem_append.1 hr2 with h3 | h3
      · exact h2 r h3
      · rw [List.mem_singleton.1 h3]; omega
  · rintro s ⟨h0, h1, h2⟩
    refine EvQ.step (fun k => by simp only [laws_szIntSS.l0]; rfl) ?_
    refine EvQ.neg (by omega) (EvQ.ret (.inr ⟨by omega, ?_⟩))
    rwa [List.take_length] at h2
end Go.Proofs.Ytkhemhmdapggmaa.Ints

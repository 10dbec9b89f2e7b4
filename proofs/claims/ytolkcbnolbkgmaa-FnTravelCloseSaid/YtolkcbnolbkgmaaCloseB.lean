import Derived.Test.YtolkcbnolbkgmaaCloseA
import Derived.Test.YtolkcbnolbkgmaaPx7
set_option linter.unusedVariables false
set_option linter.unusedSimpArgs false
namespace Go.Proofs.Ytolkcbnolbkgmaa.Sh
open Go.RowKit Go.Proofs.Ytolkcbnolbkgmaa.P Go.Proofs.YtolkcbnolbkgmaaW.PrintWords Go.Proofs.YtolkcbnolbkgmaaW.PrintLast Go.Proofs.YtolkcbnolbkgmaaW.PrintMore Go.Proofs.Ytolkcbnolbkgmaa.Ev
theorem absW {x : Int} (h : -1000000000000000 ≤ x ∧ x ≤ 1000000000000000) : impl_absInt.f x = some (if x < 0 then -x else x) := by
  unfold impl_absInt.f
  rw [w64 (n := -x) (by omega) (by omega)]
  split <;> rfl
theorem okEv {l s : List Int} {a : Int} (hk : okLs l = true) (ha : -10000000 ≤ a ∧ a ≤ 10000000) (hl : s.length = l.length) (hs : s.sum = a)
    (he : ∀ i, i < l.length → (-l.sum < gt s i * l.sum - a * gt l i ∧ gt s i * l.sum - a * gt l i < l.sum) ∧ -10000000 ≤ gt s i ∧ gt s i ≤ 10000000) : EvQ (fun k => impl_ShareOk.f k l a s) (fun r => r = true) := by
  obtain ⟨h1, h2, h3⟩ := okLs_of hk
  have hS := sum_near hk
  have hmem : ∀ x ∈ s, -10000000 ≤ x ∧ x ≤ 10000000 := by
    intro x hx
    obtain ⟨i, hi, rfl⟩ := List.mem_iff_getElem.1 hx
    have := (he i (by omega)).2
    rw [gt_lt hi] at this
    exact this
  unfold impl_ShareOk.f
  refine EvQ.call (implSum (by omega)) ?_
  rw [lsV_2, lsV_1 hk]
  refine EvQ.pos hk (EvQ.bindc (within_eq (by omega) (by omega)) ?_)
  refine EvQ.pos (decide_eq_true ha) ?_
  rw [show ((s.length : Int) != (l.length : Int)) = false by rw [hl]; simp]
  refine EvQ.step (fun k => by simp only [impl_ShareOk.j0]; rfl) ?_
  refine EvQ.neg (by simp) ?_
  refine EvQ.loop (σ := Int) (g := fun k i t => impl_ShareOk.l0 k l a l.sum t s (s.length : Int) i) s.length (fun i t => t = (s.take i).sum) ?_ ?_ 0 0 (by omega) (by simp)
  · rintro i _ hi rfl ih
    have hil : i < l.length := by omega
    obtain ⟨e1, e2⟩ := he i hil
    rw [gt_lt hi, gt_lt hil] at e1
    rw [gt_lt hi] at e2
    have hx := h2 _ (List.getElem_mem hil)
    have hm := mul_near ha hx
    have hp : -2000000000000 ≤ s[i] * l.sum ∧ s[i] * l.sum ≤ 2000000000000 := by omega
    refine EvQ.step (fun k => by simp only [impl_ShareOk.l0]; rfl) ?_
    refine EvQ.pos (by omega) (EvQ.pos (by omega) (EvQ.pos (by omega) ?_))
    rw [rd_get hi, rd_get hil]
    refine EvQ.bindc (within_eq (by omega) (by omega)) (EvQ.pos (decide_eq_true e2) (EvQ.pos (by omega) ?_))
    rw [w64 (n := s[i] * l.sum) (by omega) (by omega), w64 (n := a * l[i]) (by omega) (by omega), w64 (n := s[i] * l.sum - a * l[i]) (by omega) (by omega)]
    have hab : ¬ ((if s[i] * l.sum - a * l[i] < 0 then -(s[i] * l.sum - a * l[i]) else s[i] * l.sum - a * l[i]) ≥ l.sum) := by split <;> omega
    refine EvQ.bindc (absW ⟨by omega, by omega⟩) (EvQ.neg hab ?_)
    have hst := sum_take_mem (b := 10000000) (by omega) hmem (by omega) (i + 1)
    rw [sum_take_succ hi] at hst
    rw [w64 (n := (s.take i).sum + s[i]) (by omega) (by omega), w64i hi (by omega)]
    exact ih _ (sum_take_succ hi).symm
  · rintro _ rfl
    refine EvQ.step (fun k => by simp only [impl_ShareOk.l0]; rfl) ?_
    refine EvQ.neg (by omega) (EvQ.ret ?_)
    rw [List.take_length, hs]; simp
end Go.Proofs.Ytolkcbnolbkgmaa.Sh
namespace Go.Proofs.Ytolkcbnolbkgmaa.TravA
open Go.RowKit Go.Proofs.Ytolkcbnolbkgmaa.P Go.Proofs.YtolkcbnolbkgmaaW.PrintWords Go.Proofs.YtolkcbnolbkgmaaW.PrintLast Go.Proofs.YtolkcbnolbkgmaaW.PrintMore Go.Proofs.Ytolkcbnolbkgmaa.Ev
theorem closeV_true {l : List Pt} (h : (closeV l).2 = true) : okTr l = true ∧ (Sh.shV (l.map len) (-(gx l))).2 = true ∧ (Sh.shV (l.map len) (-(gy l))).2 = true ∧
    closeV l = (movN l (Sh.shV (l.map len) (-(gx l))).1 (Sh.shV (l.map len) (-(gy l))).1 l.length, true) ∧ okTr (movN l (Sh.shV (l.map len) (-(gx l))).1 (Sh.shV (l.map len) (-(gy l))).1 l.length) = true := by
  unfold closeV at h ⊢
  split at h
  · rename_i h1
    rw [if_pos h1]
    split at h
    · rename_i h2
      rw [if_pos h2]
      rw [Bool.and_eq_true] at h2
      split at h
      · rename_i h3
        rw [if_pos h3]
        exact ⟨h1, h2.1, h2.2, rfl, h3⟩
      · cases h
    · cases h
  · cases h
theorem movN_gx (l : List Pt) (e n : List Int) : ∀ m, m ≤ l.length → m ≤ e.length → gx (movN l e n m) = gx (l.take m) + (e.take m).sum
  | 0, _, _ => by simp [movN, gx]
  | m + 1, h, h2 => by
    have ih := movN_gx l e n m (by omega) (by omega)
    have hm : m < l.length := by omega
    have hm2 : m < e.length := by omega
    rw [movN_succ, gx_succ hm, sum_take_succ hm2]
    have : gx (movN l e n m ++ [⟨(rd_T34 l (m : Int)).f0 + Sh.gt e m, (rd_T34 l (m : Int)).f1 + Sh.gt n m⟩]) = gx (movN l e n m) + ((rd_T34 l (m : Int)).f0 + Sh.gt e m) := by
      unfold gx; rw [List.map_append, List.sum_append]; simp
    rw [this, ih, rdP_get hm, Sh.gt_lt hm2]
    omega
theorem movN_gy (l : List Pt) (e n : List Int) : ∀ m, m ≤ l.length → m ≤ n.length → gy (movN l e n m) = gy (l.take m) + (n.take m).sum
  | 0, _, _ => by simp [movN, gy]
  | m + 1, h, h2 => by
    have ih := movN_gy l e n m (by omega) (by omega)
    have hm : m < l.length := by omega
    have hm2 : m < n.length := by omega
    rw [movN_succ, gy_succ hm, sum_take_succ hm2]
    have : gy (movN l e n m ++ [⟨(rd_T34 l (m : Int)).f0 + Sh.gt e m, (rd_T34 l (m : Int)).f1 + Sh.gt n m⟩]) = gy (movN l e n m) + ((rd_T34 l (m : Int)).f1 + Sh.gt n m) := by
      unfold gy; rw [List.map_append, List.sum_append]; simp
    rw [this, ih, rdP_get hm, Sh.gt_lt hm2]
    omega
theorem close_gap {l : List Pt} (h : (closeV l).2 = true) : gapV (closeV l).1 = (0, 0, true) := by
  obtain ⟨h1, h2, h3, h4, h5⟩ := closeV_true h
  obtain ⟨_, _, a3, a4, _⟩ := Sh.shV_all h2
  obtain ⟨_, _, b3, b4, _⟩ := Sh.shV_all h3
  rw [List.length_map] at a3 b3
  rw [h4]
  simp only []
  unfold gapV
  rw [if_pos h5, movN_gx _ _ _ _ (Nat.le_refl _) (by omega), movN_gy _ _ _ _ (Nat.le_refl _) (by omega), List.take_length, List.take_of_length_le (by omega), List.take_of_length_le (by omega), a4, b4]
  simp only [Prod.mk.injEq, and_true]
  omega
theorem samePoints_refl {l : List Pt} (hl : l.length ≤ 17592186044416) : EvQ (fun k => laws_samePoints.f k l l) (fun r => r = true) := by
  unfold laws_samePoints.f
  refine EvQ.pos rfl ?_
  refine EvQ.loop (σ := Unit) (g := fun k i _ => laws_samePoints.l0 k l l i) l.length (fun i _ => True) ?_ ?_ 0 () (by omega) trivial
  · rintro i _ hi hI ih
    refine EvQ.step (fun k => by simp only [laws_samePoints.l0]; rfl) ?_
    refine EvQ.pos (by omega) (EvQ.pos (by omega) (EvQ.pos (by omega) (EvQ.neg (by simp) ?_)))
    rw [w64i hi (by omega)]
    exact ih () trivial
  · rintro _ hI
    refine EvQ.step (fun k => by simp only [laws_samePoints.l0]; rfl) ?_
    exact EvQ.neg (by omega) (EvQ.ret rfl)
end Go.Proofs.Ytolkcbnolbkgmaa.TravA

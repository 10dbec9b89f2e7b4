import Derived.Test.YtolkcbnolbkgmaaTravA0
import Derived.Test.YtolkcbnolbkgmaaShareC
import Derived.Test.YtolkcbnolbkgmaaPx5
import Derived.Test.YtolkcbnolbkgmaaPx6
import Derived.Test.YtolkcbnolbkgmaaPx4
import Derived.Test.YtolkcbnolbkgmaaPx2
import Derived.Test.YtolkcbnolbkgmaaPx3
set_option linter.unusedVariables false
set_option linter.unusedSimpArgs false
namespace Go.Proofs.Ytolkcbnolbkgmaa.TravA
open Go.RowKit Go.Proofs.Ytolkcbnolbkgmaa.P Go.Proofs.YtolkcbnolbkgmaaW.PrintWords Go.Proofs.YtolkcbnolbkgmaaW.PrintLast Go.Proofs.YtolkcbnolbkgmaaW.PrintMore Go.Proofs.Ytolkcbnolbkgmaa.Ev
def ab (x : Int) : Int := if x < 0 then -x else x
def len (p : Pt) : Int := ab p.f0 + ab p.f1
theorem len_range {p : Pt} (h : okT p = true) : 0 ≤ len p ∧ len p ≤ 40000 := by
  have := okT_of h
  unfold len ab; split <;> split <;> omega
theorem absInt {x : Int} (h : -20000 ≤ x ∧ x ≤ 20000) : impl_absInt.f x = some (ab x) := by
  unfold impl_absInt.f ab
  rw [w64 (n := -x) (by omega) (by omega)]
  split <;> rfl
theorem l1Size {x : Int} (h : -20000 ≤ x ∧ x ≤ 20000) : spec_l1Size.f x = some (ab x) := by
  unfold spec_l1Size.f ab mx
  rw [w64 (n := -x) (by omega) (by omega)]
  congr 1; split <;> split <;> omega
theorem stepLength {p : Pt} (h : okT p = true) : impl_stepLength.f p.f0 p.f1 = some (len p) := by
  have hh := okT_of h
  have hl := len_range h
  unfold impl_stepLength.f
  rw [absInt hh.1, Option.bind_some, absInt hh.2, Option.bind_some]
  unfold len at *
  rw [w64 (by omega) (by omega)]
theorem specLengths {l : List Pt} (h : okTr l = true) : EvQ (fun k => spec_l33Lengths.f k l) (fun r => r = l.map len) := by
  obtain ⟨h1, h2⟩ := okTr_of h
  unfold spec_l33Lengths.f
  refine EvQ.loop (σ := List Int) (g := fun k i s => spec_l33Lengths.l0 k l s i) l.length (fun i s => s = (l.take i).map len) ?_ ?_ 0 [] (by omega) (by simp)
  · rintro i s hi hs ih
    have hm := h2 _ (List.getElem_mem hi)
    have hh := okT_of hm
    have hr := len_range hm
    have hsl : s.length ≤ 12 := by rw [hs, List.length_map, List.length_take]; omega
    refine EvQ.step (fun k => by simp only [spec_l33Lengths.l0]; rfl) ?_
    rw [rdP_get hi]
    refine EvQ.pos (by omega) (EvQ.pos (by omega) (EvQ.bindc (l1Size hh.1) (EvQ.bindc (l1Size hh.2) (EvQ.pos (by omega) ?_))))
    rw [w64 (n := ab l[i].f0 + ab l[i].f1) (by unfold len at hr; omega) (by unfold len at hr; omega), w64 (n := (i : Int) + 1) (by omega) (by omega)]
    refine ih _ ?_
    rw [hs, List.take_succ_eq_append_getElem hi, List.map_append]; rfl
  · rintro s hs
    refine EvQ.step (fun k => by simp only [spec_l33Lengths.l0]; rfl) ?_
    exact EvQ.neg (by omega) (EvQ.ret (by rw [hs, List.take_length]))
def gx (l : List Pt) : Int := (l.map (·.f0)).sum
def gy (l : List Pt) : Int := (l.map (·.f1)).sum
theorem gx_succ {l : List Pt} {i : Nat} (h : i < l.length) : gx (l.take (i + 1)) = gx (l.take i) + l[i].f0 := by
  unfold gx; rw [List.take_succ_eq_append_getElem h, List.map_append, List.sum_append]; simp
theorem gy_succ {l : List Pt} {i : Nat} (h : i < l.length) : gy (l.take (i + 1)) = gy (l.take i) + l[i].f1 := by
  unfold gy; rw [List.take_succ_eq_append_getElem h, List.map_append, List.sum_append]; simp
theorem g_bound {l : List Pt} (h : ∀ p ∈ l, okT p = true) : -(20000 * l.length) ≤ gx l ∧ gx l ≤ 20000 * l.length ∧ -(20000 * l.length) ≤ gy l ∧ gy l ≤ 20000 * l.length := by
  have h1 := sum_bound (l := l.map (·.f0)) (b := 20000) (by
    intro x hx; obtain ⟨p, hp, rfl⟩ := List.mem_map.1 hx; have := okT_of (h p hp); omega)
  have h2 := sum_bound (l := l.map (·.f1)) (b := 20000) (by
    intro x hx; obtain ⟨p, hp, rfl⟩ := List.mem_map.1 hx; have := okT_of (h p hp); omega)
  rw [List.length_map] at h1 h2
  unfold gx gy; omega
theorem g_take {l : List Pt} (h : okTr l = true) (i : Nat) : -240000 ≤ gx (l.take i) ∧ gx (l.take i) ≤ 240000 ∧ -240000 ≤ gy (l.take i) ∧ gy (l.take i) ≤ 240000 := by
  obtain ⟨h1, h2⟩ := okTr_of h
  have hb := g_bound (l := l.take i) (fun p hp => h2 p (List.mem_of_mem_take hp))
  have : (l.take i).length ≤ 12 := Nat.le_trans (List.length_take_le' ..) h1.2
  omega
theorem gapN_eq {l : List Pt} (h : okTr l = true) : ∀ n, n ≤ l.length → gapN l n = (gx (l.take n), gy (l.take n))
  | 0, _ => by simp [gapN, gx, gy]
  | n + 1, hn => by
    have hlt : n < l.length := by omega
    have ih := gapN_eq h n (by omega)
    have b := g_take h (n + 1)
    unfold gapN
    rw [ih, rdP_get hlt]
    rw [gx_succ hlt, gy_succ hlt] at b ⊢
    simp only []
    rw [w64 (by omega) (by omega), w64 (by omega) (by omega)]
def gapV (l : List Pt) : Int × Int × Bool := if okTr l then (gx l, gy l, true) else (0, 0, false)
theorem implGap {l : List Pt} (hl : l.length ≤ 1048576) : EvQ (fun k => impl_TravelGap.f k l) (fun r => r = gapV l) := by
  unfold impl_TravelGap.f gapV
  refine EvQ.call (implValid hl) (EvQ.ite (fun h => ?_) (fun h => EvQ.ret (by simp [h])))
  rw [if_pos h]
  obtain ⟨h1, h2⟩ := okTr_of h
  refine EvQ.pos (by omega) (EvQ.ret ?_)
  rw [gapN_eq h _ (Nat.le_refl _), List.take_length]
theorem specGap0 {l : List Pt} (h : okTr l = true) : EvQ (fun k => spec_l33Gap.f k l) (fun r => r = (gx l, gy l)) := by
  obtain ⟨h1, h2⟩ := okTr_of h
  unfold spec_l33Gap.f
  refine EvQ.loop (σ := Int × Int) (g := fun k i s => spec_l33Gap.l0 k l i s.1 s.2) l.length (fun i s => s = (gx (l.take i), gy (l.take i))) ?_ ?_ 0 (0, 0) (by omega) (by simp [gx, gy])
  · rintro i s hi rfl ih
    have b := g_take h (i + 1)
    rw [gx_succ hi, gy_succ hi] at b
    refine EvQ.step (fun k => by simp only [spec_l33Gap.l0]; rfl) ?_
    refine EvQ.pos (by omega) (EvQ.pos (by omega) ?_)
    rw [rdP_get hi]
    rw [w64 (n := gx (l.take i) + l[i].f0) (by omega) (by omega), w64 (n := gy (l.take i) + l[i].f1) (by omega) (by omega), w64 (n := (i : Int) + 1) (by omega) (by omega)]
    exact ih (_, _) (by rw [gx_succ hi, gy_succ hi])
  · rintro s rfl
    refine EvQ.step (fun k => by simp only [spec_l33Gap.l0]; rfl) ?_
    exact EvQ.neg (by omega) (EvQ.ret (by rw [List.take_length]))
def movN (l : List Pt) (e n : List Int) (m : Nat) : List Pt := (List.range m).map (fun i : Nat => ⟨(rd_T34 l (i : Int)).f0 + Sh.gt e i, (rd_T34 l (i : Int)).f1 + Sh.gt n i⟩)
theorem movN_len (l : List Pt) (e n : List Int) (m : Nat) : (movN l e n m).length = m := by simp [movN]
theorem movN_succ (l : List Pt) (e n : List Int) (m : Nat) : movN l e n (m + 1) = movN l e n m ++ [⟨(rd_T34 l (m : Int)).f0 + Sh.gt e m, (rd_T34 l (m : Int)).f1 + Sh.gt n m⟩] := by simp [movN, List.range_succ]
def closeV (l : List Pt) : List Pt × Bool :=
  if okTr l = true then
    (if ((Sh.shV (l.map len) (-(gx l))).2 && (Sh.shV (l.map len) (-(gy l))).2) = true then
      (if okTr (movN l (Sh.shV (l.map len) (-(gx l))).1 (Sh.shV (l.map len) (-(gy l))).1 l.length) = true then (movN l (Sh.shV (l.map len) (-(gx l))).1 (Sh.shV (l.map len) (-(gy l))).1 l.length, true) else ([], false))
    else ([], false))
  else ([], false)
theorem closeV_len {l : List Pt} (hl : l.length ≤ 1048576) : (closeV l).1.length ≤ 1048576 := by
  unfold closeV
  split
  · split
    · split
      · rw [movN_len]; exact hl
      · simp
    · simp
  · simp
def endV (l : List Pt) (e n : List Int) : List Pt × Bool := if okTr (movN l e n l.length) = true then (movN l e n l.length, true) else ([], false)
theorem implEndC {l : List Pt} {e n : List Int} (h : okTr l = true) (he : e.length = l.length) (hn : n.length = l.length) (be : ∀ i, i < l.length → -10000000 ≤ Sh.gt e i ∧ Sh.gt e i ≤ 10000000) (bn : ∀ i, i < l.length → -10000000 ≤ Sh.gt n i ∧ Sh.gt n i ≤ 10000000) :
    EvQ (fun k => impl_TravelClose.l1 k e n [] l (l.length : Int) 0) (fun r => r = endV l e n) := by
  obtain ⟨h1, h2⟩ := okTr_of h
  refine EvQ.loop (σ := List Pt) (g := fun k i s => impl_TravelClose.l1 k e n s l (l.length : Int) i) l.length (fun i s => s = movN l e n i) ?_ ?_ 0 [] (by omega) (by simp [movN])
  · rintro i _ hi rfl ih
    have hp := okT_of (h2 _ (List.getElem_mem hi))
    have b1 := be i hi
    have b2 := bn i hi
    refine EvQ.step (fun k => by simp only [impl_TravelClose.l1]; rfl) ?_
    refine EvQ.pos (by omega) (EvQ.pos (by omega) (EvQ.pos (by omega) (EvQ.pos (by omega) (EvQ.pos (by omega) (EvQ.pos (by rw [movN_len]; omega) ?_)))))
    have hs := movN_succ l e n i
    rw [rdP_get hi] at hs
    rw [rdP_get hi, show rd e (i : Int) = Sh.gt e i from rd_nat _ _, show rd n (i : Int) = Sh.gt n i from rd_nat _ _, w64 (n := l[i].f0 + Sh.gt e i) (by omega) (by omega), w64 (n := l[i].f1 + Sh.gt n i) (by omega) (by omega), w64 (n := (i : Int) + 1) (by omega) (by omega)]
    exact ih _ hs.symm
  · rintro _ rfl
    refine EvQ.step (fun k => by simp only [impl_TravelClose.l1]; rfl) ?_
    refine EvQ.neg (by omega) (EvQ.call (implValid (by rw [movN_len]; omega)) ?_)
    unfold endV
    exact EvQ.ite (fun h => EvQ.ret (by rw [if_pos h])) (fun h => EvQ.ret (by rw [if_neg h]))
theorem specEndC {l : List Pt} {e n : List Int} (h : okTr l = true) (he : e.length = l.length) (hn : n.length = l.length) (be : ∀ i, i < l.length → -10000000 ≤ Sh.gt e i ∧ Sh.gt e i ≤ 10000000) (bn : ∀ i, i < l.length → -10000000 ≤ Sh.gt n i ∧ Sh.gt n i ≤ 10000000) :
    EvQ (fun k => spec_TravelClose.l0 k l e n [] 0) (fun r => r = endV l e n) := by
  obtain ⟨h1, h2⟩ := okTr_of h
  refine EvQ.loop (σ := List Pt) (g := fun k i s => spec_TravelClose.l0 k l e n s i) l.length (fun i s => s = movN l e n i) ?_ ?_ 0 [] (by omega) (by simp [movN])
  · rintro i _ hi rfl ih
    have hp := okT_of (h2 _ (List.getElem_mem hi))
    have b1 := be i hi
    have b2 := bn i hi
    refine EvQ.step (fun k => by simp only [spec_TravelClose.l0]; rfl) ?_
    refine EvQ.pos (by omega) (EvQ.pos (by omega) (EvQ.pos (by omega) (EvQ.pos (by omega) (EvQ.pos (by rw [movN_len]; omega) ?_))))
    have hs := movN_succ l e n i
    rw [rdP_get hi] at hs
    rw [rdP_get hi, show rd e (i : Int) = Sh.gt e i from rd_nat _ _, show rd n (i : Int) = Sh.gt n i from rd_nat _ _, w64 (n := l[i].f0 + Sh.gt e i) (by omega) (by omega), w64 (n := l[i].f1 + Sh.gt n i) (by omega) (by omega), w64 (n := (i : Int) + 1) (by omega) (by omega)]
    exact ih _ hs.symm
  · rintro _ rfl
    refine EvQ.step (fun k => by simp only [spec_TravelClose.l0]; rfl) ?_
    refine EvQ.neg (by omega) (EvQ.call (specValid (by rw [movN_len]; omega)) ?_)
    unfold endV
    exact EvQ.ite (fun h => EvQ.ret (by rw [if_pos h])) (fun h => EvQ.ret (by rw [if_neg h]))
theorem shares_ok {l : List Pt} {a : Int} (h : (Sh.shV (l.map len) a).2 = true) : (Sh.shV (l.map len) a).1.length = l.length ∧ ∀ i, i < l.length → -10000000 ≤ Sh.gt (Sh.shV (l.map len) a).1 i ∧ Sh.gt (Sh.shV (l.map len) a).1 i ≤ 10000000 := by
  obtain ⟨_, _, h3, _, h5⟩ := Sh.shV_all h
  rw [List.length_map] at h3 h5
  exact ⟨h3, fun i hi => (h5 i hi).2⟩
theorem implClose {l : List Pt} (hl : l.length ≤ 1048576) : EvQ (fun k => impl_TravelClose.f k l) (fun r => r = closeV l) := by
  unfold impl_TravelClose.f
  refine EvQ.call (implGap hl) ?_
  unfold gapV
  by_cases h : okTr l = true
  · obtain ⟨h1, h2⟩ := okTr_of h
    have hg := g_take h l.length
    rw [List.take_length] at hg
    rw [if_pos h]
    simp only []
    refine EvQ.pos trivial (EvQ.pos (by omega) (EvQ.pos (by omega) ?_))
    refine EvQ.loop (σ := List Int) (g := fun k i s => impl_TravelClose.l0 k l s l (l.length : Int) i (gx l) (gy l)) l.length (fun i s => s = (l.take i).map len) ?_ ?_ 0 [] (by omega) (by simp)
    · rintro i s hi hs ih
      have hm := h2 _ (List.getElem_mem hi)
      have hsl : s.length ≤ 12 := by rw [hs, List.length_map, List.length_take]; omega
      refine EvQ.step (fun k => by simp only [impl_TravelClose.l0]; rfl) ?_
      rw [rdP_get hi]
      refine EvQ.pos (by omega) (EvQ.pos (by omega) (EvQ.pos (by omega) (EvQ.bindc (stepLength hm) (EvQ.pos (by omega) ?_))))
      rw [w64 (n := (i : Int) + 1) (by omega) (by omega)]
      refine ih _ ?_
      rw [hs, List.take_succ_eq_append_getElem hi, List.map_append]; rfl
    · rintro s hs
      rw [List.take_length] at hs
      subst hs
      have hml : (l.map len).length ≤ 1048576 := by rw [List.length_map]; exact hl
      refine EvQ.step (fun k => by simp only [impl_TravelClose.l0]; rfl) ?_
      rw [w64 (n := -gx l) (by omega) (by omega), w64 (n := -gy l) (by omega) (by omega)]
      refine EvQ.neg (by omega) (EvQ.call (Sh.implShare hml) (EvQ.call (Sh.implShare hml) ?_))
      have hbad : ∀ e n, ¬ ((Sh.shV (l.map len) (-(gx l))).2 && (Sh.shV (l.map len) (-(gy l))).2) = true → EvQ (fun k => impl_TravelClose.j1 k l e n true) (fun r => r = closeV l) := fun e n hb => by
        refine EvQ.step (fun k => by simp only [impl_TravelClose.j1]; rfl) ?_
        refine EvQ.pos trivial (EvQ.ret ?_)
        unfold closeV; rw [if_pos h, if_neg hb]
      refine EvQ.ite (fun hx => ?_) (fun hx => hbad _ _ (by rw [Bool.eq_false_iff.2 hx]; simp))
      cases hy : (Sh.shV (l.map len) (-(gy l))).2 with
      | false => exact hbad _ _ (by rw [hy]; simp)
      | true =>
        obtain ⟨s1, s2⟩ := shares_ok hx
        obtain ⟨s3, s4⟩ := shares_ok hy
        refine EvQ.step (fun k => by simp only [impl_TravelClose.j1]; rfl) ?_
        refine EvQ.neg (by simp) (EvQ.pos (by omega) (EvQ.pos (by omega) ((implEndC h s1 s3 s2 s4).mono ?_)))
        rintro _ rfl
        unfold closeV endV
        rw [if_pos h, hx, hy]
        simp
  · rw [if_neg h]
    simp only []
    refine EvQ.neg (by simp) (EvQ.ret ?_)
    unfold closeV; rw [if_neg h]
theorem specClose {l : List Pt} (hl : l.length ≤ 1048576) : EvQ (fun k => spec_TravelClose.f k l) (fun r => r = closeV l) := by
  unfold spec_TravelClose.f
  refine EvQ.call (specValid hl) (EvQ.ite (fun h => ?_) (fun h => EvQ.ret (by unfold closeV; rw [if_neg h])))
  obtain ⟨h1, h2⟩ := okTr_of h
  have hg := g_take h l.length
  rw [List.take_length] at hg
  have hml : (l.map len).length ≤ 1048576 := by rw [List.length_map]; exact hl
  refine EvQ.call (specGap0 h) ?_
  simp only []
  rw [w64 (n := -gx l) (by omega) (by omega), w64 (n := -gy l) (by omega) (by omega)]
  refine EvQ.call (specLengths h) (EvQ.call (Sh.specShare hml) (EvQ.call (specLengths h) (EvQ.call (Sh.specShare hml) ?_)))
  have hbad : ∀ e n, ¬ ((Sh.shV (l.map len) (-(gx l))).2 && (Sh.shV (l.map len) (-(gy l))).2) = true → EvQ (fun k => spec_TravelClose.j0 k l e n true) (fun r => r = closeV l) := fun e n hb => by
    refine EvQ.step (fun k => by simp only [spec_TravelClose.j0]; rfl) ?_
    refine EvQ.pos trivial (EvQ.ret ?_)
    unfold closeV; rw [if_pos h, if_neg hb]
  refine EvQ.ite (fun hx => ?_) (fun hx => hbad _ _ (by rw [Bool.eq_false_iff.2 hx]; simp))
  cases hy : (Sh.shV (l.map len) (-(gy l))).2 with
  | false => exact hbad _ _ (by rw [hy]; simp)
  | true =>
    obtain ⟨s1, s2⟩ := shares_ok hx
    obtain ⟨s3, s4⟩ := shares_ok hy
    refine EvQ.step (fun k => by simp only [spec_TravelClose.j0]; rfl) ?_
    refine EvQ.neg (by simp) ((specEndC h s1 s3 s2 s4).mono ?_)
    rintro _ rfl
    unfold closeV endV
    rw [if_pos h, hx, hy]
    simp
end Go.Proofs.Ytolkcbnolbkgmaa.TravA

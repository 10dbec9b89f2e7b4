/- Chapter 33, plain: the gap of a traverse. No program in sight. -/
import Derived.Test.YtkafhhiplimniaaTravA
import Derived.Test.YtkafhhiplimniaaPx8
import Derived.Test.YtkafhhiplimniaaPx7
set_option linter.unusedVariables false
set_option linter.unusedSimpArgs false
namespace Go.Proofs.Ytkafhhiplimniaa.TravA
open Go.RowKit Go.Proofs.Ytkafhhiplimniaa.P Go.Proofs.YtkafhhiplimniaaW.PrintWords Go.Proofs.YtkafhhiplimniaaW.PrintLast Go.Proofs.YtkafhhiplimniaaW.PrintMore Go.Proofs.Ytkafhhiplimniaa.Ev
/-- The sums of the first and of the second coordinates. -/
def gx (l : List Pt) : Int := (l.map (·.f0)).sum
def gy (l : List Pt) : Int := (l.map (·.f1)).sum
theorem gx_succ {l : List Pt} {i : Nat} (h : i < l.length) : gx (l.take (i + 1)) = gx (l.take i) + l[i].f0 := by
  unfold gx; rw [List.take_succ_eq_append_getElem h, List.map_append, List.sum_append]; simp
theorem gy_succ {l : List Pt} {i : Nat} (h : i < l.length) : gy (l.take (i + 1)) = gy (l.take i) + l[i].f1 := by
  unfold gy; rw [List.take_succ_eq_append_getElem h, List.map_append, List.sum_append]; simp
theorem g_bound {l : List Pt} (h : ∀ p ∈ l, okT p = true) : -(20000 * l.length) ≤ gx l ∧ gx l ≤ 20000 * l.length ∧ -(20000 * l.length) ≤ gy l ∧ gy l ≤ 20000 * l.length := by
  have h1 := sum_bound (l := l.map (·.f0)) (b := 20000) (by
    intro x hx; obtain ⟨p, hp, rfl⟩ := List.mem_map.1 hx; have := okT_of (h p hp); omega)
  have h2 := sum_bound (l := l.map (·.f1)) (b := 20000) (by
    intro x hx; obtain ⟨p, hp, rfl⟩ := List.mem_map.1 hx; have := okT_of (h p hp); omega)
  rw [List.length_map] at h1 h2
  unfold gx gy; omega
theorem g_take {l : List Pt} (h : okTr l = true) (i : Nat) : -240000 ≤ gx (l.take i) ∧ gx (l.take i) ≤ 240000 ∧ -240000 ≤ gy (l.take i) ∧ gy (l.take i) ≤ 240000 := by
  obtain ⟨h1, h2⟩ := okTr_of h
  have hb := g_bound (l := l.take i) (fun p hp => h2 p (List.mem_of_mem_take hp))
  have : (l.take i).length ≤ 12 := Nat.le_trans (List.length_take_le' ..) h1.2
  omega
theorem gapN_eq {l : List Pt} (h : okTr l = true) : ∀ n, n ≤ l.length → gapN l n = (gx (l.take n), gy (l.take n))
  | 0, _ => by simp [gapN, gx, gy]
  | n + 1, hn => by
    have hlt : n < l.length := by omega
    have ih := gapN_eq h n (by omega)
    have b := g_take h (n + 1)
    unfold gapN
    rw [ih, rdP_get hlt]
    rw [gx_succ hlt, gy_succ hlt] at b ⊢
    simp only []
    rw [w64 (by omega) (by omega), w64 (by omega) (by omega)]
def gapV (l : List Pt) : Int × Int × Bool := if okTr l then (gx l, gy l, true) else (0, 0, false)
theorem implGap {l : List Pt} (hl : l.length ≤ 1048576) : EvQ (fun k => impl_TravelGap.f k l) (fun r => r = gapV l) := by
  unfold impl_TravelGap.f gapV
  refine EvQ.call (implValid hl) (EvQ.ite (fun h => ?_) (fun h => EvQ.ret (by simp [h])))
  rw [if_pos h]
  obtain ⟨h1, h2⟩ := okTr_of h
  refine EvQ.pos (by omega) (EvQ.ret ?_)
  rw [gapN_eq h _ (Nat.le_refl _), List.take_length]
theorem specGap {l : List Pt} (hl : l.length ≤ 1048576) : EvQ (fun k => spec_TravelGap.f k l) (fun r => r = gapV l) := by
  unfold spec_TravelGap.f gapV
  refine EvQ.call (specValid hl) (EvQ.ite (fun h => ?_) (fun h => EvQ.ret (by simp [h])))
  rw [if_pos h]
  obtain ⟨h1, h2⟩ := okTr_of h
  refine EvQ.bind (P := fun r => r = (gx l, gy l)) ?_ (by rintro _ rfl; exact EvQ.ret rfl)
  unfold spec_l33Gap.f
  refine EvQ.loop (σ := Int × Int) (g := fun k i s => spec_l33Gap.l0 k l i s.1 s.2) l.length (fun i s => s = (gx (l.take i), gy (l.take i))) ?_ ?_ 0 (0, 0) (by omega) (by simp [gx, gy])
  · rintro i s hi rfl ih
    have b := g_take h (i + 1)
    rw [gx_succ hi, gy_succ hi] at b
    refine EvQ.step (fun k => by simp only [spec_l33Gap.l0]; rfl) ?_
    refine EvQ.pos (by omega) (EvQ.pos (by omega) ?_)
    rw [rdP_get hi]
    rw [w64 (n := gx (l.take i) + l[i].f0) (by omega) (by omega), w64 (n := gy (l.take i) + l[i].f1) (by omega) (by omega), w64 (n := (i : Int) + 1) (by omega) (by omega)]
    exact ih (_, _) (by rw [gx_succ hi, gy_succ hi])
  · rintro s rfl
    refine EvQ.step (fun k => by simp only [spec_l33Gap.l0]; rfl) ?_
    exact EvQ.neg (by omega) (EvQ.ret (by rw [List.take_length]))
end Go.Proofs.Ytkafhhiplimniaa.TravA

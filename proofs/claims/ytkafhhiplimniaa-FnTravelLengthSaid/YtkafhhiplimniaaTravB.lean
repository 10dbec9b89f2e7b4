/- Chapter 33, plain: how long a traverse is. No program in sight. -/
import Derived.Test.YtkafhhiplimniaaTravA
import Derived.Test.YtkafhhiplimniaaPx11
import Derived.Test.YtkafhhiplimniaaPx12
import Derived.Test.YtkafhhiplimniaaPx10
set_option linter.unusedVariables false
set_option linter.unusedSimpArgs false
namespace Go.Proofs.Ytkafhhiplimniaa.TravA
open Go.RowKit Go.Proofs.Ytkafhhiplimniaa.P Go.Proofs.YtkafhhiplimniaaW.PrintWords Go.Proofs.YtkafhhiplimniaaW.PrintLast Go.Proofs.YtkafhhiplimniaaW.PrintMore Go.Proofs.Ytkafhhiplimniaa.Ev
/-- How long a step is. -/
def ab (x : Int) : Int := if x < 0 then -x else x
def len (p : Pt) : Int := ab p.f0 + ab p.f1
theorem len_range {p : Pt} (h : okT p = true) : 0 ≤ len p ∧ len p ≤ 40000 := by
  have := okT_of h
  unfold len ab; split <;> split <;> omega
theorem absInt {x : Int} (h : -20000 ≤ x ∧ x ≤ 20000) : impl_absInt.f x = some (ab x) := by
  unfold impl_absInt.f ab
  rw [w64 (n := -x) (by omega) (by omega)]
  split <;> rfl
theorem l1Size {x : Int} (h : -20000 ≤ x ∧ x ≤ 20000) : spec_l1Size.f x = some (ab x) := by
  unfold spec_l1Size.f ab mx
  rw [w64 (n := -x) (by omega) (by omega)]
  congr 1; split <;> split <;> omega
theorem stepLength {p : Pt} (h : okT p = true) : impl_stepLength.f p.f0 p.f1 = some (len p) := by
  have hh := okT_of h
  have hl := len_range h
  unfold impl_stepLength.f
  rw [absInt hh.1, Option.bind_some, absInt hh.2, Option.bind_some]
  unfold len at *
  rw [w64 (by omega) (by omega)]
/-- How long all steps are. -/
def lenSum (l : List Pt) : Int := (l.map len).sum
theorem lenSum_bound {l : List Pt} (h : okTr l = true) (i : Nat) : 0 ≤ lenSum (l.take i) ∧ lenSum (l.take i) ≤ 480000 := by
  obtain ⟨h1, h2⟩ := okTr_of h
  have hb := sum_bound (l := (l.take i).map len) (b := 40000) (by
    intro x hx
    obtain ⟨p, hp, rfl⟩ := List.mem_map.1 hx
    have := len_range (h2 p (List.mem_of_mem_take hp)); omega)
  have hle : (l.take i).length ≤ 12 := Nat.le_trans (List.length_take_le' ..) h1.2
  rw [List.length_map] at hb
  have hn : 0 ≤ lenSum (l.take i) := by
    have : ∀ m : List Pt, (∀ p ∈ m, okT p = true) → 0 ≤ (m.map len).sum := by
      intro m
      induction m with
      | nil => intro _; simp
      | cons p m ih => intro hm; rw [List.map_cons, List.sum_cons]; have := ih (fun q hq => hm q (by simp [hq])); have := len_range (hm p (by simp)); omega
    exact this _ (fun p hp => h2 p (List.mem_of_mem_take hp))
  unfold lenSum at *
  omega
theorem lenSum_succ {l : List Pt} {i : Nat} (h : i < l.length) : lenSum (l.take (i + 1)) = lenSum (l.take i) + len l[i] := by
  unfold lenSum
  rw [List.take_succ_eq_append_getElem h, List.map_append, List.sum_append]; simp
def lengthV (l : List Pt) : Int := if okTr l then lenSum l else -1
theorem implLength {l : List Pt} (hl : l.length ≤ 1048576) : EvQ (fun k => impl_TravelLength.f k l) (fun r => r = lengthV l) := by
  unfold impl_TravelLength.f lengthV
  refine EvQ.call (implValid hl) (EvQ.ite (fun h => ?_) (fun h => EvQ.ret (by simp [h])))
  rw [if_pos h]
  obtain ⟨h1, h2⟩ := okTr_of h
  refine EvQ.loop (σ := Int) (g := fun k i s => impl_TravelLength.l0 k s l (l.length : Int) i) l.length (fun i s => s = lenSum (l.take i)) ?_ ?_ 0 0 (by omega) (by simp [lenSum])
  · rintro i s hi hs ih
    have hm := h2 _ (List.getElem_mem hi)
    have hb := lenSum_bound h i
    have hr := len_range hm
    refine EvQ.step (fun k => by simp only [impl_TravelLength.l0]; rfl) ?_
    refine EvQ.pos (by omega) (EvQ.pos (by omega) (EvQ.pos (by omega) ?_))
    rw [rdP_get hi]
    refine EvQ.bindc (stepLength hm) ?_
    rw [w64 (n := s + len l[i]) (by omega) (by omega), w64 (n := (i : Int) + 1) (by omega) (by omega)]
    exact ih _ (by rw [hs, lenSum_succ hi])
  · rintro s hs
    refine EvQ.step (fun k => by simp only [impl_TravelLength.l0]; rfl) ?_
    exact EvQ.neg (by omega) (EvQ.ret (by rw [hs, List.take_length]))
theorem specLengths {l : List Pt} (h : okTr l = true) : EvQ (fun k => spec_l33Lengths.f k l) (fun r => r = l.map len) := by
  obtain ⟨h1, h2⟩ := okTr_of h
  unfold spec_l33Lengths.f
  refine EvQ.loop (σ := List Int) (g := fun k i s => spec_l33Lengths.l0 k l s i) l.length (fun i s => s = (l.take i).map len) ?_ ?_ 0 [] (by omega) (by simp)
  · rintro i s hi hs ih
    have hm := h2 _ (List.getElem_mem hi)
    have hh := okT_of hm
    have hr := len_range hm
    have hsl : s.length ≤ 12 := by rw [hs, List.length_map, List.length_take]; omega
    refine EvQ.step (fun k => by simp only [spec_l33Lengths.l0]; rfl) ?_
    rw [rdP_get hi]
    refine EvQ.pos (by omega) (EvQ.pos (by omega) (EvQ.bindc (l1Size hh.1) (EvQ.bindc (l1Size hh.2) (EvQ.pos (by omega) ?_))))
    rw [w64 (n := ab l[i].f0 + ab l[i].f1) (by unfold len at hr; omega) (by unfold len at hr; omega), w64 (n := (i : Int) + 1) (by omega) (by omega)]
    refine ih _ ?_
    rw [hs, List.take_succ_eq_append_getElem hi, List.map_append]; rfl
  · rintro s hs
    refine EvQ.step (fun k => by simp only [spec_l33Lengths.l0]; rfl) ?_
    exact EvQ.neg (by omega) (EvQ.ret (by rw [hs, List.take_length]))
theorem specSum {l : List Int} (hl : l.length ≤ 12) (hb : ∀ i, 0 ≤ (l.take i).sum ∧ (l.take i).sum ≤ 480000) : EvQ (fun k => spec_l14Sum.f k l) (fun r => r = l.sum) := by
  unfold spec_l14Sum.f
  refine EvQ.loop (σ := Int) (g := fun k i s => spec_l14Sum.l0 k l s i) l.length (fun i s => s = (l.take i).sum) ?_ ?_ 0 0 (by omega) (by simp)
  · rintro i s hi hs ih
    have b1 := hb (i + 1)
    rw [sum_take_succ hi] at b1
    refine EvQ.step (fun k => by simp only [spec_l14Sum.l0]; rfl) ?_
    rw [rd_get hi, w64 (n := s + l[i]) (by omega) (by omega), w64 (n := (i : Int) + 1) (by omega) (by omega)]
    refine EvQ.pos (by omega) (EvQ.pos (by omega) (ih _ ?_))
    rw [hs, sum_take_succ hi]
  · rintro s hs
    refine EvQ.step (fun k => by simp only [spec_l14Sum.l0]; rfl) ?_
    exact EvQ.neg (by omega) (EvQ.ret (by rw [hs, List.take_length]))
theorem specLength {l : List Pt} (hl : l.length ≤ 1048576) : EvQ (fun k => spec_TravelLength.f k l) (fun r => r = lengthV l) := by
  unfold spec_TravelLength.f lengthV
  refine EvQ.call (specValid hl) (EvQ.ite (fun h => ?_) (fun h => EvQ.ret (by simp [h])))
  rw [if_pos h]
  obtain ⟨h1, h2⟩ := okTr_of h
  refine EvQ.call (specLengths h) (EvQ.call (specSum (by simpa using h1.2) (fun i => ?_)) (EvQ.ret rfl))
  have := lenSum_bound h i
  unfold lenSum at this
  rwa [List.map_take] at this
end Go.Proofs.Ytkafhhiplimniaa.TravA

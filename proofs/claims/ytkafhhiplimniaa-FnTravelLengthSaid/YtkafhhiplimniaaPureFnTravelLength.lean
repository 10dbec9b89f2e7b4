/- A gap is no longer than the way: the law holds for every code of bytes. No condition is added. -/
import Derived.Test.YtkafhhiplimniaaPx30
import Derived.Test.YtkafhhiplimniaaTravB
import Derived.Test.YtkafhhiplimniaaTravC
import Derived.Test.YtkafhhiplimniaaDrawTravel
set_option linter.unusedVariables false
set_option linter.unusedSimpArgs false
namespace Go.Proofs.Ytkafhhiplimniaa.Pure
open Go.RowKit Go.Proofs.Ytkafhhiplimniaa.P Go.Proofs.YtkafhhiplimniaaW.PrintWords Go.Proofs.Ytkafhhiplimniaa.Ev Go.Proofs.Ytkafhhiplimniaa.TravA Go.Proofs.Ytkafhhiplimniaa.Pick
theorem okTr_rev {l : List Pt} (h : okTr l = true) : okTr l.reverse = true := by
  unfold okTr at h ⊢
  rw [List.length_reverse, List.all_reverse]; exact h
theorem gx_rev (l : List Pt) : gx l.reverse = gx l := by unfold gx; rw [List.map_reverse, List.sum_reverse]
theorem gy_rev (l : List Pt) : gy l.reverse = gy l := by unfold gy; rw [List.map_reverse, List.sum_reverse]
theorem len_rev (l : List Pt) : lenSum l.reverse = lenSum l := by unfold lenSum; rw [List.map_reverse, List.sum_reverse]
theorem gap_le : ∀ l : List Pt, mx (gx l) (-gx l) + mx (gy l) (-gy l) ≤ lenSum l
  | [] => by decide
  | p :: l => by
    have ih := gap_le l
    have e1 : gx (p :: l) = p.f0 + gx l := by simp [gx]
    have e2 : gy (p :: l) = p.f1 + gy l := by simp [gy]
    have e3 : lenSum (p :: l) = len p + lenSum l := by simp [lenSum]
    rw [e1, e2, e3]
    unfold len ab
    unfold mx at ih ⊢
    split <;> split <;> split <;> split <;> split at ih <;> split at ih <;> omega
theorem FnTravelLength : laws_FnTravelLength.Pure := by
  intro c _ _ hw
  refine EvQ.rounds (g := fun k => laws_FnTravelLength.f k c) ?_
  unfold laws_FnTravelLength.f
  refine EvQ.ite (fun _ => EvQ.ret rfl) (fun _ => ?_)
  unfold spec_DrawTravelLength.f
  refine drawnTravel hw (fun l h6 => ?_)
  have hl : l.length ≤ 1048576 := by omega
  refine EvQ.call (implLength hl) (EvQ.call (specLength hl) (EvQ.pos rfl ?_))
  refine EvQ.step (fun k => by simp only [laws_FnTravelLength.j0]; rfl) ?_
  refine EvQ.ite (fun _ => EvQ.ret (by simp)) (fun h0 => ?_)
  have h : okTr l = true := by
    unfold lengthV at h0
    cases hk : okTr l with
    | true => rfl
    | false => rw [hk] at h0; simp at h0
  have b := g_take h l.length
  rw [List.take_length] at b
  have hv : gapV l = (gx l, gy l, true) := by unfold gapV; rw [if_pos h]
  have hlv : lengthV l = lenSum l := by unfold lengthV; rw [if_pos h]
  refine EvQ.call (implGap hl) ?_
  rw [hv, hlv]
  simp only []
  have hrl : l.reverse.length ≤ 1048576 := by rw [List.length_reverse]; exact hl
  have hend : ∀ s : List Pt, s = l.reverse → EvQ (fun k => laws_FnTravelLength.l0 k l (lenSum l) true s (-1) (gx l) (gy l)) (fun x => x = true) := by
    rintro s rfl
    refine EvQ.step (fun k => by simp only [laws_FnTravelLength.l0]; rfl) ?_
    refine EvQ.neg (by omega) (EvQ.call (implGap hrl) ?_)
    have hv2 : gapV l.reverse = (gx l, gy l, true) := by unfold gapV; rw [if_pos (okTr_rev h), gx_rev, gy_rev]
    have hlv2 : lengthV l.reverse = lenSum l := by unfold lengthV; rw [if_pos (okTr_rev h), len_rev]
    rw [hv2]
    simp only []
    have hg := gap_le l
    have hm1 : mx (gx l) (-gx l) ≤ 240000 := by unfold mx; split <;> omega
    have hm2 : mx (gy l) (-gy l) ≤ 240000 := by unfold mx; split <;> omega
    have hm3 : 0 ≤ mx (gx l) (-gx l) := by unfold mx; split <;> omega
    have hm4 : 0 ≤ mx (gy l) (-gy l) := by unfold mx; split <;> omega
    rw [w64 (n := -gx l) (by omega) (by omega), w64 (n := -gy l) (by omega) (by omega)]
    rw [w64 (n := mx (gx l) (-gx l) + mx (gy l) (-gy l)) (by omega) (by omega)]
    refine EvQ.pos (by simp) (EvQ.pos (by simp) (EvQ.pos (by simp) (EvQ.pos hg (EvQ.call (implLength hrl) (EvQ.ret ?_)))))
    rw [hlv2]; simp
  have hw1 : wrap64 ((l.length : Int) - 1) = (l.length : Int) - 1 := w64 (by omega) (by omega)
  rw [hw1]
  have hlp : ∀ (n : Nat) (s : List Pt), n ≤ l.length → s = (l.drop n).reverse → EvQ (fun k => laws_FnTravelLength.l0 k l (lenSum l) true s ((n : Int) - 1) (gx l) (gy l)) (fun x => x = true) := by
    intro n
    induction n with
    | zero => intro s _ hs; exact hend s (by simpa using hs)
    | succ n ih =>
      intro s hn hs
      refine EvQ.step (fun k => by simp only [laws_FnTravelLength.l0]; rfl) ?_
      have hsl : s.length ≤ 6 := by rw [hs, List.length_reverse, List.length_drop]; omega
      have e : ((n + 1 : Nat) : Int) - 1 = (n : Int) := by omega
      rw [e]
      refine EvQ.pos (by omega) (EvQ.pos (by omega) (EvQ.pos (by omega) (EvQ.pos (by omega) ?_)))
      rw [rdP_get (by omega), w64 (n := (n : Int) - 1) (by omega) (by omega)]
      refine ih _ (by omega) ?_
      rw [hs, List.drop_eq_getElem_cons (i := n) (by omega), List.reverse_cons]
  exact hlp l.length [] (Nat.le_refl _) (by simp)
end Go.Proofs.Ytkafhhiplimniaa.Pure

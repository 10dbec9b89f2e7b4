import Derived.Test.YtfonigbkoligmaaPx11
import Derived.Test.YtfonigbkoligmaaShareP
import Derived.Test.YtfonigbkoligmaaDrawSplit
set_option linter.unusedVariables false
set_option linter.unusedSimpArgs false
namespace Go.Proofs.Ytfonigbkoligmaa.Pure
open Go.RowKit Go.Proofs.Ytfonigbkoligmaa.P Go.Proofs.YtfonigbkoligmaaW.PrintWords Go.Proofs.Ytfonigbkoligmaa.Ev Go.Proofs.Ytfonigbkoligmaa.Cr Go.Proofs.Ytfonigbkoligmaa.Pick
theorem FnShareParcel : laws_FnShareParcel.Pure := by
  intro c _ _ hw
  refine EvQ.rounds (g := fun k => laws_FnShareParcel.f k c) ?_
  unfold laws_FnShareParcel.f
  refine EvQ.ite (fun _ => EvQ.ret rfl) (fun _ => ?_)
  unfold spec_DrawParcelShare.f
  refine drawnSplit hw (fun l i j h12 hi hj => ?_)
  unfold Idx at hi hj
  simp only []
  refine EvQ.call (a := shV l i j) (shareQ l i j) (EvQ.call (shareS (by omega) (by omega) (by omega)) (EvQ.neg (by simp) (EvQ.neg (by simp) ?_)))
  refine EvQ.step (fun k => by simp only [laws_FnShareParcel.j0]; rfl) ?_
  refine EvQ.ite (fun _ => EvQ.pos (by simp) (EvQ.ret (by simp))) (fun h => ?_)
  have hq : (shV l i j).2.2 = true := by simpa using h
  have hs : (splitV l i j).2.2 = true := by
    unfold shV at hq
    split at hq
    · assumption
    · cases hq
  obtain ⟨⟨p0, i0, ij, jl, pa, pb⟩, e⟩ := splitC hs
  obtain ⟨a, rfl⟩ := Int.eq_ofNat_of_zero_le i0
  obtain ⟨b, rfl⟩ := Int.eq_ofNat_of_zero_le (show 0 ≤ j by omega)
  simp only [Int.toNat_natCast] at pa pb e
  have ev : shV l (a : Int) (b : Int) = quoV (area (partA l a b)) (area l) := by unfold shV; rw [if_pos hs, e]
  have hab : a < b := by omega
  have hb : b < l.length := by omega
  have a1 := (prB_iff.1 pa).2
  have a2 := (prB_iff.1 pb).2
  have a3 := area_parts hab hb
  obtain ⟨r1, r2⟩ := rot_parts hab hb
  rw [ev] at hq ⊢
  obtain ⟨t, m, hQ⟩ : ∃ t m, quoV (area (partA l a b)) (area l) = (t, m, true) := ⟨_, _, by rw [← hq]⟩
  rw [hQ]
  have hlt := share_lt a1 (by omega) hQ
  have hR := quo_rest a1 (by omega) hQ
  have k1 := (quoV_true hQ).2.2
  have k2 := (quoV_true hR).2.2
  have ec : ((l.length : Int) - (b : Int) + (a : Int)) = ((l.length - b + a : Nat) : Int) := by omega
  have e2 : shV (rotL l b) 0 ((l.length - b + a : Nat) : Int) = (m - t, m, true) := by
    have es : splitV (rotL l b) 0 ((l.length - b + a : Nat) : Int) = (partB l a b, partA l a b, true) := by
      unfold splitV
      rw [Int.toNat_natCast, show (0 : Int).toNat = 0 from rfl, r1, r2]
      rw [if_pos ⟨prB_rot (by omega) p0, by omega, by omega, by rw [rot_len]; omega, pb, pa⟩]
    unfold shV
    rw [es, if_pos rfl, area_rot (by omega), ← hR]
    congr 1
    show area (partB l a b) = _
    omega
  refine EvQ.bindc (begunR (by omega) (by omega)) ?_
  rw [w64 (n := (l.length : Int) - (b : Int)) (by omega) (by omega), w64 (n := (l.length : Int) - (b : Int) + (a : Int)) (by omega) (by omega), ec]
  refine EvQ.call (a := shV (rotL l b) 0 ((l.length - b + a : Nat) : Int)) (shareQ _ _ _) ?_
  rw [e2]
  refine EvQ.call (addRest k1 k2 hlt) ?_
  exact EvQ.pos hlt.1 (EvQ.pos hlt.2 (EvQ.pos rfl (EvQ.pos rfl (EvQ.bindc rfl (EvQ.ret rfl)))))
end Go.Proofs.Ytfonigbkoligmaa.Pure

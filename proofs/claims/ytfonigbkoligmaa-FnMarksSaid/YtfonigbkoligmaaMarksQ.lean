import Derived.Test.YtfonigbkoligmaaPolyW
import Derived.Test.YtfonigbkoligmaaPolyS
import Derived.Test.YtfonigbkoligmaaPx6
import Derived.Test.YtfonigbkoligmaaPx8
set_option linter.unusedVariables false
set_option linter.unusedSimpArgs false
namespace Go.Proofs.Ytfonigbkoligmaa.Cr
open Go.RowKit Go.Proofs.Ytfonigbkoligmaa.P Go.Proofs.YtfonigbkoligmaaW.PrintWords Go.Proofs.YtfonigbkoligmaaW.PrintLast Go.Proofs.YtfonigbkoligmaaW.PrintMore Go.Proofs.Ytfonigbkoligmaa.Ev
def mkV (l : List S33) : List S33 × Bool := if prB l = true then (marks l, true) else ([], false)
theorem tmodP {i n : Nat} (hn : 0 < n) (h : n ≤ 1000) (hi : i < n) : Int.tmod (wrap64 (wrap64 ((i : Int) + (n : Int)) - 1)) (n : Int) = (((i + (n - 1)) % n : Nat) : Int) := by
  rw [w64 (n := (i : Int) + (n : Int)) (by omega) (by omega), w64 (n := (i : Int) + (n : Int) - 1) (by omega) (by omega), Int.tmod_eq_emod_of_nonneg (by omega), show (i : Int) + (n : Int) - 1 = ((i + (n - 1) : Nat) : Int) by omega]
  push_cast; rfl
theorem mkS_step0 {l : List S33} {i : Nat} (h : tri l i = 0) : mkS (mkG l) i = mkS (mkG l) (i + 1) := by
  rw [mkS]; unfold mkG; rw [if_pos h, List.append_nil]
theorem mkS_step1 {l : List S33} {i : Nat} (h : tri l i ≠ 0) : mkS (mkG l) i ++ [l.getD i z33] = mkS (mkG l) (i + 1) := by
  rw [mkS]; unfold mkG; rw [if_neg h]
theorem mkS_len (l : List S33) : ∀ n, (mkS (mkG l) n).length ≤ n := by
  intro n
  induction n with
  | zero => simp [mkS]
  | succ n ih =>
    have : (mkG l n).length ≤ 1 := by unfold mkG; split <;> simp
    rw [mkS, List.length_append]; omega
theorem sd_tri {ax ay bx by_ cx cy : Int} : sd ax ay bx by_ cx cy = 0 ↔ S3 ax ay bx by_ cx cy = 0 := sg0
theorem implMarks {l : List S33} : EvQ (fun k => impl_ParcelMarks.f k l) (fun r => r = mkV l) := by
  unfold impl_ParcelMarks.f impl_ParcelValid.f impl_ParcelValid.v
  refine EvQ.bindc rfl (EvQ.ite (fun hp => ?_) (fun hp => EvQ.ret (by unfold mkV; rw [if_neg hp])))
  obtain ⟨h3, h12, hv⟩ := vdB_ok (okB_vd (prB_ok hp))
  refine EvQ.loop (σ := List S33) (g := fun k i s => impl_ParcelMarks.l0 k l s l (l.length : Int) i) l.length (fun i s => s = mkS (mkG l) i) ?_ ?_ 0 [] (by omega) rfl
  · rintro i _ hi rfl ih
    have m1 := Nat.mod_lt (i + (l.length - 1)) (show 0 < l.length by omega)
    have m2 := Nat.mod_lt (i + 1) (show 0 < l.length by omega)
    have hl := mkS_len l i
    refine EvQ.step (fun k => by simp only [impl_ParcelMarks.l0]; rfl) ?_
    rw [tmodP (by omega) (by omega) hi, tmodN (by omega) (by omega) hi, w64 (n := (i : Int) + 1) (by omega) (by omega)]
    refine EvQ.pos (by omega) (EvQ.pos (by omega) (EvQ.pos (by omega) (EvQ.neg (by omega) (EvQ.pos (by omega) (EvQ.pos (by omega) (EvQ.pos (by omega) (EvQ.pos (by omega) ?_)))))))
    refine EvQ.bindc (congrArg some (sdP_eq (hv _ m1) (hv i hi) (hv _ m2))) ?_
    refine EvQ.ite (fun h => ih _ (mkS_step0 (sd_tri.1 h))) (fun h => EvQ.pos (by omega) (ih _ (mkS_step1 (fun h2 => h (sd_tri.2 h2)))))
  · rintro _ rfl
    refine EvQ.step (fun k => by simp only [impl_ParcelMarks.l0]; rfl) ?_
    refine EvQ.neg (by omega) (EvQ.ret ?_)
    unfold mkV marks; rw [if_pos hp]
theorem specMarks {l : List S33} (hl : l.length ≤ 1000) : EvQ (fun k => spec_ParcelMarks.f k l) (fun r => r = mkV l) := by
  unfold spec_ParcelMarks.f
  refine EvQ.bindc rfl (EvQ.call (specParcel hl) (EvQ.ite (fun hp => ?_) (fun hp => EvQ.ret (by unfold mkV; rw [if_neg hp]))))
  obtain ⟨h3, h12, hv⟩ := vdB_ok (okB_vd (prB_ok hp))
  refine EvQ.loop (σ := List S33) (g := fun k i s => spec_ParcelMarks.l0 k l s (l.length : Int) i) l.length (fun i s => s = mkS (mkG l) i) ?_ ?_ 0 [] (by omega) rfl
  · rintro i _ hi rfl ih
    have m1 := Nat.mod_lt (i + (l.length - 1)) (show 0 < l.length by omega)
    have m2 := Nat.mod_lt (i + 1) (show 0 < l.length by omega)
    have hl := mkS_len l i
    refine EvQ.step (fun k => by simp only [spec_ParcelMarks.l0]; rfl) ?_
    rw [tmodP (by omega) (by omega) hi, tmodN (by omega) (by omega) hi, w64 (n := (i : Int) + 1) (by omega) (by omega)]
    refine EvQ.pos (by omega) (EvQ.neg (by omega) (EvQ.pos (by omega) (EvQ.pos (by omega) (EvQ.pos (by omega) (EvQ.pos (by omega) (EvQ.pos (by omega) (EvQ.pos (by omega) ?_)))))))
    refine EvQ.bindc (l31Side (hv _ m1) (hv i hi) (hv _ m2)) ?_
    refine EvQ.ite (fun h => ih _ (mkS_step0 (sd_tri.1 h))) (fun h => EvQ.pos (by omega) (ih _ (mkS_step1 (fun h2 => h (sd_tri.2 h2)))))
  · rintro _ rfl
    refine EvQ.step (fun k => by simp only [spec_ParcelMarks.l0]; rfl) ?_
    refine EvQ.neg (by omega) (EvQ.ret ?_)
    unfold mkV marks; rw [if_pos hp]
end Go.Proofs.Ytfonigbkoligmaa.Cr

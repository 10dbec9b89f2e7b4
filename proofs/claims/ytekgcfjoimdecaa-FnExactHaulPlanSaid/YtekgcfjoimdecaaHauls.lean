/- The helpers of the exact statements over lists of hauls, plain. No program in sight. -/
import Derived.Test.YtekgcfjoimdecaaHaulC
import Derived.Test.YtekgcfjoimdecaaPx18
import Derived.Test.YtekgcfjoimdecaaPx21
import Derived.Test.YtekgcfjoimdecaaPx16
set_option linter.unusedVariables false
set_option linter.unusedSimpArgs false
namespace Go.Proofs.Ytekgcfjoimdecaa.HaulA
open Go.RowKit Go.Proofs.Ytekgcfjoimdecaa.P Go.Proofs.YtekgcfjoimdecaaW.PrintWords Go.Proofs.YtekgcfjoimdecaaW.PrintLast Go.Proofs.YtekgcfjoimdecaaW.PrintMore Go.Proofs.Ytekgcfjoimdecaa.Ev
abbrev LHaul := S57
/-- The statement's haul as the program's. -/
def conv (h : LHaul) : Haul := ⟨h.f0, h.f1, h.f2⟩
theorem rdLH_get {l : List LHaul} {i : Nat} (h : i < l.length) : rd_T57 l (i : Int) = l[i] := by
  unfold rd_T57; simp [List.getD_eq_getElem?_getD, h]
theorem toHaulS {l : List LHaul} (hl : l.length ≤ 1048576) : EvQ (fun k => laws_toHaulS.f k l) (fun r => r = l.map conv) := by
  unfold laws_toHaulS.f
  refine EvQ.pos (by omega) (EvQ.pos (by omega) ?_)
  refine EvQ.loop (σ := List Haul) (g := fun k i s => laws_toHaulS.l0 k l s i) l.length (fun i s => s = (l.map conv).take i ++ List.replicate (l.length - i) z47) ?_ ?_ 0 (List.replicate ((l.length : Int) : Int).toNat z47) (by omega) (by simp)
  · rintro i s hi hs ih
    have hi2 : i < (l.map conv).length := by simpa using hi
    have h1 : ((l.map conv).take i).length = i := by rw [List.length_take]; omega
    have hlen : s.length = l.length := by rw [hs, List.length_append, h1, List.length_replicate]; omega
    refine EvQ.step (fun k => by simp only [laws_toHaulS.l0]; rfl) ?_
    refine EvQ.pos (by omega) (EvQ.pos (by omega) ?_)
    rw [rdLH_get hi]
    refine EvQ.bindc rfl (EvQ.pos (by omega) ?_)
    rw [w64i hi (by omega)]
    refine ih _ ?_
    obtain ⟨m, hm⟩ : ∃ m, l.length - i = m + 1 := ⟨l.length - i - 1, by omega⟩
    rw [hs, hm, show l.length - (i + 1) = m by omega, List.replicate_succ, List.set_append, h1]
    simp only [Int.toNat_natCast, Nat.lt_irrefl, if_false, Nat.sub_self, List.set_cons_zero]
    rw [List.take_succ_eq_append_getElem hi2, List.append_assoc]
    simp only [List.getElem_map]
    rfl
  · rintro s hs
    refine EvQ.step (fun k => by simp only [laws_toHaulS.l0]; rfl) ?_
    refine EvQ.neg (by omega) (EvQ.ret ?_)
    rw [hs]; simp
    exact List.take_of_length_le (by simp)
theorem eqHaul_refl (a : Haul) : laws_eqHaul.f a.f0 a.f1 a.f2 a.f0 a.f1 a.f2 = some true := by simp [laws_eqHaul.f]
theorem eqHaulS_refl {a b : List Haul} (hl : a.length ≤ 17592186044416) (h : a = b) : EvQ (fun k => laws_eqHaulS.f k a b) (fun r => r = true) := by
  subst h
  unfold laws_eqHaulS.f
  refine EvQ.pos rfl ?_
  refine EvQ.loop (σ := Unit) (g := fun k i _ => laws_eqHaulS.l0 k a a i) a.length (fun i _ => True) ?_ ?_ 0 () (by omega) trivial
  · rintro i _ hi hI ih
    refine EvQ.step (fun k => by simp only [laws_eqHaulS.l0]; rfl) ?_
    refine EvQ.pos (by omega) (EvQ.pos (by omega) (EvQ.pos (by omega) ?_))
    rw [rdH_get hi]
    refine EvQ.bindc (eqHaul_refl _) (EvQ.pos (by simp) ?_)
    rw [w64i hi (by omega)]
    exact ih () trivial
  · rintro _ hI
    refine EvQ.step (fun k => by simp only [laws_eqHaulS.l0]; rfl) ?_
    exact EvQ.neg (by omega) (EvQ.ret rfl)
theorem szHaulS {l : List LHaul} (hl : l.length ≤ maxLen) : laws_szHaulS.f l 1048576 = some (if 1048576 < l.length then -1 else 1048576 - (l.length : Int)) := by
  unfold maxLen at hl
  unfold laws_szHaulS.f
  rw [w64 (by omega) (by omega)]
  by_cases h : 1048576 < l.length
  · rw [if_pos (by omega), if_pos h]
  · rw [if_neg (by omega), if_neg h]
end Go.Proofs.Ytekgcfjoimdecaa.HaulA

/- The helpers of the exact statements over lists of whole numbers, plain: a copy, '==', marks. No program in sight. -/
import Derived.Test.YtekgcfjoimdecaaEv
import Derived.Test.YtekgcfjoimdecaaPx3
import Derived.Test.YtekgcfjoimdecaaPx4
import Derived.Test.YtekgcfjoimdecaaPx6
set_option linter.unusedVariables false
set_option linter.unusedSimpArgs false
namespace Go.Proofs.Ytekgcfjoimdecaa.Ints
open Go.RowKit Go.Proofs.Ytekgcfjoimdecaa.P Go.Proofs.YtekgcfjoimdecaaW.PrintWords Go.Proofs.YtekgcfjoimdecaaW.PrintLast Go.Proofs.YtekgcfjoimdecaaW.PrintMore Go.Proofs.Ytekgcfjoimdecaa.Ev
theorem set_take {l : List Int} {i : Nat} (h : i < l.length) (r : List Int) (hr : r = l.take i ++ List.replicate (l.length - i) 0) : r.set i l[i] = l.take (i + 1) ++ List.replicate (l.length - (i + 1)) 0 := by
  subst hr
  have h1 : (l.take i).length = i := by rw [List.length_take]; omega
  obtain ⟨m, hm⟩ : ∃ m, l.length - i = m + 1 := ⟨l.length - i - 1, by omega⟩
  rw [hm, show l.length - (i + 1) = m by omega, List.replicate_succ, List.set_append, h1]
  simp only [Nat.lt_irrefl, if_false, Nat.sub_self, List.set_cons_zero]
  rw [List.take_succ_eq_append_getElem h, List.append_assoc]; rfl
theorem toIntS {l : List Int} (hl : l.length ≤ 17592186044416) : EvQ (fun k => laws_toIntS.f k l) (fun r => r = l) := by
  unfold laws_toIntS.f
  refine EvQ.pos (by omega) (EvQ.pos (by omega) ?_)
  refine EvQ.loop (σ := List Int) (g := fun k i s => laws_toIntS.l0 k l s i) l.length (fun i s => s = l.take i ++ List.replicate (l.length - i) 0) ?_ ?_ 0 (List.replicate ((l.length : Int) : Int).toNat 0) (by omega) (by simp)
  · rintro i s hi hs ih
    have hlen : s.length = l.length := by rw [hs, List.length_append, List.length_take, List.length_replicate]; omega
    refine EvQ.step (fun k => by simp only [laws_toIntS.l0]; rfl) ?_
    refine EvQ.pos (by omega) (EvQ.pos (by omega) (EvQ.pos (by omega) ?_))
    rw [rd_get hi, w64i hi (by omega)]
    exact ih _ (by simpa using set_take hi s hs)
  · rintro s hs
    refine EvQ.step (fun k => by simp only [laws_toIntS.l0]; rfl) ?_
    refine EvQ.neg (by omega) (EvQ.ret ?_)
    rw [hs]; simp
theorem take_eq_succ {a b : List Int} {i : Nat} (ha : i < a.length) (hb : i < b.length) (h : a.take i = b.take i) (he : a[i] = b[i]) : a.take (i + 1) = b.take (i + 1) := by
  rw [List.take_succ_eq_append_getElem ha, List.take_succ_eq_append_getElem hb, h, he]
theorem eqIntS {a b : List Int} (hl : a.length ≤ 17592186044416) : EvQ (fun k => laws_eqIntS.f k a b) (fun r => r = decide (a = b)) := by
  unfold laws_eqIntS.f
  refine EvQ.ite (fun h => ?_) (fun h => EvQ.ret ?_)
  · have h : a.length = b.length := by omega
    refine EvQ.loop (σ := Unit) (g := fun k i _ => laws_eqIntS.l0 k a b i) a.length (fun i _ => a.take i = b.take i) ?_ ?_ 0 () (by omega) (by simp)
    · rintro i _ hi hI ih
      have hi2 : i < b.length := by omega
      refine EvQ.step (fun k => by simp only [laws_eqIntS.l0]; rfl) ?_
      refine EvQ.pos (by omega) (EvQ.pos (by omega) (EvQ.pos (by omega) ?_))
      rw [rd_get hi, rd_get hi2]
      refine EvQ.ite (fun he => ?_) (fun he => EvQ.ret ?_)
      · rw [w64i hi (by omega)]
        exact ih () (take_eq_succ hi hi2 hI he)
      · symm; rw [decide_eq_false_iff_not]; rintro rfl; exact he rfl
    · rintro _ hI
      refine EvQ.step (fun k => by simp only [laws_eqIntS.l0]; rfl) ?_
      refine EvQ.neg (by omega) (EvQ.ret ?_)
      rw [List.take_length] at hI
      rw [h, List.take_length] at hI
      simp [hI]
  · symm; rw [decide_eq_false_iff_not]; rintro rfl; exact h rfl
theorem eqIntS_refl {a b : List Int} (hl : a.length ≤ 17592186044416) (h : a = b) : EvQ (fun k => laws_eqIntS.f k a b) (fun r => r = true) :=
  (eqIntS hl).mono (by rintro _ rfl; simp [h])
/-- c, c + 1, .. -/
def iota (c : Int) (n : Nat) : List Int := (List.range n).map (fun (j : Nat) => c + (j : Int))
theorem iota_length (c : Int) (n : Nat) : (iota c n).length = n := by simp [iota]
theorem iota_get {c : Int} {n i : Nat} (h : i < n) : (iota c n)[i]'(by rw [iota_length]; exact h) = c + i := by simp [iota]
theorem iota_take {c : Int} {n i : Nat} (h : i ≤ n) : (iota c n).take i = iota c i := by
  apply List.ext_getElem
  · simp [iota_length]; omega
  · intro j h1 h2; simp [iota]
theorem set_iota {l r : List Int} {c : Int} {i : Nat} (h : i < l.length) (hr : r = iota c i ++ l.drop i) : r.set i (c + i) = iota c (i + 1) ++ l.drop (i + 1) := by
  subst hr
  rw [List.set_append, iota_length]
  simp only [Nat.lt_irrefl, if_false, Nat.sub_self]
  rw [List.drop_eq_getElem_cons h, List.set_cons_zero]
  simp [iota, List.range_succ]
theorem markIntS {l : List Int} {c : Int} (hl : l.length ≤ 17592186044416) (h0 : 0 ≤ c) (h1 : c ≤ 17592186044416) : EvQ (fun k => laws_markIntS.f k l c) (fun r => r = (c + l.length, iota c l.length)) := by
  unfold laws_markIntS.f
  refine EvQ.loop (σ := List Int × Int) (g := fun k i s => laws_markIntS.l0 k s.1 s.2 i) l.length (fun i s => s.1 = iota c i ++ l.drop i ∧ s.2 = c + i) ?_ ?_ 0 (l, c) (by omega) (by simp [iota])
  · rintro i ⟨s, m⟩ hi ⟨hs, rfl⟩ ih
    have hs : s = iota c i ++ l.drop i := hs
    have hlen : s.length = l.length := by rw [hs, List.length_append, iota_length, List.length_drop]; omega
    refine EvQ.step (fun k => by simp only [laws_markIntS.l0]; rfl) ?_
    refine EvQ.pos (by simp only [hlen]; omega) (EvQ.pos (by omega) ?_)
    rw [w64i hi (by omega), w64 (by omega) (by omega)]
    exact ih (_, _) ⟨by simpa using set_iota hi hs, by simp only []; push_cast; omega⟩
  · rintro ⟨s, m⟩ ⟨hs, rfl⟩
    have hs : s = iota c l.length ++ l.drop l.length := hs
    have hs2 : s = iota c l.length := by simpa using hs
    refine EvQ.step (fun k => by simp only [laws_markIntS.l0]; rfl) ?_
    refine EvQ.neg (by simp only [hs2, iota_length]; omega) (EvQ.ret ?_)
    simp only [hs2]
theorem heldIntS {n : Nat} {c : Int} (hl : n ≤ 17592186044416) (h0 : 0 ≤ c) (h1 : c ≤ 17592186044416) : EvQ (fun k => laws_heldIntS.f k (iota c n) c) (fun r => r = c + n) := by
  unfold laws_heldIntS.f
  refine EvQ.loop (σ := Int) (g := fun k i s => laws_heldIntS.l0 k (iota c n) s i) n (fun i s => s = c + i) ?_ ?_ 0 c (by omega) (by simp)
  · rintro i s hi rfl ih
    refine EvQ.step (fun k => by simp only [laws_heldIntS.l0]; rfl) ?_
    refine EvQ.pos (by rw [iota_length]; omega) (EvQ.pos (by omega) ?_)
    rw [rd_get (by rw [iota_length]; exact hi), iota_get hi]
    refine EvQ.pos rfl ?_
    rw [w64i hi (by omega), w64 (by omega) (by omega)]
    exact ih _ (by push_cast; omega)
  · rintro _ rfl
    refine EvQ.step (fun k => by simp only [laws_heldIntS.l0]; rfl) ?_
    exact EvQ.neg (by rw [iota_length]; omega) (EvQ.ret rfl)
end Go.Proofs.Ytekgcfjoimdecaa.Ints

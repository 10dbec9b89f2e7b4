/- The helpers of the exact statement over rows that are marked, plain. No program in sight. -/
import Derived.Test.YtkhemhmdapggmaaInts2
import Derived.Test.YtkhemhmdapggmaaPx25
import Derived.Test.YtkhemhmdapggmaaPx26
set_option linter.unusedVariables false
set_option linter.unusedSimpArgs false
namespace Go.Proofs.Ytkhemhmdapggmaa.Marks
open Go.RowKit Go.Proofs.Ytkhemhmdapggmaa.P Go.Proofs.YtkhemhmdapggmaaW.PrintWords Go.Proofs.YtkhemhmdapggmaaW.PrintLast Go.Proofs.YtkhemhmdapggmaaW.PrintMore Go.Proofs.Ytkhemhmdapggmaa.Ev Go.Proofs.Ytkhemhmdapggmaa.Ints
/-- c, c + 1, .. -/
def iota (c : Int) (n : Nat) : List Int := (List.range n).map (fun (j : Nat) => c + (j : Int))
theorem iota_length (c : Int) (n : Nat) : (iota c n).length = n := by simp [iota]
theorem iota_get {c : Int} {n i : Nat} (h : i < n) : (iota c n)[i]'(by rw [iota_length]; exact h) = c + i := by simp [iota]
theorem iota_take {c : Int} {n i : Nat} (h : i ≤ n) : (iota c n).take i = iota c i := by
  apply List.ext_getElem
  · simp [iota_length]; omega
  · intro j h1 h2; simp [iota]
theorem set_iota {l r : List Int} {c : Int} {i : Nat} (h : i < l.length) (hr : r = iota c i ++ l.drop i) : r.set i (c + i) = iota c (i + 1) ++ l.drop (i + 1) := by
  subst hr
  rw [List.set_append, iota_length]
  simp only [Nat.lt_irrefl, if_false, Nat.sub_self]
  rw [List.drop_eq_getElem_cons h, List.set_cons_zero]
  simp [iota, List.range_succ]
theorem markIntS {l : List Int} {c : Int} (hl : l.length ≤ 17592186044416) (h0 : 0 ≤ c) (h1 : c ≤ 17592186044416) : EvQ (fun k => laws_markIntS.f k l c) (fun r => r = (c + l.length, iota c l.length)) := by
  unfold laws_markIntS.f
  refine EvQ.loop (σ := List Int × Int) (g := fun k i s => laws_markIntS.l0 k s.1 s.2 i) l.length (fun i s => s.1 = iota c i ++ l.drop i ∧ s.2 = c + i) ?_ ?_ 0 (l, c) (by omega) (by simp [iota])
  · rintro i ⟨s, m⟩ hi ⟨hs, rfl⟩ ih
    have hs : s = iota c i ++ l.drop i := hs
    have hlen : s.length = l.length := by rw [hs, List.length_append, iota_length, List.length_drop]; omega
    refine EvQ.step (fun k => by simp only [laws_markIntS.l0]; rfl) ?_
    refine EvQ.pos (by simp only [hlen]; omega) (EvQ.pos (by omega) ?_)
    rw [w64i hi (by omega), w64 (by omega) (by omega)]
    exact ih (_, _) ⟨by simpa using set_iota hi hs, by simp only []; push_cast; omega⟩
  · rintro ⟨s, m⟩ ⟨hs, rfl⟩
    have hs : s = iota c l.length ++ l.drop l.length := hs
    have hs2 : s = iota c l.length := by simpa using hs
    refine EvQ.step (fun k => by simp only [laws_markIntS.l0]; rfl) ?_
    refine EvQ.neg (by simp only [hs2, iota_length]; omega) (EvQ.ret ?_)
    simp only [hs2]
theorem heldIntS {n : Nat} {c : Int} (hl : n ≤ 17592186044416) (h0 : 0 ≤ c) (h1 : c ≤ 17592186044416) : EvQ (fun k => laws_heldIntS.f k (iota c n) c) (fun r => r = c + n) := by
  unfold laws_heldIntS.f
  refine EvQ.loop (σ := Int) (g := fun k i s => laws_heldIntS.l0 k (iota c n) s i) n (fun i s => s = c + i) ?_ ?_ 0 c (by omega) (by simp)
  · rintro i s hi rfl ih
    refine EvQ.step (fun k => by simp only [laws_heldIntS.l0]; rfl) ?_
    refine EvQ.pos (by rw [iota_length]; omega) (EvQ.pos (by omega) ?_)
    rw [rd_get (by rw [iota_length]; exact hi), iota_get hi]
    refine EvQ.pos rfl ?_
    rw [w64i hi (by omega), w64 (by omega) (by omega)]
    exact ih _ (by push_cast; omega)
  · rintro _ rfl
    refine EvQ.step (fun k => by simp only [laws_heldIntS.l0]; rfl) ?_
    exact EvQ.neg (by rw [iota_length]; omega) (EvQ.ret rfl)
/-- All places of a list of rows. -/
def tot (g : List (List Int)) : Int := (g.map (fun r => (r.length : Int))).sum
theorem tot_succ {g : List (List Int)} {i : Nat} (h : i < g.length) : tot (g.take (i + 1)) = tot (g.take i) + g[i].length := by
  unfold tot; rw [List.take_succ_eq_append_getElem h, List.map_append, List.sum_append]; simp
theorem tot_bound {g : List (List Int)} (hg : Fit g) : ∀ i, i ≤ g.length → 0 ≤ tot (g.take i) ∧ tot (g.take i) ≤ 1048576 * i := by
  intro i
  induction i with
  | zero => intro _; simp [tot]
  | succ i ih =>
    intro hi
    have := ih (by omega)
    have hr := hg.2 _ (List.getElem_mem (show i < g.length by omega))
    rw [tot_succ (show i < g.length by omega)]
    push_cast
    omega
/-- The rows of marks. -/
def mk : Int → List (List Int) → List (List Int)
  | _, [] => []
  | c, r :: g => iota c r.length :: mk (c + r.length) g
theorem mk_length (g : List (List Int)) : ∀ c, (mk c g).length = g.length := by
  induction g with
  | nil => intro c; rfl
  | cons r g ih => intro c; simp [mk, ih]
theorem mk_get (g : List (List Int)) : ∀ (c : Int) (i : Nat) (h : i < g.length), (mk c g)[i]'(by rw [mk_length]; exact h) = iota (c + tot (g.take i)) g[i].length := by
  induction g with
  | nil => intro c i h; simp at h
  | cons r g ih =>
    intro c i h
    cases i with
    | zero => simp [mk, tot]
    | succ i =>
      have := ih (c + r.length) i (by simpa using h)
      simp only [mk, List.getElem_cons_succ, this, List.take_succ_cons]
      congr 1
      simp [tot]; omega
theorem markSS {g : List (List Int)} (hg : Fit g) : EvQ (fun k => laws_markIntSS.f k g 1) (fun r => r = (1 + tot g, mk 1 g)) := by
  have hl := hg.1
  unfold laws_markIntSS.f
  refine EvQ.loop (σ := List (List Int) × Int) (g := fun k i s => laws_markIntSS.l0 k s.1 s.2 i) g.length (fun i s => s.1 = (mk 1 g).take i ++ g.drop i ∧ s.2 = 1 + tot (g.take i)) ?_ ?_ 0 (g, 1) (by omega) (by simp [tot])
  · rintro i ⟨s, m⟩ hi ⟨hs, rfl⟩ ih
    have hs : s = (mk 1 g).take i ++ g.drop i := hs
    have hml := mk_length g 1
    have htl : ((mk 1 g).take i).length = i := by rw [List.length_take]; omega
    have hlen : s.length = g.length := by rw [hs, List.length_append, htl, List.length_drop]; omega
    have hget : s[i]'(by omega) = g[i] := by
      subst hs
      rw [List.getElem_append_right (by omega)]
      simp only [htl, Nat.sub_self, List.getElem_drop, Nat.add_zero]
    have hr := hg.2 _ (List.getElem_mem hi)
    have hb := tot_bound hg i (by omega)
    refine EvQ.step (fun k => by simp only [laws_markIntSS.l0]; rfl) ?_
    simp only [hlen]
    refine EvQ.pos (by omega) (EvQ.pos (by omega) ?_)
    rw [rdSS_get (g := s) (by omega), hget]
    refine EvQ.call (markIntS (by omega) (by omega) (by omega)) (EvQ.pos (by omega) ?_)
    refine ih (_, _) ⟨?_, ?_⟩
    · simp only [Int.toNat_natCast]
      rw [hs, List.set_append, if_neg (by omega), htl, Nat.sub_self, List.drop_eq_getElem_cons hi, List.set_cons_zero, List.take_succ_eq_append_getElem (by omega), mk_get g 1 i hi, List.append_assoc]
      rfl
    · simp only []
      rw [tot_succ hi]; omega
  · rintro ⟨s, m⟩ ⟨hs, rfl⟩
    have hs : s = (mk 1 g).take g.length ++ g.drop g.length := hs
    have hml := mk_length g 1
    rw [List.drop_length, List.append_nil, ← hml, List.take_length] at hs
    refine EvQ.step (fun k => by simp only [laws_markIntSS.l0]; rfl) ?_
    refine EvQ.neg (by simp only [hs, hml]; omega) (EvQ.ret ?_)
    simp only [hs, List.take_length]
theorem heldSS {g : List (List Int)} (hg : Fit g) : EvQ (fun k => laws_heldIntSS.f k (mk 1 g) 1) (fun r => r = 1 + tot g) := by
  have hl := hg.1
  have hml := mk_length g 1
  unfold laws_heldIntSS.f
  refine EvQ.loop (σ := Int) (g := fun k i s => laws_heldIntSS.l0 k (mk 1 g) s i) g.length (fun i s => s = 1 + tot (g.take i)) ?_ ?_ 0 1 (by omega) (by simp [tot])
  · rintro i _ hi rfl ih
    have hr := hg.2 _ (List.getElem_mem hi)
    have hb := tot_bound hg i (by omega)
    refine EvQ.step (fun k => by simp only [laws_heldIntSS.l0]; rfl) ?_
    refine EvQ.pos (by omega) (EvQ.pos (by omega) ?_)
    rw [rdSS_get (by omega), mk_get g 1 i hi]
    refine EvQ.call (heldIntS (by omega) (by omega) (by omega)) (EvQ.neg (by omega) ?_)
    rw [w64i hi (by omega)]
    exact ih _ (by rw [tot_succ hi]; omega)
  · rintro _ rfl
    refine EvQ.step (fun k => by simp only [laws_heldIntSS.l0]; rfl) ?_
    exact EvQ.neg (by omega) (EvQ.ret (by rw [List.take_length]))
end Go.Proofs.Ytkhemhmdapggmaa.Marks

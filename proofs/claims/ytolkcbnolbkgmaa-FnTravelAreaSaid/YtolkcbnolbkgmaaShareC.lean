import Derived.Test.YtolkcbnolbkgmaaShareB
import Derived.Test.YtolkcbnolbkgmaaPx3
import Derived.Test.YtolkcbnolbkgmaaPx2
import Derived.Test.YtolkcbnolbkgmaaPx5
import Derived.Test.YtolkcbnolbkgmaaPx4
set_option linter.unusedVariables false
set_option linter.unusedSimpArgs false
namespace Go.Proofs.Ytolkcbnolbkgmaa.Sh
open Go.RowKit Go.Proofs.Ytolkcbnolbkgmaa.P Go.Proofs.YtolkcbnolbkgmaaW.PrintWords Go.Proofs.YtolkcbnolbkgmaaW.PrintLast Go.Proofs.YtolkcbnolbkgmaaW.PrintMore Go.Proofs.Ytolkcbnolbkgmaa.Ev
theorem inC_eq (a b c : Int) : spec_l6In.f a b c = some (decide (b ≤ a ∧ a ≤ c)) := by
  unfold spec_l6In.f
  by_cases h : a ≥ b
  · rw [if_pos h]; congr 1; rw [Bool.eq_iff_iff]; simp; omega
  · rw [if_neg h]; congr 1; symm; rw [decide_eq_false_iff_not]; omega
theorem within_eq {a m : Int} (h0 : 0 ≤ m) (h1 : m ≤ 1000000000) : impl_within.f a m = some (decide (-m ≤ a ∧ a ≤ m)) := by
  unfold impl_within.f
  rw [w64 (by omega) (by omega)]
  by_cases h : -m ≤ a
  · rw [if_pos h]; congr 1; rw [Bool.eq_iff_iff]; simp; omega
  · rw [if_neg h]; congr 1; symm; rw [decide_eq_false_iff_not]; omega
theorem gt_lt {l : List Int} {i : Nat} (h : i < l.length) : gt l i = l[i] := getD_lt h
def okL (x : Int) : Bool := decide (0 ≤ x ∧ x ≤ 10000)
def okLs (l : List Int) : Bool := decide (1 ≤ l.length ∧ l.length ≤ 20) && l.all okL && decide (0 < l.sum)
def inA (a : Int) : Bool := decide (-10000000 ≤ a ∧ a ≤ 10000000)
theorem okL_all {l : List Int} (h : l.all okL = true) : ∀ x ∈ l, 0 ≤ x ∧ x ≤ 10000 := by
  intro x hx
  have := List.all_eq_true.1 h x hx
  simpa [okL] using this
theorem okLs_of {l : List Int} (h : okLs l = true) : (1 ≤ l.length ∧ l.length ≤ 20) ∧ (∀ x ∈ l, 0 ≤ x ∧ x ≤ 10000) ∧ 0 < l.sum := by
  unfold okLs at h
  simp only [Bool.and_eq_true, decide_eq_true_eq] at h
  exact ⟨h.1.1, okL_all h.1.2, h.2⟩
theorem sum_take_mem {l : List Int} {b : Int} (hb0 : 0 ≤ b) (h : ∀ x ∈ l, -b ≤ x ∧ x ≤ b) (hl : l.length ≤ 20) (i : Nat) : -(b * 20) ≤ (l.take i).sum ∧ (l.take i).sum ≤ b * 20 := by
  have h1 := sum_bound (l := l.take i) (b := b) (fun x hx => h x (List.mem_of_mem_take hx))
  have h2 : b * ((l.take i).length : Int) ≤ b * 20 := Int.mul_le_mul_of_nonneg_left (by rw [List.length_take]; omega) hb0
  omega
theorem sumEv {l : List Int} {b : Int} (hb0 : 0 ≤ b) (hb1 : b ≤ 1000000000000) (h : ∀ x ∈ l, -b ≤ x ∧ x ≤ b) (hl : l.length ≤ 20) : EvQ (fun k => spec_l14Sum.f k l) (fun r => r = l.sum) := by
  unfold spec_l14Sum.f
  refine EvQ.loop (σ := Int) (g := fun k i s => spec_l14Sum.l0 k l s i) l.length (fun i s => s = (l.take i).sum) ?_ ?_ 0 0 (by omega) (by simp)
  · rintro i _ hi rfl ih
    refine EvQ.step (fun k => by simp only [spec_l14Sum.l0]; rfl) ?_
    refine EvQ.pos (by omega) (EvQ.pos (by omega) ?_)
    have hs := sum_take_mem hb0 h hl (i + 1)
    rw [sum_take_succ hi] at hs
    rw [w64i hi (by omega), rd_get hi, w64 (by omega) (by omega)]
    exact ih _ (sum_take_succ hi).symm
  · rintro _ rfl
    refine EvQ.step (fun k => by simp only [spec_l14Sum.l0]; rfl) ?_
    exact EvQ.neg (by omega) (EvQ.ret (by rw [List.take_length]))
theorem sum_all {l : List Int} (h : ∀ x ∈ l, 0 ≤ x ∧ x ≤ 10000) (hl : l.length ≤ 20) : EvQ (fun k => spec_l14Sum.f k l) (fun r => r = l.sum) := sumEv (b := 10000) (by omega) (by omega) (fun x hx => ⟨by have := h x hx; omega, (h x hx).2⟩) hl
theorem specLens {l : List Int} (hl : l.length ≤ 1048576) : EvQ (fun k => spec_l14Lengths.f k l) (fun r => r = okLs l) := by
  unfold spec_l14Lengths.f
  refine EvQ.loop (σ := Unit) (g := fun k i _ => spec_l14Lengths.l0 k l i) l.length (fun i _ => (l.take i).all okL = true) ?_ ?_ 0 () (by omega) (by simp)
  · rintro i _ hi hI ih
    refine EvQ.step (fun k => by simp only [spec_l14Lengths.l0]; rfl) ?_
    refine EvQ.pos (by omega) (EvQ.pos (by omega) ?_)
    rw [rd_get hi]
    refine EvQ.bindc (inC_eq _ _ _) (EvQ.ite (fun h => ?_) (fun h => EvQ.ret ?_))
    · rw [w64i hi (by omega)]
      exact ih () (all_take_succ hi hI h)
    · have h2 : okL l[i] = false := by simpa [okL] using h
      unfold okLs; rw [all_false hi h2, Bool.and_false, Bool.false_and]
  · rintro _ hI
    rw [List.take_length] at hI
    refine EvQ.step (fun k => by simp only [spec_l14Lengths.l0]; rfl) ?_
    refine EvQ.neg (by omega) (EvQ.bindc (inC_eq _ _ _) (EvQ.ite (fun h => ?_) (fun h => EvQ.ret ?_)))
    · have h1 : 1 ≤ l.length ∧ l.length ≤ 20 := by have := of_decide_eq_true h; omega
      refine EvQ.call (sum_all (okL_all hI) h1.2) (EvQ.ret ?_)
      unfold okLs; rw [hI, decide_eq_true h1]; simp
    · have h1 : ¬ (1 ≤ l.length ∧ l.length ≤ 20) := fun h1 => h (decide_eq_true (by omega))
      unfold okLs; rw [decide_eq_false h1]; simp
theorem specOk {l : List Int} {a : Int} (hl : l.length ≤ 1048576) : EvQ (fun k => spec_l14Ok.f k l a) (fun r => r = (okLs l && inA a)) := by
  unfold spec_l14Ok.f
  refine EvQ.call (specLens hl) (EvQ.ite (fun h => EvQ.bindc (inC_eq _ _ _) (EvQ.ret ?_)) (fun h => EvQ.ret ?_))
  · rw [h]; rfl
  · rw [Bool.eq_false_iff.2 h]; rfl
def lsV (l : List Int) : Int × Bool := if 1 ≤ l.length ∧ l.length ≤ 20 ∧ l.all okL = true then (l.sum, decide (0 < l.sum)) else (0, false)
theorem lsV_2 (l : List Int) : (lsV l).2 = okLs l := by
  unfold lsV okLs
  by_cases h : 1 ≤ l.length ∧ l.length ≤ 20 ∧ l.all okL = true
  · rw [if_pos h, h.2.2, decide_eq_true (show 1 ≤ l.length ∧ l.length ≤ 20 from ⟨h.1, h.2.1⟩)]; simp
  · rw [if_neg h]
    by_cases h1 : 1 ≤ l.length ∧ l.length ≤ 20
    · have : l.all okL = false := Bool.eq_false_iff.2 (fun h2 => h ⟨h1.1, h1.2, h2⟩)
      rw [this]; simp
    · rw [decide_eq_false h1]; simp
theorem lsV_1 {l : List Int} (h : okLs l = true) : (lsV l).1 = l.sum := by
  obtain ⟨h1, h2, h3⟩ := okLs_of h
  unfold lsV
  rw [if_pos ⟨h1.1, h1.2, List.all_eq_true.2 (fun x hx => by simpa [okL] using h2 x hx)⟩]
theorem implSum {l : List Int} (hl : l.length ≤ 1048576) : EvQ (fun k => impl_lengthsSum.f k l) (fun r => r = lsV l) := by
  have hj : ∀ b : Bool, b = true → ¬ (1 ≤ l.length ∧ l.length ≤ 20) → EvQ (fun k => impl_lengthsSum.j0 k l b) (fun r => r = lsV l) := by
    rintro _ rfl h
    refine EvQ.step (fun k => by simp only [impl_lengthsSum.j0]; rfl) ?_
    refine EvQ.pos (by simp) (EvQ.ret ?_)
    unfold lsV; rw [if_neg (fun h2 => h ⟨h2.1, h2.2.1⟩)]
  unfold impl_lengthsSum.f
  refine EvQ.ite (fun h => hj _ rfl (by omega)) (fun h => ?_)
  by_cases h2 : l.length ≤ 20
  · rw [decide_eq_false (by omega)]
    refine EvQ.step (fun k => by simp only [impl_lengthsSum.j0]; rfl) ?_
    refine EvQ.neg (by simp) ?_
    refine EvQ.loop (σ := Int) (g := fun k i s => impl_lengthsSum.l0 k s l (l.length : Int) i) l.length (fun i s => s = (l.take i).sum ∧ (l.take i).all okL = true) ?_ ?_ 0 0 (by omega) (by simp)
    · rintro i _ hi ⟨rfl, hI⟩ ih
      refine EvQ.step (fun k => by simp only [impl_lengthsSum.l0]; rfl) ?_
      refine EvQ.pos (by omega) (EvQ.pos (by omega) (EvQ.pos (by omega) ?_))
      rw [rd_get hi]
      have hbad : okL l[i] = false → (0, false) = lsV l := fun h3 => by
        unfold lsV; rw [if_neg (fun h4 => by rw [all_false hi h3] at h4; simp at h4)]
      refine EvQ.ite (fun h3 => EvQ.ret (hbad (by simp only [okL, decide_eq_false_iff_not]; omega))) (fun h3 => EvQ.ite (fun h4 => EvQ.ret (hbad (by simp only [okL, decide_eq_false_iff_not]; omega))) (fun h4 => ?_))
      have hok : okL l[i] = true := by simp only [okL, decide_eq_true_eq]; omega
      have hI2 := all_take_succ hi hI hok
      have hb : -(10000 * ((l.take (i + 1)).length : Int)) ≤ (l.take (i + 1)).sum ∧ (l.take (i + 1)).sum ≤ 10000 * ((l.take (i + 1)).length : Int) := sum_bound (b := 10000) (fun x hx => by have := okL_all hI2 x hx; omega)
      have hle := List.length_take_le (i + 1) l
      rw [sum_take_succ hi] at hb
      rw [w64i hi (by omega), w64 (by omega) (by omega)]
      exact ih _ ⟨(sum_take_succ hi).symm, hI2⟩
    · rintro _ ⟨rfl, hI⟩
      rw [List.take_length] at hI ⊢
      refine EvQ.step (fun k => by simp only [impl_lengthsSum.l0]; rfl) ?_
      refine EvQ.neg (by omega) (EvQ.ret ?_)
      unfold lsV; rw [if_pos ⟨by omega, h2, hI⟩]
  · rw [decide_eq_true (by omega)]
    exact hj _ rfl (by omega)
theorem floor_of {x S : Int} (hS : 0 < S) : (Int.tmod x S < 0 → Int.tdiv x S - 1 = x / S ∧ Int.tmod x S + S = x % S) ∧ (¬ Int.tmod x S < 0 → Int.tdiv x S = x / S ∧ Int.tmod x S = x % S) := by
  have h1 := Int.mul_tdiv_add_tmod x S
  have h2 := Int.tmod_lt_of_pos x hS
  have h3 : -S < Int.tmod x S := by
    have h := Int.tmod_lt_of_pos (-x) hS
    rw [Int.neg_tmod] at h
    omega
  have h4 := Int.mul_ediv_add_emod x S
  have h5 := Int.emod_nonneg x (show S ≠ 0 by omega)
  have h6 := Int.emod_lt_of_pos x hS
  constructor
  · intro h
    have := (Int.ediv_emod_unique hS (a := x) (r := Int.tmod x S + S) (q := Int.tdiv x S - 1)).2 ⟨by rw [Int.mul_sub]; omega, by omega, by omega⟩
    exact ⟨this.1.symm, this.2.symm⟩
  · intro h
    have := (Int.ediv_emod_unique hS (a := x) (r := Int.tmod x S) (q := Int.tdiv x S)).2 ⟨by omega, by omega, by omega⟩
    exact ⟨this.1.symm, this.2.symm⟩
theorem ediv_near {x S B : Int} (hS : 0 < S) (hB : 0 ≤ B) (hx : -B ≤ x ∧ x ≤ B) : -B - 1 ≤ x / S ∧ x / S ≤ B := by
  have h4 := Int.mul_ediv_add_emod x S
  have h5 := Int.emod_nonneg x (show S ≠ 0 by omega)
  have h6 := Int.emod_lt_of_pos x hS
  rw [Int.mul_comm] at h4
  have hBS : B ≤ B * S := by have := Int.mul_le_mul_of_nonneg_left (show (1 : Int) ≤ S by omega) hB; omega
  constructor
  · rcases Int.lt_or_le (x / S) (-B - 1) with h | h
    · have : (x / S + 1) * S ≤ (-B - 1) * S := Int.mul_le_mul_of_nonneg_right (by omega) (by omega)
      rw [Int.add_mul, Int.sub_mul, Int.neg_mul] at this
      omega
    · exact h
  · rcases Int.lt_or_le B (x / S) with h | h
    · have : (B + 1) * S ≤ x / S * S := Int.mul_le_mul_of_nonneg_right (by omega) (by omega)
      rw [Int.add_mul] at this
      omega
    · exact h
theorem implFloor {x S : Int} (hS : 0 < S) (hS2 : S ≤ 1000000) (hx : -1000000000000 ≤ x ∧ x ≤ 1000000000000) : impl_floorParts.f x S = some (x / S, x % S) := by
  have hq := ediv_near hS (by omega) hx
  have h5 := Int.emod_nonneg x (show S ≠ 0 by omega)
  have h6 := Int.emod_lt_of_pos x hS
  unfold impl_floorParts.f
  rw [if_neg (by omega)]
  by_cases h : Int.tmod x S < 0
  · obtain ⟨e1, e2⟩ := (floor_of hS).1 h
    rw [if_pos h, w64 (n := Int.tdiv x S) (by omega) (by omega), e1, e2, w64 (by omega) (by omega), w64 (by omega) (by omega)]
  · obtain ⟨e1, e2⟩ := (floor_of hS).2 h
    rw [if_neg h, e1, e2, w64 (by omega) (by omega)]
theorem specFloor {x S : Int} (hS : 0 < S) (hS2 : S ≤ 1000000) (hx : -1000000000000 ≤ x ∧ x ≤ 1000000000000) : spec_l14Floor.f x S = some (x / S) := by
  have hq := ediv_near hS (by omega) hx
  unfold spec_l14Floor.f
  rw [if_neg (by omega)]
  by_cases h : Int.tmod x S < 0
  · obtain ⟨e1, e2⟩ := (floor_of hS).1 h
    rw [if_pos h, w64 (n := Int.tdiv x S) (by omega) (by omega), e1, w64 (by omega) (by omega)]
  · obtain ⟨e1, e2⟩ := (floor_of hS).2 h
    rw [if_neg h, e1, w64 (by omega) (by omega)]
def flL (l : List Int) (a : Int) : List Int := l.map (fun x => a * x / l.sum)
def rmL (l : List Int) (a : Int) : List Int := l.map (fun x => a * x % l.sum)
theorem flL_len (l : List Int) (a : Int) : (flL l a).length = l.length := by simp [flL]
theorem rmL_len (l : List Int) (a : Int) : (rmL l a).length = l.length := by simp [rmL]
def shV (l : List Int) (a : Int) : List Int × Bool := if (okLs l && inA a) = true then (serve (a - (flL l a).sum).toNat (flL l a) (rmL l a), true) else ([], false)
theorem sum_le {S a : Int} : ∀ {out ls : List Int}, out.length = ls.length → (∀ i, i < ls.length → gt out i * S - a * gt ls i ≤ 0) → out.sum * S - a * ls.sum ≤ 0
  | [], [], _, _ => by simp
  | [], _ :: _, h, _ => by simp at h
  | _ :: _, [], h, _ => by simp at h
  | x :: out, y :: ls, h, hi => by
    have h1 := sum_le (S := S) (a := a) (out := out) (ls := ls) (by simpa using h) (fun i hl => by simpa [gt] using hi (i + 1) (by simpa using hl))
    have h2 := hi 0 (by simp)
    simp only [gt, List.getD_cons_zero] at h2
    simp only [List.sum_cons, Int.add_mul, Int.mul_add]
    omega
theorem mem_sum {l : List Int} (h : ∀ x ∈ l, 0 ≤ x) : ∀ x ∈ l, x ≤ l.sum := by
  induction l with
  | nil => simp
  | cons y l ih =>
    have h0 : 0 ≤ l.sum := by
      have : ∀ (m : List Int), (∀ x ∈ m, 0 ≤ x) → 0 ≤ m.sum := by
        intro m
        induction m with
        | nil => simp
        | cons z m im => intro hm; have := im (fun x hx => hm x (by simp [hx])); have := hm z (by simp); simp only [List.sum_cons]; omega
      exact this l (fun x hx => h x (by simp [hx]))
    intro x hx
    have hy := h y (by simp)
    simp only [List.sum_cons]
    rcases List.mem_cons.1 hx with rfl | hx
    · omega
    · have := ih (fun x hx => h x (by simp [hx])) x hx; omega
theorem lens_near {l : List Int} (h : okLs l = true) : ∀ i, i < l.length → 0 ≤ gt l i ∧ gt l i ≤ l.sum := by
  obtain ⟨h1, h2, h3⟩ := okLs_of h
  intro i hi
  rw [gt_lt hi]
  exact ⟨(h2 _ (List.getElem_mem hi)).1, mem_sum (fun x hx => (h2 x hx).1) _ (List.getElem_mem hi)⟩
theorem gt_fl {l : List Int} {a : Int} {i : Nat} (hi : i < l.length) : gt (flL l a) i = a * gt l i / l.sum := by rw [gt_lt (by rw [flL_len]; exact hi), gt_lt hi]; simp [flL]
theorem gt_rm {l : List Int} {a : Int} {i : Nat} (hi : i < l.length) : gt (rmL l a) i = a * gt l i % l.sum := by rw [gt_lt (by rw [rmL_len]; exact hi), gt_lt hi]; simp [rmL]
theorem start {l : List Int} {a : Int} (h : okLs l = true) : St l a l.sum (a - (flL l a).sum).toNat (flL l a) (rmL l a) := by
  obtain ⟨h1, h2, h3⟩ := okLs_of h
  have he : ∀ i, i < l.length → 0 ≤ gt (rmL l a) i ∧ gt (rmL l a) i < l.sum ∧ gt (flL l a) i * l.sum - a * gt l i = - gt (rmL l a) i := fun i hi => by
    rw [gt_fl hi, gt_rm hi]
    have h4 := Int.mul_ediv_add_emod (a * gt l i) l.sum
    rw [Int.mul_comm l.sum] at h4
    exact ⟨Int.emod_nonneg _ (by omega), Int.emod_lt_of_pos _ h3, by omega⟩
  have hs := sum_le (S := l.sum) (a := a) (flL_len l a) (fun i hi => by obtain ⟨e1, e2, e3⟩ := he i hi; omega)
  have hs2 : (flL l a).sum ≤ a := by
    refine Int.le_of_mul_le_mul_right (a := l.sum) ?_ h3
    omega
  exact ⟨flL_len l a, rmL_len l a, by omega, h3, rfl, fun i hi => .inl (he i hi)⟩
theorem nextEv {r : List Int} (h0 : 0 < r.length) (hl : r.length ≤ 20) : EvQ (fun k => spec_l14Next.f k r) (fun x => x = (best r r.length : Int)) := by
  unfold spec_l14Next.f
  refine EvQ.loop (σ := Int) (g := fun k i s => spec_l14Next.l0 k r s i) r.length (fun i s => s = (best r i : Int)) ?_ ?_ 0 0 (by omega) (by simp [best])
  · rintro i _ hi rfl ih
    obtain ⟨b1, b2, b3⟩ := best_all r i
    refine EvQ.step (fun k => by simp only [spec_l14Next.l0]; rfl) ?_
    refine EvQ.pos (by omega) (EvQ.pos (by omega) (EvQ.pos (by omega) (EvQ.pos (by omega) ?_)))
    rw [w64i hi (by omega), rd_nat, rd_nat]
    refine EvQ.ite (fun h => ih _ ?_) (fun h => ih _ ?_)
    · show (i : Int) = ((if gt r (best r i) < gt r i then i else best r i : Nat) : Int)
      rw [if_pos h]
    · show (best r i : Int) = ((if gt r (best r i) < gt r i then i else best r i : Nat) : Int)
      rw [if_neg (fun h2 => h h2)]
  · rintro _ rfl
    refine EvQ.step (fun k => by simp only [spec_l14Next.l0]; rfl) ?_
    exact EvQ.neg (by omega) (EvQ.ret rfl)
theorem specServe {l : List Int} {a : Int} (h : okLs l = true) (ha : -10000000 ≤ a ∧ a ≤ 10000000) (t : Nat) : ∀ (out r : List Int), (t : Int) ≤ 10000000000000 → St l a l.sum t out r → EvQ (fun k => spec_ShareOf.l1 k out r (t : Int)) (fun x => x = (serve t out r, true)) := by
  induction t with
  | zero =>
    intro out r _ _
    refine EvQ.step (fun k => by simp only [spec_ShareOf.l1]; rfl) ?_
    exact EvQ.neg (by omega) (EvQ.ret rfl)
  | succ t ih =>
    intro out r ht hs
    obtain ⟨h1, _, _⟩ := okLs_of h
    have hlo := hs.lo
    have hlr := hs.lr
    obtain ⟨hb, hp⟩ := hs.bst
    have hnear := (hs.near (lens_near h) ha hb).2
    have ih := ih _ _ (by omega) hs.step
    refine EvQ.step (fun k => by simp only [spec_ShareOf.l1]; rfl) ?_
    refine EvQ.pos (by omega) (EvQ.call (nextEv (by omega) (by omega)) ?_)
    refine EvQ.pos (by omega) (EvQ.pos (by omega) (EvQ.pos (by omega) ?_))
    rw [show rd out (best r r.length : Int) = gt out (best r r.length) from rd_nat _ _, Int.toNat_natCast, w64 (n := gt out (best r r.length) + 1) (by omega) (by omega), w64 (n := ((t + 1 : Nat) : Int) - 1) (by omega) (by omega), show ((t + 1 : Nat) : Int) - 1 = (t : Int) by omega]
    exact ih
theorem mul_near {a x : Int} (ha : -10000000 ≤ a ∧ a ≤ 10000000) (hx : 0 ≤ x ∧ x ≤ 10000) : -100000000000 ≤ a * x ∧ a * x ≤ 100000000000 := by
  have h2 : a * x ≤ 10000000 * x := Int.mul_le_mul_of_nonneg_right ha.2 hx.1
  have h3 : -10000000 * x ≤ a * x := Int.mul_le_mul_of_nonneg_right ha.1 hx.1
  omega
theorem sum_near {l : List Int} (h : okLs l = true) : 0 < l.sum ∧ l.sum ≤ 200000 := by
  obtain ⟨h1, h2, h3⟩ := okLs_of h
  have := (sum_bound (l := l) (b := 10000) (fun x hx => by have := h2 x hx; omega)).2
  omega
theorem specShare {l : List Int} {a : Int} (hl : l.length ≤ 1048576) : EvQ (fun k => spec_ShareOf.f k l a) (fun r => r = shV l a) := by
  unfold spec_ShareOf.f
  refine EvQ.bindc rfl (EvQ.call (specOk hl) (EvQ.ite (fun h => ?_) (fun h => EvQ.ret ?_)))
  · rw [Bool.and_eq_true] at h
    obtain ⟨hk, hA⟩ := h
    have ha : -10000000 ≤ a ∧ a ≤ 10000000 := by simpa [inA] using hA
    obtain ⟨h1, h2, h3⟩ := okLs_of hk
    have hS := sum_near hk
    have hv : shV l a = (serve (a - (flL l a).sum).toNat (flL l a) (rmL l a), true) := by unfold shV; rw [hk, hA]; rfl
    refine EvQ.call (sum_all h2 h1.2) ?_
    refine EvQ.loop (σ := List Int × List Int) (g := fun k i s => spec_ShareOf.l0 k l a s.1 l.sum s.2 i) l.length (fun i s => s = ((flL l a).take i, (rmL l a).take i)) ?_ ?_ 0 ([], []) (by omega) (by simp)
    · rintro i _ hi rfl ih
      have hx := h2 _ (List.getElem_mem hi)
      have hm := mul_near ha hx
      have hq := ediv_near (x := a * l[i]) hS.1 (by omega) hm
      have h4 := Int.mul_ediv_add_emod (a * l[i]) l.sum
      rw [Int.mul_comm l.sum] at h4
      have h5 := Int.emod_nonneg (a * l[i]) (show l.sum ≠ 0 by omega)
      have h6 := Int.emod_lt_of_pos (a * l[i]) hS.1
      refine EvQ.step (fun k => by simp only [spec_ShareOf.l0]; rfl) ?_
      refine EvQ.pos (by omega) (EvQ.pos (by omega) ?_)
      rw [rd_get hi, w64 (n := a * l[i]) (by omega) (by omega)]
      refine EvQ.bindc (specFloor hS.1 (by omega) ⟨by omega, by omega⟩) ?_
      have hl1 : ((flL l a).take i).length = i := by rw [List.length_take, flL_len]; omega
      have hl2 : ((rmL l a).take i).length = i := by rw [List.length_take, rmL_len]; omega
      refine EvQ.pos (by omega) (EvQ.pos (by omega) ?_)
      rw [w64 (n := a * l[i] / l.sum * l.sum) (by omega) (by omega), w64 (n := a * l[i] - a * l[i] / l.sum * l.sum) (by omega) (by omega), w64i hi (by omega)]
      refine ih (_, _) ?_
      rw [List.take_succ_eq_append_getElem (by rw [flL_len]; exact hi), List.take_succ_eq_append_getElem (by rw [rmL_len]; exact hi)]
      simp only [flL, rmL, List.getElem_map]
      rw [show a * l[i] - a * l[i] / l.sum * l.sum = a * l[i] % l.sum by omega]
    · rintro _ rfl
      have e1 : (flL l a).take l.length = flL l a := List.take_of_length_le (by rw [flL_len]; omega)
      have e2 : (rmL l a).take l.length = rmL l a := List.take_of_length_le (by rw [rmL_len]; omega)
      rw [e1, e2]
      have hst := start (a := a) hk
      have hb : ∀ x ∈ flL l a, -100000000001 ≤ x ∧ x ≤ 100000000001 := by
        intro x hx
        obtain ⟨y, hy, rfl⟩ := List.mem_map.1 hx
        have := ediv_near (x := a * y) hS.1 (by omega) (mul_near ha (h2 y hy))
        omega
      refine EvQ.step (fun k => by simp only [spec_ShareOf.l0]; rfl) ?_
      refine EvQ.neg (by omega) (EvQ.call (sumEv (b := 100000000001) (by omega) (by omega) hb (by rw [flL_len]; exact h1.2)) ?_)
      have hsum := hst.sum
      have hs2 := sum_take_mem (b := 100000000001) (by omega) hb (by rw [flL_len]; exact h1.2) l.length
      rw [e1] at hs2
      rw [w64 (n := a - (flL l a).sum) (by omega) (by omega), hv, show a - (flL l a).sum = (((a - (flL l a).sum).toNat : Nat) : Int) by omega]
      exact specServe hk ha _ _ _ (by omega) hst
  · unfold shV; rw [if_neg h]
theorem set_take0 {l : List Int} {i : Nat} (h : i < l.length) (r : List Int) (hr : r = l.take i ++ List.replicate (l.length - i) 0) : r.set i l[i] = l.take (i + 1) ++ List.replicate (l.length - (i + 1)) 0 := by
  obtain ⟨m, hm⟩ : ∃ m, l.length - i = m + 1 := ⟨l.length - i - 1, by omega⟩
  have h1 : (l.take i).length = i := by rw [List.length_take]; omega
  rw [hr, hm, show l.length - (i + 1) = m by omega, List.replicate_succ, List.set_append, h1]
  simp only [Nat.lt_irrefl, if_false, Nat.sub_self, List.set_cons_zero]
  rw [List.take_succ_eq_append_getElem h, List.append_assoc]
  rfl
def remL (r : List Int) (n : Nat) : List Rem := (List.range n).map (fun i : Nat => ⟨(i : Int), gt r i⟩)
theorem remL_len (r : List Int) (n : Nat) : (remL r n).length = n := by simp [remL]
theorem remL_succ (r : List Int) (n : Nat) : remL r (n + 1) = remL r n ++ [⟨(n : Int), gt r n⟩] := by simp [remL, List.range_succ]
theorem parts {l : List Int} {a : Int} (hk : okLs l = true) (ha : -10000000 ≤ a ∧ a ≤ 10000000) : ∀ (d i : Nat), i + d = l.length → ∀ (s : List Int) (m : Int) (L : List Rem),
    s = (flL l a).take i ++ List.replicate (l.length - i) 0 → m = a - ((flL l a).take i).sum → L = remL (rmL l a) i → shParts a l.sum (i : Int) (l.drop i) s m L = some (flL l a, a - (flL l a).sum, remL (rmL l a) l.length) := by
  obtain ⟨h1, h2, h3⟩ := okLs_of hk
  have hS := sum_near hk
  have hb : ∀ x ∈ flL l a, -100000000001 ≤ x ∧ x ≤ 100000000001 := by
    intro x hx
    obtain ⟨y, hy, rfl⟩ := List.mem_map.1 hx
    have := ediv_near (x := a * y) hS.1 (by omega) (mul_near ha (h2 y hy))
    omega
  intro d
  induction d with
  | zero =>
    intro i hi s m L hs hm hL
    obtain rfl : i = l.length := by omega
    have e1 : (flL l a).take l.length = flL l a := List.take_of_length_le (by rw [flL_len]; omega)
    rw [List.drop_length, hs, hm, hL, e1]
    simp [shParts]
  | succ d ih =>
    intro i hi s m L hs hm hL
    have hlt : i < l.length := by omega
    have hx := h2 _ (List.getElem_mem hlt)
    have hmn := mul_near ha hx
    have hs1 := sum_take_mem (b := 100000000001) (by omega) hb (by rw [flL_len]; exact h1.2) i
    have hs2 := sum_take_mem (b := 100000000001) (by omega) hb (by rw [flL_len]; exact h1.2) (i + 1)
    have hfi : i < (flL l a).length := by rw [flL_len]; exact hlt
    have hfv : (flL l a)[i] = a * l[i] / l.sum := by simp [flL]
    rw [List.drop_eq_getElem_cons hlt]
    unfold shParts
    rw [w64 (n := a * l[i]) (by omega) (by omega), implFloor hS.1 (by omega) ⟨by omega, by omega⟩, Option.bind_some]
    have e3 : ((flL l a).take (i + 1)).sum = ((flL l a).take i).sum + a * l[i] / l.sum := by rw [sum_take_succ hfi, hfv]
    refine ih (i + 1) (by omega) _ _ _ ?_ ?_ ?_
    · have h5 := set_take0 hfi s (by rw [hs, flL_len])
      rw [hfv, flL_len] at h5
      rw [Int.toNat_natCast]
      exact h5
    · simp only []
      rw [hm, e3, w64 (by omega) (by omega)]; omega
    · rw [hL, remL_succ, gt_rm hlt, gt_lt hlt]
theorem inv_start {l : List Int} {a : Int} (hk : okLs l = true) : Inv (rmL l a) (shInit (l.length / 2) (remL (rmL l a) l.length)) := by
  have hS := sum_near hk
  have hp := init_perm (l.length / 2) (remL (rmL l a) l.length)
  have hh := init_all (remL (rmL l a) l.length)
  rw [remL_len] at hh
  have hm : ∀ x, x ∈ shInit (l.length / 2) (remL (rmL l a) l.length) ↔ ∃ i, i < l.length ∧ x = ⟨(i : Int), gt (rmL l a) i⟩ := fun x => by
    rw [hp.mem_iff]
    simp only [remL, List.mem_map, List.mem_range]
    exact ⟨fun ⟨i, h, e⟩ => ⟨i, h, e.symm⟩, fun ⟨i, h, e⟩ => ⟨i, h, e.symm⟩⟩
  refine ⟨fun x hx => ?_, fun i hi h0 => ?_, ?_, hh⟩
  · obtain ⟨i, hi, rfl⟩ := (hm x).1 hx
    refine ⟨by simp only []; omega, by simp only [Int.toNat_natCast]; rw [rmL_len]; exact hi, by simp only [Int.toNat_natCast], ?_⟩
    simp only []
    rw [gt_rm hi]
    exact Int.emod_nonneg _ (by omega)
  · rw [rmL_len] at hi
    exact ⟨_, (hm _).2 ⟨i, hi, rfl⟩, rfl⟩
  · refine (hp.map (·.f0)).nodup_iff.2 ?_
    unfold remL
    rw [List.map_map]
    refine List.pairwise_map.2 (List.Pairwise.imp (fun {i j} e h => e ?_) (List.nodup_range (n := l.length)))
    have h2 : (i : Int) = (j : Int) := by simpa using h
    omega
theorem implShare {l : List Int} {a : Int} (hl : l.length ≤ 1048576) : EvQ (fun k => impl_ShareOf.f k l a) (fun r => r = shV l a) := by
  unfold impl_ShareOf.f
  refine EvQ.call (implSum hl) ?_
  rw [lsV_2]
  refine EvQ.ite (fun h => EvQ.bindc (within_eq (by omega) (by omega)) (EvQ.ite (fun h2 => ?_) (fun h2 => EvQ.ret ?_))) (fun h => EvQ.ret ?_)
  · have ha : -10000000 ≤ a ∧ a ≤ 10000000 := by simpa using h2
    have hA : inA a = true := by simpa [inA] using ha
    obtain ⟨h1, _, _⟩ := okLs_of h
    have hv : shV l a = (serve (a - (flL l a).sum).toNat (flL l a) (rmL l a), true) := by unfold shV; rw [h, hA]; rfl
    refine EvQ.pos (by omega) (EvQ.pos (by omega) ?_)
    rw [lsV_1 h]
    refine EvQ.bindc (parts h ha l.length 0 (by omega) _ _ _ (by simp) (by simp) (by simp [remL])) ?_
    refine EvQ.bindc (a := serve (a - (flL l a).sum).toNat (flL l a) (rmL l a)) ?_ (EvQ.ret hv.symm)
    simp only [remL_len]
    exact serve_eq (lens_near h) ha (start h) (inv_start h)
  · unfold shV inA
    rw [Bool.eq_false_iff.2 h2, Bool.and_false]; rfl
  · unfold shV
    rw [Bool.eq_false_iff.2 h, Bool.false_and]; rfl
theorem shV_all {l : List Int} {a : Int} (h : (shV l a).2 = true) : okLs l = true ∧ (-10000000 ≤ a ∧ a ≤ 10000000) ∧ (shV l a).1.length = l.length ∧ (shV l a).1.sum = a ∧
    ∀ i, i < l.length → (-l.sum < gt (shV l a).1 i * l.sum - a * gt l i ∧ gt (shV l a).1 i * l.sum - a * gt l i < l.sum) ∧ -10000000 ≤ gt (shV l a).1 i ∧ gt (shV l a).1 i ≤ 10000000 := by
  unfold shV at h ⊢
  split at h
  · rename_i hc
    rw [if_pos hc]
    rw [Bool.and_eq_true] at hc
    have ha : -10000000 ≤ a ∧ a ≤ 10000000 := by simpa [inA] using hc.2
    obtain ⟨r', hs⟩ := serve_St (start (a := a) hc.1)
    exact ⟨hc.1, ha, hs.lo, by have := hs.sum; simpa using this, fun i hi => hs.near (lens_near hc.1) ha hi⟩
  · cases h
end Go.Proofs.Ytolkcbnolbkgmaa.Sh

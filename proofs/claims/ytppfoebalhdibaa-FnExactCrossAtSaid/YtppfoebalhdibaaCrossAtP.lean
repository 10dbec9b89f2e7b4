import Derived.Test.YtppfoebalhdibaaEv
import Derived.Test.YtppfoebalhdibaaPx2
import Derived.Test.YtppfoebalhdibaaPx3
import Derived.Test.YtppfoebalhdibaaPx4
set_option linter.unusedVariables false
set_option linter.unusedSimpArgs false
namespace Go.Proofs.Ytppfoebalhdibaa.Cr
open Go.RowKit Go.Proofs.Ytppfoebalhdibaa.P Go.Proofs.YtppfoebalhdibaaW.PrintWords Go.Proofs.YtppfoebalhdibaaW.PrintLast Go.Proofs.YtppfoebalhdibaaW.PrintMore Go.Proofs.Ytppfoebalhdibaa.Ev
def okP (x y : Int) : Bool := decide (-10000 ≤ x ∧ x ≤ 10000) && decide (-10000 ≤ y ∧ y ≤ 10000)
theorem okP_iff {x y : Int} : okP x y = true ↔ (-10000 ≤ x ∧ x ≤ 10000) ∧ (-10000 ≤ y ∧ y ≤ 10000) := by
  unfold okP; simp only [Bool.and_eq_true, decide_eq_true_eq]
theorem inR_P (x y : Int) : inR x y 10000 = okP x y := by
  unfold inR okP
  rw [show wrap64 (-10000) = -10000 from w64 (by omega) (by omega)]
theorem in_eq (a b c : Int) : spec_l6In.f a b c = some (decide (b ≤ a ∧ a ≤ c)) := by
  unfold spec_l6In.f
  by_cases h : a ≥ b
  · rw [if_pos h]; congr 1; rw [Bool.eq_iff_iff]; simp; omega
  · rw [if_neg h]; congr 1; symm; rw [decide_eq_false_iff_not]; omega
theorem pointValid (x y : Int) : spec_PointValid.f x y = some (okP x y) := by
  unfold spec_PointValid.f okP
  rw [in_eq, Option.bind_some]
  by_cases h : -10000 ≤ x ∧ x ≤ 10000
  · rw [if_pos (by simpa using h), in_eq, Option.bind_some, decide_eq_true h, Bool.true_and]
  · rw [if_neg (by simpa using h), decide_eq_false h, Bool.false_and]
structure Ln (ax ay bx by_ cx cy dx dy : Int) : Prop where
  a : okP ax ay = true
  b : okP bx by_ = true
  c : okP cx cy = true
  d : okP dx dy = true
  ab : ax ≠ bx ∨ ay ≠ by_
  cd : cx ≠ dx ∨ cy ≠ dy
theorem lnOk_iff (ax ay bx by_ cx cy dx dy : Int) : lnOk ax ay bx by_ cx cy dx dy = true ↔ Ln ax ay bx by_ cx cy dx dy := by
  unfold lnOk
  rw [inR_P, inR_P, inR_P, inR_P]
  simp only [Bool.and_eq_true, Bool.not_eq_true', Bool.and_eq_false_iff, beq_eq_false_iff_ne, ne_eq]
  constructor
  · rintro ⟨h1, h2, h3, h4, h5, h6⟩; exact ⟨h1, h2, h3, h4, h5, h6⟩
  · rintro ⟨h1, h2, h3, h4, h5, h6⟩; exact ⟨h1, h2, h3, h4, h5, h6⟩
theorem l34Ok (ax ay bx by_ cx cy dx dy : Int) : spec_l34Ok.f ax ay bx by_ cx cy dx dy = some (lnOk ax ay bx by_ cx cy dx dy) := by
  unfold spec_l34Ok.f lnOk
  simp only [pointValid, inR_P, Option.bind_some]
  generalize (ax == bx) = p
  generalize (ay == by_) = q
  generalize (cx == dx) = r
  generalize (cy == dy) = s
  generalize okP ax ay = e1
  generalize okP bx by_ = e2
  generalize okP cx cy = e3
  generalize okP dx dy = e4
  cases e1 <;> cases e2 <;> cases e3 <;> cases e4 <;> cases p <;> cases q <;> cases r <;> cases s <;> rfl
def cr (x y a b : Int) : Int := x * b - y * a
theorem prod_le {x y B C : Int} (hx : -B ≤ x ∧ x ≤ B) (hy : -C ≤ y ∧ y ≤ C) (hB : 0 ≤ B) (hC : 0 ≤ C) : -(B * C) ≤ x * y ∧ x * y ≤ B * C := by
  have h1 : x.natAbs * y.natAbs ≤ B.natAbs * C.natAbs := Nat.mul_le_mul (by omega) (by omega)
  have h2 : (x * y).natAbs ≤ (B * C).natAbs := by rw [Int.natAbs_mul, Int.natAbs_mul]; exact h1
  have h3 : 0 ≤ B * C := Int.mul_nonneg hB hC
  omega
theorem cr_bound {x y a b : Int} (hx : -20000 ≤ x ∧ x ≤ 20000) (hy : -20000 ≤ y ∧ y ≤ 20000) (ha : -20000 ≤ a ∧ a ≤ 20000) (hb : -20000 ≤ b ∧ b ≤ 20000) : -800000000 ≤ cr x y a b ∧ cr x y a b ≤ 800000000 := by
  have h1 := prod_le (B := 20000) (C := 20000) hx hb (by omega) (by omega)
  have h2 := prod_le (B := 20000) (C := 20000) hy ha (by omega) (by omega)
  unfold cr; omega
theorem crI_eq {x y a b : Int} (hx : -20000 ≤ x ∧ x ≤ 20000) (hy : -20000 ≤ y ∧ y ≤ 20000) (ha : -20000 ≤ a ∧ a ≤ 20000) (hb : -20000 ≤ b ∧ b ≤ 20000) : crI x y a b = cr x y a b := by
  have h1 := prod_le (B := 20000) (C := 20000) hx hb (by omega) (by omega)
  have h2 := prod_le (B := 20000) (C := 20000) ha hy (by omega) (by omega)
  unfold crI cr
  rw [w64 (n := x * b) (by omega) (by omega), w64 (n := a * y) (by omega) (by omega), w64 (by omega) (by omega), Int.mul_comm y a]
theorem l2Cross {x y a b : Int} (hx : -20000 ≤ x ∧ x ≤ 20000) (hy : -20000 ≤ y ∧ y ≤ 20000) (ha : -20000 ≤ a ∧ a ≤ 20000) (hb : -20000 ≤ b ∧ b ≤ 20000) : spec_l2Cross.f x y a b = some (cr x y a b) := by
  have h1 := prod_le (B := 20000) (C := 20000) hx hb (by omega) (by omega)
  have h2 := prod_le (B := 20000) (C := 20000) hy ha (by omega) (by omega)
  unfold spec_l2Cross.f cr
  rw [w64 (n := x * b) (by omega) (by omega), w64 (n := y * a) (by omega) (by omega), w64 (by omega) (by omega)]
theorem df {x y : Int} (hx : -10000 ≤ x ∧ x ≤ 10000) (hy : -10000 ≤ y ∧ y ≤ 10000) : (-20000 ≤ y - x ∧ y - x ≤ 20000) ∧ wrap64 (y - x) = y - x := ⟨by omega, w64 (by omega) (by omega)⟩
def Bt (D P : Int) : Prop := (0 ≤ P ∧ P ≤ D) ∨ (D ≤ P ∧ P ≤ 0)
instance (D P : Int) : Decidable (Bt D P) := inferInstanceAs (Decidable (_ ∨ _))
theorem Bt.neg {D P : Int} : Bt (-D) (-P) ↔ Bt D P := by unfold Bt; omega
theorem Bt.of {D P s x : Int} (hD : D ≠ 0) (h : x * D = s * P) (hb : Bt D P) : Bt s x := by
  have key : ∀ D P s x : Int, 0 < D → x * D = s * P → 0 ≤ P ∧ P ≤ D → Bt s x := by
    intro D P s x hD h ⟨h0, h1⟩
    by_cases hs : 0 ≤ s
    · left
      have a1 : 0 ≤ s * P := Int.mul_nonneg hs h0
      have a2 : s * P ≤ s * D := Int.mul_le_mul_of_nonneg_left h1 hs
      rw [← h] at a1 a2
      refine ⟨?_, Int.le_of_mul_le_mul_right a2 hD⟩
      have : 0 * D ≤ x * D := by rw [Int.zero_mul]; exact a1
      exact Int.le_of_mul_le_mul_right this hD
    · right
      have hs : s ≤ 0 := by omega
      have a1 : s * P ≤ 0 := Int.mul_nonpos_of_nonpos_of_nonneg hs h0
      have a2 : s * D ≤ s * P := by
        have := Int.mul_le_mul_of_nonneg_left h1 (show 0 ≤ -s by omega)
        rw [Int.neg_mul, Int.neg_mul] at this; omega
      rw [← h] at a1 a2
      refine ⟨Int.le_of_mul_le_mul_right a2 hD, ?_⟩
      have : x * D ≤ 0 * D := by rw [Int.zero_mul]; exact a1
      exact Int.le_of_mul_le_mul_right this hD
  rcases hb with hb | hb
  · by_cases h0 : 0 < D
    · exact key D P s x h0 h hb
    · omega
  · have h0 : 0 < -D := by omega
    exact key (-D) (-P) s x h0 (by rw [Int.mul_neg, Int.mul_neg, h]) (by omega)
theorem Bt.both {D P s x r y : Int} (hD : D ≠ 0) (h1 : x * D = s * P) (h2 : y * D = r * P) (hs : s ≠ 0 ∨ r ≠ 0) : (Bt s x ∧ Bt r y) ↔ Bt D P := by
  constructor
  · rintro ⟨b1, b2⟩
    rcases hs with hs | hs
    · exact Bt.of hs (by rw [Int.mul_comm P s, Int.mul_comm D x]; exact h1.symm) b1
    · exact Bt.of hs (by rw [Int.mul_comm P r, Int.mul_comm D y]; exact h2.symm) b2
  · exact fun hb => ⟨Bt.of hD h1 hb, Bt.of hD h2 hb⟩
def On (ax ay bx by_ cx cy : Int) : Prop := cr (bx - ax) (by_ - ay) (cx - ax) (cy - ay) = 0 ∧ Bt (bx - ax) (cx - ax) ∧ Bt (by_ - ay) (cy - ay)
instance (ax ay bx by_ cx cy : Int) : Decidable (On ax ay bx by_ cx cy) := inferInstanceAs (Decidable (_ ∧ _))
def pD (ax ay bx by_ cx cy dx dy : Int) : Int := cr (bx - ax) (by_ - ay) (dx - cx) (dy - cy)
def pP (ax ay bx by_ cx cy dx dy : Int) : Int := cr (cx - ax) (cy - ay) (dx - cx) (dy - cy)
theorem l34Parts {ax ay bx by_ cx cy dx dy : Int} (h : Ln ax ay bx by_ cx cy dx dy) : spec_l34Parts.f ax ay bx by_ cx cy dx dy = some (pP ax ay bx by_ cx cy dx dy, pD ax ay bx by_ cx cy dx dy) := by
  have ha := okP_iff.1 h.a; have hb := okP_iff.1 h.b; have hc := okP_iff.1 h.c; have hd := okP_iff.1 h.d
  unfold spec_l34Parts.f spec_l2Step.f pP pD
  simp only [Option.bind_some]
  rw [(df ha.1 hb.1).2, (df ha.2 hb.2).2, (df ha.1 hc.1).2, (df ha.2 hc.2).2, (df hc.1 hd.1).2, (df hc.2 hd.2).2, l2Cross (df ha.1 hc.1).1 (df ha.2 hc.2).1 (df hc.1 hd.1).1 (df hc.2 hd.2).1, l2Cross (df ha.1 hb.1).1 (df ha.2 hb.2).1 (df hc.1 hd.1).1 (df hc.2 hd.2).1]
  simp only [Option.bind_some]
theorem p_bound {ax ay bx by_ cx cy dx dy : Int} (h : Ln ax ay bx by_ cx cy dx dy) : (-800000000 ≤ pD ax ay bx by_ cx cy dx dy ∧ pD ax ay bx by_ cx cy dx dy ≤ 800000000) ∧ (-800000000 ≤ pP ax ay bx by_ cx cy dx dy ∧ pP ax ay bx by_ cx cy dx dy ≤ 800000000) := by
  have ha := okP_iff.1 h.a; have hb := okP_iff.1 h.b; have hc := okP_iff.1 h.c; have hd := okP_iff.1 h.d
  exact ⟨cr_bound (df ha.1 hb.1).1 (df ha.2 hb.2).1 (df hc.1 hd.1).1 (df hc.2 hd.2).1, cr_bound (df ha.1 hc.1).1 (df ha.2 hc.2).1 (df hc.1 hd.1).1 (df hc.2 hd.2).1⟩
def nrm (P D : Int) : Int × Int := if D < 0 then (-P, -D) else (P, D)
theorem alI_eq {ax ay bx by_ cx cy dx dy : Int} (h : Ln ax ay bx by_ cx cy dx dy) : alI ax ay (wrap64 (bx - ax)) (wrap64 (by_ - ay)) cx cy (wrap64 (dx - cx)) (wrap64 (dy - cy)) = nrm (pP ax ay bx by_ cx cy dx dy) (pD ax ay bx by_ cx cy dx dy) := by
  have ha := okP_iff.1 h.a; have hb := okP_iff.1 h.b; have hc := okP_iff.1 h.c; have hd := okP_iff.1 h.d
  have b := p_bound h
  unfold alI alT nrm
  rw [(df ha.1 hb.1).2, (df ha.2 hb.2).2, (df ha.1 hc.1).2, (df ha.2 hc.2).2, (df hc.1 hd.1).2, (df hc.2 hd.2).2, crI_eq (df ha.1 hc.1).1 (df ha.2 hc.2).1 (df hc.1 hd.1).1 (df hc.2 hd.2).1, crI_eq (df ha.1 hb.1).1 (df ha.2 hb.2).1 (df hc.1 hd.1).1 (df hc.2 hd.2).1]
  change (if pD ax ay bx by_ cx cy dx dy < 0 then (wrap64 (-pP ax ay bx by_ cx cy dx dy), wrap64 (-pD ax ay bx by_ cx cy dx dy)) else (pP ax ay bx by_ cx cy dx dy, pD ax ay bx by_ cx cy dx dy)) = _
  rw [w64 (n := -pP ax ay bx by_ cx cy dx dy) (by omega) (by omega), w64 (n := -pD ax ay bx by_ cx cy dx dy) (by omega) (by omega)]
theorem Ln.swap {ax ay bx by_ cx cy dx dy : Int} (h : Ln ax ay bx by_ cx cy dx dy) : Ln cx cy dx dy ax ay bx by_ := ⟨h.c, h.d, h.a, h.b, h.cd, h.ab⟩
theorem gcd_loop {g : Nat → Int → Int → Option Int} (hg : ∀ k x y, g (k + 1) x y = if y = 0 then some x else g k y (Int.tmod x y)) : ∀ (y x : Nat), EvQ (fun k => g k (x : Int) (y : Int)) (fun r => r = (Nat.gcd x y : Int)) := by
  intro y
  induction y using Nat.strongRecOn with
  | ind y ih =>
    intro x
    refine EvQ.step (fun k => hg k x y) ?_
    by_cases h : y = 0
    · subst h; exact EvQ.pos rfl (EvQ.ret (by simp))
    · refine EvQ.neg (by omega) ?_
      rw [Int.tmod_eq_emod_of_nonneg (by omega), ← Int.natCast_emod]
      refine (ih (x % y) (Nat.mod_lt _ (by omega)) y).mono ?_
      rintro _ rfl
      rw [Nat.gcd_comm y, ← Nat.gcd_rec, Nat.gcd_comm]
def ab (x : Int) : Int := (x.natAbs : Int)
theorem implAbs {x : Int} (h : -9000000000000000000 ≤ x ∧ x ≤ 9000000000000000000) : impl_absInt.f x = some (ab x) := by
  unfold impl_absInt.f ab
  rw [w64 (n := -x) (by omega) (by omega)]
  split
  · congr 1; omega
  · congr 1; omega
theorem specAbs {x : Int} (h : -9000000000000000000 ≤ x ∧ x ≤ 9000000000000000000) : spec_l1Size.f x = some (ab x) := by
  unfold spec_l1Size.f ab mx
  rw [w64 (n := -x) (by omega) (by omega)]
  congr 1; split <;> omega
theorem implGcd {a b : Int} (ha : -9000000000000000000 ≤ a ∧ a ≤ 9000000000000000000) (hb : -9000000000000000000 ≤ b ∧ b ≤ 9000000000000000000) : EvQ (fun k => impl_gcdInt.f k a b) (fun r => r = (Int.gcd a b : Int)) := by
  unfold impl_gcdInt.f
  refine EvQ.bindc (implAbs ha) (EvQ.bindc (implAbs hb) ?_)
  exact gcd_loop (g := impl_gcdInt.l0) (fun k x y => by simp only [impl_gcdInt.l0]) b.natAbs a.natAbs
theorem specGcd {a b : Int} (hb : 0 ≤ b) : EvQ (fun k => spec_l1Common.f k (ab a) b) (fun r => r = (Int.gcd a b : Int)) := by
  unfold spec_l1Common.f ab
  obtain ⟨n, rfl⟩ := Int.eq_ofNat_of_zero_le hb
  exact gcd_loop (g := spec_l1Common.l0) (fun k x y => by simp only [spec_l1Common.l0]) n a.natAbs
def okQ (t l : Int) : Bool := decide (1 ≤ l ∧ l ≤ 1000000000) && (decide (-1000000000 ≤ t ∧ t ≤ 1000000000) && decide (Int.gcd t l = 1))
theorem implWithin (a m : Int) (hm : 0 ≤ m ∧ m ≤ 9000000000000000000) : impl_within.f a m = some (decide (-m ≤ a ∧ a ≤ m)) := by
  unfold impl_within.f
  rw [w64 (n := -m) (by omega) (by omega)]
  by_cases h : -m ≤ a
  · rw [if_pos h]; congr 1; rw [Bool.eq_iff_iff]; simp; omega
  · rw [if_neg h]; congr 1; symm; rw [decide_eq_false_iff_not]; omega
theorem implOkQ {t l : Int} : EvQ (fun k => impl_QuoValid.f k t l) (fun r => r = okQ t l) := by
  unfold impl_QuoValid.f okQ
  refine EvQ.ite (fun h => EvQ.ret ?_) (fun h1 => EvQ.ite (fun h => EvQ.ret ?_) (fun h2 => ?_))
  · symm; rw [decide_eq_false (by omega), Bool.false_and]
  · symm; rw [decide_eq_false (by omega), Bool.false_and]
  rw [decide_eq_true (show 1 ≤ l ∧ l ≤ 1000000000 by omega), Bool.true_and]
  refine EvQ.bindc (implWithin t 1000000000 (by omega)) (EvQ.ite (fun h => ?_) (fun h => EvQ.ret ?_))
  · have h : -1000000000 ≤ t ∧ t ≤ 1000000000 := by simpa using h
    rw [decide_eq_true h, Bool.true_and]
    refine EvQ.call (implGcd (by omega) (by omega)) (EvQ.ret ?_)
    rw [Bool.eq_iff_iff]; simp; omega
  · symm; rw [decide_eq_false (by simpa using h), Bool.false_and]
theorem specOkQ {t l : Int} : EvQ (fun k => spec_QuoValid.f k t l) (fun r => r = okQ t l) := by
  have hj : ∀ b : Bool, b = true → okQ t l = false → EvQ (fun k => spec_QuoValid.j0 k b t l) (fun r => r = okQ t l) := by
    rintro _ rfl h
    refine EvQ.step (fun k => by simp only [spec_QuoValid.j0]; rfl) ?_
    exact EvQ.pos (by simp) (EvQ.ret h.symm)
  have in_eq : ∀ a b c : Int, spec_l6In.f a b c = some (decide (b ≤ a ∧ a ≤ c)) := fun a b c => Cr.in_eq a b c
  unfold spec_QuoValid.f
  rw [in_eq, in_eq]
  simp only [Option.bind_some]
  refine EvQ.ite (fun h1 => ?_) (fun h1 => hj _ rfl (by unfold okQ; rw [decide_eq_false (by simpa using h1), Bool.false_and]))
  have h1 : 1 ≤ l ∧ l ≤ 1000000000 := by simpa using h1
  by_cases h2 : -1000000000 ≤ t ∧ t ≤ 1000000000
  · refine EvQ.step (fun k => by simp only [spec_QuoValid.j0]; rfl) ?_
    refine EvQ.neg (by simp [h2]) (EvQ.bindc (specAbs (by omega)) (EvQ.call (specGcd (by omega)) (EvQ.ret ?_)))
    unfold okQ
    rw [decide_eq_true h1, decide_eq_true h2, Bool.true_and, Bool.true_and, Bool.eq_iff_iff]; simp; omega
  · exact hj _ (by simp only [Bool.not_eq_true', decide_eq_false_iff_not]; exact h2) (by unfold okQ; rw [decide_eq_true h1, decide_eq_false h2]; rfl)
def redQ (a b : Int) : Int × Int × Bool := if okQ (a / (Int.gcd a b : Int)) (b / (Int.gcd a b : Int)) then (a / (Int.gcd a b : Int), b / (Int.gcd a b : Int), true) else (0, 0, false)
def inQ (a b : Int) : Prop := (-4000000000000000000 ≤ a ∧ a ≤ 4000000000000000000) ∧ (-4000000000000000000 ≤ b ∧ b ≤ 4000000000000000000)
instance (a b : Int) : Decidable (inQ a b) := inferInstanceAs (Decidable (_ ∧ _))
def quoV (a b : Int) : Int × Int × Bool := if b ≠ 0 ∧ inQ a b then (if b < 0 then redQ (-a) (-b) else redQ a b) else (0, 0, false)
theorem tdiv_gcd {a b : Int} (hb : 0 < b) : Int.tdiv a (Int.gcd a b : Int) = a / (Int.gcd a b : Int) := by
  obtain ⟨c, hc⟩ := Int.gcd_dvd_left (a := a) (b := b)
  have hg : 0 < (Int.gcd a b : Int) := by
    have := Int.gcd_pos_of_ne_zero_right a (show b ≠ 0 by omega); omega
  generalize (Int.gcd a b : Int) = g at *
  rw [hc, Int.mul_tdiv_cancel_left _ (by omega), Int.mul_ediv_cancel_left _ (by omega)]
theorem tdiv_gcd' {a b : Int} (hb : 0 < b) : Int.tdiv b (Int.gcd a b : Int) = b / (Int.gcd a b : Int) := Int.tdiv_eq_ediv_of_nonneg (by omega)
theorem div_le {a g : Int} (hg : 0 < g) (h : -4000000000000000000 ≤ a ∧ a ≤ 4000000000000000000) : -4000000000000000000 ≤ a / g ∧ a / g ≤ 4000000000000000000 := by
  constructor
  · rw [Int.le_ediv_iff_mul_le hg]
    have : -4000000000000000000 * g ≤ -4000000000000000000 * 1 := Int.mul_le_mul_of_nonpos_left (by omega) (by omega)
    omega
  · by_cases h0 : 0 ≤ a
    · exact Int.le_trans (Int.ediv_le_self _ h0) h.2
    · have := Int.ediv_neg_of_neg_of_pos (show a < 0 by omega) hg; omega
theorem implRed {a b : Int} (h : inQ a b) (hb : 0 < b) : EvQ (fun k => impl_QuoOf.j1 k a b) (fun r => r = redQ a b) := by
  have hg : 0 < (Int.gcd a b : Int) := by
    have := Int.gcd_pos_of_ne_zero_right a (show b ≠ 0 by omega); omega
  have d1 := div_le hg h.1
  have d2 := div_le hg h.2
  refine EvQ.step (fun k => by simp only [impl_QuoOf.j1]; rfl) ?_
  refine EvQ.call (implGcd (by unfold inQ at h; omega) (by unfold inQ at h; omega)) (EvQ.neg (by omega) ?_)
  rw [tdiv_gcd hb, tdiv_gcd' hb, w64 (n := a / _) (by omega) (by omega), w64 (n := b / _) (by omega) (by omega)]
  unfold redQ
  exact EvQ.call implOkQ (EvQ.ite (fun h => EvQ.ret (by rw [if_pos h])) (fun h => EvQ.ret (by rw [if_neg h])))
theorem specRed {a b : Int} (h : inQ a b) (hb : 0 < b) : EvQ (fun k => spec_QuoOf.j1 k a b) (fun r => r = redQ a b) := by
  have hg : 0 < (Int.gcd a b : Int) := by
    have := Int.gcd_pos_of_ne_zero_right a (show b ≠ 0 by omega); omega
  have d1 := div_le hg h.1
  have d2 := div_le hg h.2
  refine EvQ.step (fun k => by simp only [spec_QuoOf.j1]; rfl) ?_
  refine EvQ.bindc (specAbs (by unfold inQ at h; omega)) (EvQ.call (specGcd (by omega)) (EvQ.neg (by omega) ?_))
  rw [tdiv_gcd hb, tdiv_gcd' hb, w64 (n := a / _) (by omega) (by omega), w64 (n := b / _) (by omega) (by omega)]
  unfold redQ
  exact EvQ.call specOkQ (EvQ.ite (fun h => EvQ.ret (by rw [if_pos h])) (fun h => EvQ.ret (by rw [if_neg h])))
theorem implQuoOf (a b : Int) : EvQ (fun k => impl_QuoOf.f k a b) (fun r => r = quoV a b) := by
  have hj : ∀ x : Bool, x = true → ¬ (b ≠ 0 ∧ inQ a b) → EvQ (fun k => impl_QuoOf.j0 k a b x) (fun r => r = quoV a b) := by
    rintro _ rfl h
    refine EvQ.step (fun k => by simp only [impl_QuoOf.j0]; rfl) ?_
    exact EvQ.pos (by simp) (EvQ.ret (by unfold quoV; rw [if_neg h]))
  unfold impl_QuoOf.f
  rw [implWithin a _ (by omega), implWithin b _ (by omega)]
  simp only [Option.bind_some]
  refine EvQ.ite (fun h => hj _ rfl (by omega)) (fun h0 => ?_)
  refine EvQ.ite (fun h1 => ?_) (fun h1 => hj _ rfl (fun h => h1 (by simpa using h.2.1)))
  have h1 : -4000000000000000000 ≤ a ∧ a ≤ 4000000000000000000 := by simpa using h1
  by_cases h2 : -4000000000000000000 ≤ b ∧ b ≤ 4000000000000000000
  · have hq : inQ a b := ⟨h1, h2⟩
    have hv : quoV a b = if b < 0 then redQ (-a) (-b) else redQ a b := by unfold quoV; rw [if_pos ⟨h0, hq⟩]
    refine EvQ.step (fun k => by simp only [impl_QuoOf.j0]; rfl) ?_
    rw [hv, w64 (n := -a) (by omega) (by omega), w64 (n := -b) (by omega) (by omega)]
    refine EvQ.neg (by simp [h2]) (EvQ.ite (fun h => ?_) (fun h => ?_))
    · rw [if_pos h]; exact implRed (by unfold inQ; omega) (by omega)
    · rw [if_neg h]; exact implRed hq (by omega)
  · exact hj _ (by simp only [Bool.not_eq_true', decide_eq_false_iff_not]; exact h2) (fun h => h2 h.2.2)
theorem specQuoOf (a b : Int) : EvQ (fun k => spec_QuoOf.f k a b) (fun r => r = quoV a b) := by
  have hj : ∀ x : Bool, x = true → ¬ (b ≠ 0 ∧ inQ a b) → EvQ (fun k => spec_QuoOf.j0 k a b x) (fun r => r = quoV a b) := by
    rintro _ rfl h
    refine EvQ.step (fun k => by simp only [spec_QuoOf.j0]; rfl) ?_
    exact EvQ.pos (by simp) (EvQ.ret (by unfold quoV; rw [if_neg h]))
  unfold spec_QuoOf.f
  rw [in_eq, in_eq]
  simp only [Option.bind_some]
  refine EvQ.ite (fun h1 => ?_) (fun h1 => hj _ rfl (fun h => h1 (by simpa using h.2.1)))
  have h1 : -4000000000000000000 ≤ a ∧ a ≤ 4000000000000000000 := by simpa using h1
  refine EvQ.ite (fun h2 => ?_) (fun h2 => hj _ rfl (fun h => h2 (by simpa using h.2.2)))
  have h2 : -4000000000000000000 ≤ b ∧ b ≤ 4000000000000000000 := by simpa using h2
  by_cases h0 : b = 0
  · exact hj _ (by simpa using h0) (fun h => h.1 h0)
  · have hq : inQ a b := ⟨h1, h2⟩
    have hv : quoV a b = if b < 0 then redQ (-a) (-b) else redQ a b := by unfold quoV; rw [if_pos ⟨h0, hq⟩]
    refine EvQ.step (fun k => by simp only [spec_QuoOf.j0]; rfl) ?_
    rw [hv, w64 (n := -a) (by omega) (by omega), w64 (n := -b) (by omega) (by omega)]
    refine EvQ.neg (by simpa using h0) (EvQ.ite (fun h => ?_) (fun h => ?_))
    · rw [if_pos h]; exact specRed (by unfold inQ; omega) (by omega)
    · rw [if_neg h]; exact specRed hq (by omega)
theorem quoV_neg (a b : Int) : quoV (-a) (-b) = quoV a b := by
  unfold quoV
  by_cases h : b ≠ 0 ∧ inQ a b
  · rw [if_pos h, if_pos ⟨by omega, by have := h.2; unfold inQ at *; omega⟩]
    by_cases hb : b < 0
    · rw [if_pos hb, if_neg (by omega)]
    · have : -b < 0 := by omega
      rw [if_neg hb, if_pos this, Int.neg_neg, Int.neg_neg]
  · rw [if_neg h, if_neg (by rintro ⟨h1, h2⟩; exact h ⟨by omega, by unfold inQ at *; omega⟩)]
def atX (a s P D : Int) : Int × Int × Bool := quoV (a * D + P * s) D
def both (x y : Int × Int × Bool) : Int × Int × Int × Int × Bool := if x.2.2 = true then (if y.2.2 = true then (x.1, x.2.1, y.1, y.2.1, true) else (0, 0, 0, 0, false)) else (0, 0, 0, 0, false)
def atV (ax ay bx by_ cx cy dx dy : Int) : Int × Int × Int × Int × Bool := if lnOk ax ay bx by_ cx cy dx dy = true then both (atX ax (bx - ax) (pP ax ay bx by_ cx cy dx dy) (pD ax ay bx by_ cx cy dx dy)) (atX ay (by_ - ay) (pP ax ay bx by_ cx cy dx dy) (pD ax ay bx by_ cx cy dx dy)) else (0, 0, 0, 0, false)
theorem num_eq {a s P D : Int} (ha : -10000 ≤ a ∧ a ≤ 10000) (hs : -20000 ≤ s ∧ s ≤ 20000) (hP : -800000000 ≤ P ∧ P ≤ 800000000) (hD : -800000000 ≤ D ∧ D ≤ 800000000) : wrap64 (wrap64 (a * D) + wrap64 (P * s)) = a * D + P * s := by
  have h1 := prod_le (B := 10000) (C := 800000000) ha hD (by omega) (by omega)
  have h2 := prod_le (B := 800000000) (C := 20000) hP hs (by omega) (by omega)
  rw [w64 (n := a * D) (by omega) (by omega), w64 (n := P * s) (by omega) (by omega), w64 (by omega) (by omega)]
theorem atX_nrm (a s P D : Int) : quoV (a * (nrm P D).2 + (nrm P D).1 * s) (nrm P D).2 = atX a s P D := by
  unfold nrm atX; split
  · simp only []
    rw [Int.mul_neg, Int.neg_mul, ← Int.neg_add]; exact quoV_neg _ _
  · rfl
theorem implAt (ax ay bx by_ cx cy dx dy : Int) : EvQ (fun k => impl_CrossAt.f k ax ay bx by_ cx cy dx dy) (fun r => r = atV ax ay bx by_ cx cy dx dy) := by
  unfold impl_CrossAt.f atV
  refine EvQ.ite (fun hl => ?_) (fun hl => EvQ.ret (by rw [if_neg hl]))
  have h := (lnOk_iff _ _ _ _ _ _ _ _).1 hl
  have ha := okP_iff.1 h.a; have hb := okP_iff.1 h.b
  have b := p_bound h
  have b2 : (-800000000 ≤ (nrm (pP ax ay bx by_ cx cy dx dy) (pD ax ay bx by_ cx cy dx dy)).1 ∧ (nrm (pP ax ay bx by_ cx cy dx dy) (pD ax ay bx by_ cx cy dx dy)).1 ≤ 800000000) ∧ (-800000000 ≤ (nrm (pP ax ay bx by_ cx cy dx dy) (pD ax ay bx by_ cx cy dx dy)).2 ∧ (nrm (pP ax ay bx by_ cx cy dx dy) (pD ax ay bx by_ cx cy dx dy)).2 ≤ 800000000) := by
    unfold nrm; split <;> simp only [] <;> omega
  rw [if_pos hl, alI_eq h, (df ha.1 hb.1).2, (df ha.2 hb.2).2, num_eq ha.1 (df ha.1 hb.1).1 b2.1 b2.2, num_eq ha.2 (df ha.2 hb.2).1 b2.1 b2.2]
  refine EvQ.call (implQuoOf _ _) (EvQ.call (implQuoOf _ _) ?_)
  rw [atX_nrm, atX_nrm]
  unfold both
  refine EvQ.ite (fun h1 => EvQ.ite (fun h2 => EvQ.ret ?_) (fun h2 => EvQ.ret ?_)) (fun h1 => EvQ.ret ?_)
  · rw [if_pos h1, if_pos h2]
  · rw [if_pos h1, if_neg h2]
  · rw [if_neg h1]
theorem specAt (ax ay bx by_ cx cy dx dy : Int) : EvQ (fun k => spec_CrossAt.f k ax ay bx by_ cx cy dx dy) (fun r => r = atV ax ay bx by_ cx cy dx dy) := by
  unfold spec_CrossAt.f atV
  refine EvQ.bindc (l34Ok _ _ _ _ _ _ _ _) (EvQ.ite (fun hl => ?_) (fun hl => EvQ.ret (by rw [if_neg hl])))
  have h := (lnOk_iff _ _ _ _ _ _ _ _).1 hl
  have ha := okP_iff.1 h.a; have hb := okP_iff.1 h.b
  have b := p_bound h
  rw [if_pos hl]
  refine EvQ.bindc (l34Parts h) (EvQ.ite (fun h0 => EvQ.ret ?_) (fun h0 => ?_))
  · have h0 : pD ax ay bx by_ cx cy dx dy = 0 := h0
    rw [h0]
    unfold both atX quoV
    simp
  · simp only []
    rw [(df ha.1 hb.1).2, (df ha.2 hb.2).2, num_eq ha.1 (df ha.1 hb.1).1 b.2 b.1, num_eq ha.2 (df ha.2 hb.2).1 b.2 b.1]
    refine EvQ.call (specQuoOf _ _) (EvQ.call (specQuoOf _ _) ?_)
    unfold both atX
    refine EvQ.ite (fun h1 => EvQ.ite (fun h2 => EvQ.ret ?_) (fun h2 => EvQ.ret ?_)) (fun h1 => EvQ.ret ?_)
    · rw [if_pos h1, if_pos h2]
    · rw [if_pos h1, if_neg h2]
    · rw [if_neg h1]
theorem Ln.step {ax ay bx by_ cx cy dx dy : Int} (h : Ln ax ay bx by_ cx cy dx dy) : bx - ax ≠ 0 ∨ by_ - ay ≠ 0 := by rcases h.ab with h | h <;> omega
end Go.Proofs.Ytppfoebalhdibaa.Cr

import Derived.Test.YtfonigbkoligmaaEv
import Derived.Test.YtfonigbkoligmaaPx5
import Derived.Test.YtfonigbkoligmaaPx6
import Derived.Test.YtfonigbkoligmaaPx7
import Derived.Test.YtfonigbkoligmaaPx2
set_option linter.unusedVariables false
set_option linter.unusedSimpArgs false
namespace Go.Proofs.Ytfonigbkoligmaa.Cr
open Go.RowKit Go.Proofs.Ytfonigbkoligmaa.P Go.Proofs.YtfonigbkoligmaaW.PrintWords Go.Proofs.YtfonigbkoligmaaW.PrintLast Go.Proofs.YtfonigbkoligmaaW.PrintMore Go.Proofs.Ytfonigbkoligmaa.Ev
def okP (x y : Int) : Bool := decide (-10000 ≤ x ∧ x ≤ 10000) && decide (-10000 ≤ y ∧ y ≤ 10000)
theorem okP_iff {x y : Int} : okP x y = true ↔ (-10000 ≤ x ∧ x ≤ 10000) ∧ (-10000 ≤ y ∧ y ≤ 10000) := by
  unfold okP; simp only [Bool.and_eq_true, decide_eq_true_eq]
theorem inR_P (x y : Int) : inR x y 10000 = okP x y := by
  unfold inR okP
  rw [show wrap64 (-10000) = -10000 from w64 (by omega) (by omega)]
theorem in_eq (a b c : Int) : spec_l6In.f a b c = some (decide (b ≤ a ∧ a ≤ c)) := by
  unfold spec_l6In.f
  by_cases h : a ≥ b
  · rw [if_pos h]; congr 1; rw [Bool.eq_iff_iff]; simp; omega
  · rw [if_neg h]; congr 1; symm; rw [decide_eq_false_iff_not]; omega
theorem pointValid (x y : Int) : spec_PointValid.f x y = some (okP x y) := by
  unfold spec_PointValid.f okP
  rw [in_eq, Option.bind_some]
  by_cases h : -10000 ≤ x ∧ x ≤ 10000
  · rw [if_pos (by simpa using h), in_eq, Option.bind_some, decide_eq_true h, Bool.true_and]
  · rw [if_neg (by simpa using h), decide_eq_false h, Bool.false_and]
def cr (x y a b : Int) : Int := x * b - y * a
theorem prod_le {x y B C : Int} (hx : -B ≤ x ∧ x ≤ B) (hy : -C ≤ y ∧ y ≤ C) (hB : 0 ≤ B) (hC : 0 ≤ C) : -(B * C) ≤ x * y ∧ x * y ≤ B * C := by
  have h1 : x.natAbs * y.natAbs ≤ B.natAbs * C.natAbs := Nat.mul_le_mul (by omega) (by omega)
  have h2 : (x * y).natAbs ≤ (B * C).natAbs := by rw [Int.natAbs_mul, Int.natAbs_mul]; exact h1
  have h3 : 0 ≤ B * C := Int.mul_nonneg hB hC
  omega
theorem cr_bound {x y a b : Int} (hx : -20000 ≤ x ∧ x ≤ 20000) (hy : -20000 ≤ y ∧ y ≤ 20000) (ha : -20000 ≤ a ∧ a ≤ 20000) (hb : -20000 ≤ b ∧ b ≤ 20000) : -800000000 ≤ cr x y a b ∧ cr x y a b ≤ 800000000 := by
  have h1 := prod_le (B := 20000) (C := 20000) hx hb (by omega) (by omega)
  have h2 := prod_le (B := 20000) (C := 20000) hy ha (by omega) (by omega)
  unfold cr; omega
theorem crI_eq {x y a b : Int} (hx : -20000 ≤ x ∧ x ≤ 20000) (hy : -20000 ≤ y ∧ y ≤ 20000) (ha : -20000 ≤ a ∧ a ≤ 20000) (hb : -20000 ≤ b ∧ b ≤ 20000) : crI x y a b = cr x y a b := by
  have h1 := prod_le (B := 20000) (C := 20000) hx hb (by omega) (by omega)
  have h2 := prod_le (B := 20000) (C := 20000) ha hy (by omega) (by omega)
  unfold crI cr
  rw [w64 (n := x * b) (by omega) (by omega), w64 (n := a * y) (by omega) (by omega), w64 (by omega) (by omega), Int.mul_comm y a]
theorem l2Cross {x y a b : Int} (hx : -20000 ≤ x ∧ x ≤ 20000) (hy : -20000 ≤ y ∧ y ≤ 20000) (ha : -20000 ≤ a ∧ a ≤ 20000) (hb : -20000 ≤ b ∧ b ≤ 20000) : spec_l2Cross.f x y a b = some (cr x y a b) := by
  have h1 := prod_le (B := 20000) (C := 20000) hx hb (by omega) (by omega)
  have h2 := prod_le (B := 20000) (C := 20000) hy ha (by omega) (by omega)
  unfold spec_l2Cross.f cr
  rw [w64 (n := x * b) (by omega) (by omega), w64 (n := y * a) (by omega) (by omega), w64 (by omega) (by omega)]
theorem l1Sign (t : Int) : spec_l1Sign.f t = some (sgI t) := by
  unfold spec_l1Sign.f sgI mx mn; congr 1; split <;> split <;> (try split) <;> omega
theorem df {x y : Int} (hx : -10000 ≤ x ∧ x ≤ 10000) (hy : -10000 ≤ y ∧ y ≤ 10000) : (-20000 ≤ y - x ∧ y - x ≤ 20000) ∧ wrap64 (y - x) = y - x := ⟨by omega, w64 (by omega) (by omega)⟩
def sd (ax ay bx by_ cx cy : Int) : Int := sgI (cr (bx - ax) (by_ - ay) (cx - ax) (cy - ay))
theorem sdI_eq {ax ay bx by_ cx cy : Int} (ha : okP ax ay = true) (hb : okP bx by_ = true) (hc : okP cx cy = true) : sdI ax ay bx by_ cx cy = sd ax ay bx by_ cx cy := by
  have ha := okP_iff.1 ha; have hb := okP_iff.1 hb; have hc := okP_iff.1 hc
  unfold sdI sd
  rw [(df ha.1 hb.1).2, (df ha.2 hb.2).2, (df ha.1 hc.1).2, (df ha.2 hc.2).2, crI_eq (df ha.1 hb.1).1 (df ha.2 hb.2).1 (df ha.1 hc.1).1 (df ha.2 hc.2).1]
theorem l31Side {ax ay bx by_ cx cy : Int} (ha : okP ax ay = true) (hb : okP bx by_ = true) (hc : okP cx cy = true) : spec_l31Side.f ax ay bx by_ cx cy = some (sd ax ay bx by_ cx cy) := by
  have ha := okP_iff.1 ha; have hb := okP_iff.1 hb; have hc := okP_iff.1 hc
  unfold spec_l31Side.f spec_l2Step.f sd
  simp only [Option.bind_some]
  rw [(df ha.1 hb.1).2, (df ha.2 hb.2).2, (df ha.1 hc.1).2, (df ha.2 hc.2).2, l2Cross (df ha.1 hb.1).1 (df ha.2 hb.2).1 (df ha.1 hc.1).1 (df ha.2 hc.2).1, Option.bind_some, l1Sign, Option.bind_some]
theorem sg0 {x : Int} : sgI x = 0 ↔ x = 0 := by unfold sgI; split <;> (try split) <;> omega
theorem sg_range (x : Int) : -1 ≤ sgI x ∧ sgI x ≤ 1 := by unfold sgI; split <;> (try split) <;> omega
theorem sg_mul {x y : Int} : sgI x * sgI y < 0 ↔ (x < 0 ∧ 0 < y) ∨ (0 < x ∧ y < 0) := by
  unfold sgI
  by_cases h1 : x < 0 <;> by_cases h2 : y < 0 <;> by_cases h3 : x > 0 <;> by_cases h4 : y > 0 <;> simp [h1, h2, h3, h4] <;> omega
def Bt (D P : Int) : Prop := (0 ≤ P ∧ P ≤ D) ∨ (D ≤ P ∧ P ≤ 0)
instance (D P : Int) : Decidable (Bt D P) := inferInstanceAs (Decidable (_ ∨ _))
theorem Bt.neg {D P : Int} : Bt (-D) (-P) ↔ Bt D P := by unfold Bt; omega
theorem Bt.of {D P s x : Int} (hD : D ≠ 0) (h : x * D = s * P) (hb : Bt D P) : Bt s x := by
  have key : ∀ D P s x : Int, 0 < D → x * D = s * P → 0 ≤ P ∧ P ≤ D → Bt s x := by
    intro D P s x hD h ⟨h0, h1⟩
    by_cases hs : 0 ≤ s
    · left
      have a1 : 0 ≤ s * P := Int.mul_nonneg hs h0
      have a2 : s * P ≤ s * D := Int.mul_le_mul_of_nonneg_left h1 hs
      rw [← h] at a1 a2
      refine ⟨?_, Int.le_of_mul_le_mul_right a2 hD⟩
      have : 0 * D ≤ x * D := by rw [Int.zero_mul]; exact a1
      exact Int.le_of_mul_le_mul_right this hD
    · right
      have hs : s ≤ 0 := by omega
      have a1 : s * P ≤ 0 := Int.mul_nonpos_of_nonpos_of_nonneg hs h0
      have a2 : s * D ≤ s * P := by
        have := Int.mul_le_mul_of_nonneg_left h1 (show 0 ≤ -s by omega)
        rw [Int.neg_mul, Int.neg_mul] at this; omega
      rw [← h] at a1 a2
      refine ⟨Int.le_of_mul_le_mul_right a2 hD, ?_⟩
      have : x * D ≤ 0 * D := by rw [Int.zero_mul]; exact a1
      exact Int.le_of_mul_le_mul_right this hD
  rcases hb with hb | hb
  · by_cases h0 : 0 < D
    · exact key D P s x h0 h hb
    · omega
  · have h0 : 0 < -D := by omega
    exact key (-D) (-P) s x h0 (by rw [Int.mul_neg, Int.mul_neg, h]) (by omega)
theorem Bt.both {D P s x r y : Int} (hD : D ≠ 0) (h1 : x * D = s * P) (h2 : y * D = r * P) (hs : s ≠ 0 ∨ r ≠ 0) : (Bt s x ∧ Bt r y) ↔ Bt D P := by
  constructor
  · rintro ⟨b1, b2⟩
    rcases hs with hs | hs
    · exact Bt.of hs (by rw [Int.mul_comm P s, Int.mul_comm D x]; exact h1.symm) b1
    · exact Bt.of hs (by rw [Int.mul_comm P r, Int.mul_comm D y]; exact h2.symm) b2
  · exact fun hb => ⟨Bt.of hD h1 hb, Bt.of hD h2 hb⟩
theorem box_iff (a b c : Int) : (mn a b ≤ c ∧ c ≤ mx a b) ↔ Bt (b - a) (c - a) := by
  unfold Bt mn mx; split <;> split <;> omega
def On (ax ay bx by_ cx cy : Int) : Prop := cr (bx - ax) (by_ - ay) (cx - ax) (cy - ay) = 0 ∧ Bt (bx - ax) (cx - ax) ∧ Bt (by_ - ay) (cy - ay)
instance (ax ay bx by_ cx cy : Int) : Decidable (On ax ay bx by_ cx cy) := inferInstanceAs (Decidable (_ ∧ _))
theorem l2On {ax ay bx by_ cx cy : Int} (ha : okP ax ay = true) (hb : okP bx by_ = true) (hc : okP cx cy = true) : spec_l2On.f ax ay bx by_ cx cy = some (decide (On ax ay bx by_ cx cy)) := by
  have ha := okP_iff.1 ha; have hb := okP_iff.1 hb; have hc := okP_iff.1 hc
  unfold spec_l2On.f spec_l2Step.f
  simp only [Option.bind_some]
  rw [(df ha.1 hb.1).2, (df ha.2 hb.2).2, (df ha.1 hc.1).2, (df ha.2 hc.2).2, l2Cross (df ha.1 hb.1).1 (df ha.2 hb.2).1 (df ha.1 hc.1).1 (df ha.2 hc.2).1, Option.bind_some, in_eq, in_eq, Option.bind_some, Option.bind_some]
  by_cases h0 : cr (bx - ax) (by_ - ay) (cx - ax) (cy - ay) = 0
  · rw [if_pos h0]
    by_cases h1 : mn ax bx ≤ cx ∧ cx ≤ mx ax bx
    · rw [if_pos (by simpa using h1)]; congr 1; rw [Bool.eq_iff_iff, decide_eq_true_eq, decide_eq_true_eq, box_iff]
      unfold On; rw [box_iff] at h1
      exact ⟨fun h => ⟨h0, h1, h⟩, fun h => h.2.2⟩
    · rw [if_neg (by simpa using h1)]; congr 1; symm; rw [decide_eq_false_iff_not]
      rw [box_iff] at h1; exact fun h => h1 h.2.1
  · rw [if_neg h0]; congr 1; symm; rw [decide_eq_false_iff_not]; exact fun h => h0 h.1
def Meet (ax ay bx by_ cx cy dx dy : Int) : Prop := On ax ay bx by_ cx cy ∨ On ax ay bx by_ dx dy ∨ On cx cy dx dy ax ay ∨ On cx cy dx dy bx by_ ∨
  (sd ax ay bx by_ cx cy * sd ax ay bx by_ dx dy < 0 ∧ sd cx cy dx dy ax ay * sd cx cy dx dy bx by_ < 0)
instance (ax ay bx by_ cx cy dx dy : Int) : Decidable (Meet ax ay bx by_ cx cy dx dy) := inferInstanceAs (Decidable (_ ∨ _))
theorem sd_mul_w (a b c d e f g h i j k l : Int) : wrap64 (sd a b c d e f * sd g h i j k l) = sd a b c d e f * sd g h i j k l := by
  have h1 := sg_range (cr (c - a) (d - b) (e - a) (f - b))
  have h2 := sg_range (cr (i - g) (j - h) (k - g) (l - h))
  have h3 := prod_le (B := 1) (C := 1) (x := sd a b c d e f) (y := sd g h i j k l) h1 h2 (by omega) (by omega)
  exact w64 (by omega) (by omega)
theorem l31Meet {ax ay bx by_ cx cy dx dy : Int} (ha : okP ax ay = true) (hb : okP bx by_ = true) (hc : okP cx cy = true) (hd : okP dx dy = true) : EvQ (fun k => spec_l31Meet.f k ax ay bx by_ cx cy dx dy) (fun r => r = decide (Meet ax ay bx by_ cx cy dx dy)) := by
  have hj : ∀ b : Bool, b = true → Meet ax ay bx by_ cx cy dx dy → EvQ (fun k => spec_l31Meet.j0 k b ax ay bx by_ cx cy dx dy) (fun r => r = decide (Meet ax ay bx by_ cx cy dx dy)) := by
    rintro _ rfl h
    refine EvQ.step (fun k => by simp only [spec_l31Meet.j0]; rfl) ?_
    exact EvQ.pos (by simp) (EvQ.ret (decide_eq_true h).symm)
  unfold spec_l31Meet.f
  rw [l2On ha hb hc, l2On ha hb hd, l2On hc hd ha, l2On hc hd hb]
  simp only [Option.bind_some]
  refine EvQ.ite (fun h => hj _ rfl (Or.inl (by simpa using h))) (fun h1 => ?_)
  refine EvQ.ite (fun h => hj _ rfl (Or.inr (Or.inl (by simpa using h)))) (fun h2 => ?_)
  refine EvQ.ite (fun h => hj _ rfl (Or.inr (Or.inr (Or.inl (by simpa using h))))) (fun h3 => ?_)
  by_cases h4 : On cx cy dx dy bx by_
  · exact hj _ (decide_eq_true h4) (Or.inr (Or.inr (Or.inr (Or.inl h4))))
  have h1 : ¬ On ax ay bx by_ cx cy := by simpa using h1
  have h2 : ¬ On ax ay bx by_ dx dy := by simpa using h2
  have h3 : ¬ On cx cy dx dy ax ay := by simpa using h3
  have e : Meet ax ay bx by_ cx cy dx dy ↔ (sd ax ay bx by_ cx cy * sd ax ay bx by_ dx dy < 0 ∧ sd cx cy dx dy ax ay * sd cx cy dx dy bx by_ < 0) := by
    unfold Meet
    constructor
    · rintro (h | h | h | h | h)
      · exact absurd h h1
      · exact absurd h h2
      · exact absurd h h3
      · exact absurd h h4
      · exact h
    · exact fun h => Or.inr (Or.inr (Or.inr (Or.inr h)))
  refine EvQ.step (fun k => by simp only [spec_l31Meet.j0]; rfl) ?_
  refine EvQ.neg (by simpa using h4) ?_
  rw [l31Side ha hb hc, l31Side ha hb hd, l31Side hc hd ha, l31Side hc hd hb]
  simp only [Option.bind_some, sd_mul_w]
  refine EvQ.ite (fun h => EvQ.ret ?_) (fun h => EvQ.ret ?_)
  · rw [Bool.eq_iff_iff, decide_eq_true_eq, decide_eq_true_eq, e]; exact ⟨fun h' => ⟨h, h'⟩, fun h' => h'.2⟩
  · symm; rw [decide_eq_false_iff_not, e]; exact fun h' => h h'.1
end Go.Proofs.Ytfonigbkoligmaa.Cr

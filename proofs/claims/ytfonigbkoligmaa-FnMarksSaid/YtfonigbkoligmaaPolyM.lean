import Derived.Test.YtfonigbkoligmaaPolyV
set_option linter.unusedVariables false
set_option linter.unusedSimpArgs false
namespace Go.Proofs.Ytfonigbkoligmaa.Cr
open Go.RowKit Go.Proofs.Ytfonigbkoligmaa.P Go.Proofs.YtfonigbkoligmaaW.PrintWords Go.Proofs.YtfonigbkoligmaaW.PrintLast Go.Proofs.YtfonigbkoligmaaW.PrintMore Go.Proofs.Ytfonigbkoligmaa.Ev
def Prim (x y : Int) : Prop := Int.gcd x y = 1
theorem prim_mul {x y a b : Int} (h : Prim x y) (hc : cr x y a b = 0) : ∃ k : Int, a = k * x ∧ b = k * y := by
  have hc : x * b = y * a := by unfold cr at hc; omega
  have hx : x ∣ a := by
    have h1 : x ∣ (Int.gcd x y : Int) * a := Int.dvd_gcd_mul_iff_dvd_mul.2 ⟨b, hc.symm⟩
    unfold Prim at h
    rw [h] at h1
    simpa using h1
  by_cases h0 : x = 0
  · subst h0
    have hy : y = 1 ∨ y = -1 := by
      unfold Prim at h
      rw [Int.gcd_zero_left] at h
      omega
    obtain ⟨k, rfl⟩ := hx
    rcases hy with rfl | rfl
    · exact ⟨b, by omega, by omega⟩
    · exact ⟨-b, by omega, by omega⟩
  · obtain ⟨k, rfl⟩ := hx
    refine ⟨k, Int.mul_comm _ _, ?_⟩
    have : x * b = x * (k * y) := by rw [hc]; grind
    exact Int.eq_of_mul_eq_mul_left h0 this
theorem prim_ne {x y : Int} (h : Prim x y) : x ≠ 0 ∨ y ≠ 0 := by
  rcases Decidable.em (x = 0) with h1 | h1
  · rcases Decidable.em (y = 0) with h2 | h2
    · subst h1 h2; exact absurd h (by unfold Prim; decide)
    · exact .inr h2
  · exact .inl h1
theorem Bt.mul {D P : Int} (h : Bt D P) (x : Int) : Bt (D * x) (P * x) := by
  rcases Int.lt_or_le x 0 with hx | hx
  · rcases h with ⟨h1, h2⟩ | ⟨h1, h2⟩
    · have a1 := Int.mul_le_mul_of_nonpos_right h1 (show x ≤ 0 by omega)
      have a2 := Int.mul_le_mul_of_nonpos_right h2 (show x ≤ 0 by omega)
      rw [Int.zero_mul] at a1
      unfold Bt; omega
    · have a1 := Int.mul_le_mul_of_nonpos_right h1 (show x ≤ 0 by omega)
      have a2 := Int.mul_le_mul_of_nonpos_right h2 (show x ≤ 0 by omega)
      rw [Int.zero_mul] at a2
      unfold Bt; omega
  · rcases h with ⟨h1, h2⟩ | ⟨h1, h2⟩
    · have a1 := Int.mul_le_mul_of_nonneg_right h1 hx
      have a2 := Int.mul_le_mul_of_nonneg_right h2 hx
      rw [Int.zero_mul] at a1
      unfold Bt; omega
    · have a1 := Int.mul_le_mul_of_nonneg_right h1 hx
      have a2 := Int.mul_le_mul_of_nonneg_right h2 hx
      rw [Int.zero_mul] at a2
      unfold Bt; omega
theorem Bt.of_mul {D P x : Int} (hx : x ≠ 0) (h : Bt (D * x) (P * x)) : Bt D P := by
  by_cases hD : D = 0
  · subst hD
    rw [Int.zero_mul] at h
    have hp : P * x = 0 := by unfold Bt at h; omega
    rcases Int.mul_eq_zero.1 hp with h2 | h2
    · subst h2; unfold Bt; omega
    · exact absurd h2 hx
  · refine Bt.of (D := D * x) (P := P * x) (s := D) (x := P) (fun e => ?_) (by grind) h
    rcases Int.mul_eq_zero.1 e with h1 | h1
    · exact hD h1
    · exact hx h1
theorem on_iff {ax ay ex ey D px py : Int} (he : Prim ex ey) (hD : D ≠ 0) : On ax ay (ax + D * ex) (ay + D * ey) px py ↔ ∃ k, px = ax + k * ex ∧ py = ay + k * ey ∧ Bt D k := by
  unfold On
  rw [show ax + D * ex - ax = D * ex by omega, show ay + D * ey - ay = D * ey by omega]
  constructor
  · rintro ⟨h1, h2, h3⟩
    have hc : cr ex ey (px - ax) (py - ay) = 0 := by
      have : D * cr ex ey (px - ax) (py - ay) = 0 := by rw [← h1]; unfold cr; grind
      rcases Int.mul_eq_zero.1 this with h | h
      · exact absurd h hD
      · exact h
    obtain ⟨k, hx, hy⟩ := prim_mul he hc
    refine ⟨k, by omega, by omega, ?_⟩
    rw [hx] at h2
    rw [hy] at h3
    rcases prim_ne he with h | h
    · exact Bt.of_mul h h2
    · exact Bt.of_mul h h3
  · rintro ⟨k, rfl, rfl, hb⟩
    rw [show ax + k * ex - ax = k * ex by omega, show ay + k * ey - ay = k * ey by omega]
    exact ⟨by unfold cr; grind, hb.mul ex, hb.mul ey⟩
theorem prim_of {x y : Int} (h : x ≠ 0 ∨ y ≠ 0) : ∃ g ex ey : Int, 0 < g ∧ Prim ex ey ∧ x = g * ex ∧ y = g * ey ∧ g = (Int.gcd x y : Int) := by
  have hg : 0 < Int.gcd x y := by
    rcases Nat.eq_zero_or_pos (Int.gcd x y) with h0 | h0
    · have := Int.gcd_eq_zero_iff.1 h0; omega
    · exact h0
  refine ⟨(Int.gcd x y : Int), x / (Int.gcd x y : Int), y / (Int.gcd x y : Int), by omega, ?_, ?_, ?_, rfl⟩
  · unfold Prim; exact Int.gcd_ediv_gcd_ediv_gcd hg
  · exact (Int.mul_ediv_cancel' (Int.gcd_dvd_left ..)).symm
  · exact (Int.mul_ediv_cancel' (Int.gcd_dvd_right ..)).symm
structure Strt (ax ay bx by_ cx cy g h ex ey : Int) : Prop where
  pr : Prim ex ey
  pg : 0 < g
  ph : 0 < h
  ebx : bx = ax + g * ex
  eby : by_ = ay + g * ey
  ecx : cx = ax + (g + h) * ex
  ecy : cy = ay + (g + h) * ey
theorem strt_of {ax ay bx by_ cx cy : Int} (h0 : S3 ax ay bx by_ cx cy = 0) (h1 : ¬ (bx = ax ∧ by_ = ay)) (h3 : ¬ On ax ay bx by_ cx cy) (h4 : ¬ On bx by_ cx cy ax ay) :
    ∃ g h ex ey, Strt ax ay bx by_ cx cy g h ex ey := by
  obtain ⟨g, ex, ey, hg, hp, hx, hy, _⟩ := prim_of (x := bx - ax) (y := by_ - ay) (by omega)
  have hc : cr ex ey (cx - ax) (cy - ay) = 0 := by
    have : g * cr ex ey (cx - ax) (cy - ay) = 0 := by rw [← h0]; unfold S3; rw [hx, hy]; unfold cr; grind
    rcases Int.mul_eq_zero.1 this with h | h
    · omega
    · exact h
  obtain ⟨k, kx, ky⟩ := prim_mul hp hc
  have bx' : bx = ax + g * ex := by omega
  have by' : by_ = ay + g * ey := by omega
  have hk : g < k := by
    rcases Int.lt_or_le g k with h | h
    · exact h
    · exfalso
      rcases Int.lt_or_le k 0 with hn | hn
      · refine h4 ?_
        have : On bx by_ (bx + (k - g) * ex) (by_ + (k - g) * ey) ax ay := (on_iff hp (by omega)).2 ⟨-g, by rw [bx']; grind, by rw [by']; grind, by unfold Bt; omega⟩
        rwa [show bx + (k - g) * ex = cx by rw [bx']; grind, show by_ + (k - g) * ey = cy by rw [by']; grind] at this
      · refine h3 ?_
        rw [bx', by']
        exact (on_iff hp (by omega)).2 ⟨k, by omega, by omega, by unfold Bt; omega⟩
  exact ⟨g, k - g, ex, ey, hp, hg, by omega, bx', by', by rw [show g + (k - g) = k by omega]; omega, by rw [show g + (k - g) = k by omega]; omega⟩
section
variable {ax ay bx by_ cx cy g h ex ey : Int}
theorem Strt.on (s : Strt ax ay bx by_ cx cy g h ex ey) {px py : Int} (ho : On ax ay cx cy px py) : On ax ay bx by_ px py ∨ On bx by_ cx cy px py := by
  obtain ⟨hp, hg, hh, rfl, rfl, rfl, rfl⟩ := s
  obtain ⟨k, rfl, rfl, hb⟩ := (on_iff hp (by omega)).1 ho
  rcases Int.lt_or_le g k with hk | hk
  · right
    have : On (ax + g * ex) (ay + g * ey) (ax + g * ex + h * ex) (ay + g * ey + h * ey) (ax + k * ex) (ay + k * ey) := (on_iff hp (by omega)).2 ⟨k - g, by grind, by grind, by unfold Bt at *; omega⟩
    rwa [show ax + g * ex + h * ex = ax + (g + h) * ex by grind, show ay + g * ey + h * ey = ay + (g + h) * ey by grind] at this
  · left
    exact (on_iff hp (by omega)).2 ⟨k, rfl, rfl, by unfold Bt at *; omega⟩
theorem Strt.s3 (s : Strt ax ay bx by_ cx cy g h ex ey) (px py : Int) : S3 ax ay cx cy px py = (g + h) * cr ex ey (px - ax) (py - ay) ∧ S3 ax ay bx by_ px py = g * cr ex ey (px - ax) (py - ay) ∧ S3 bx by_ cx cy px py = h * cr ex ey (px - ax) (py - ay) := by
  obtain ⟨hp, hg, hh, rfl, rfl, rfl, rfl⟩ := s
  refine ⟨?_, ?_, ?_⟩ <;> unfold S3 cr <;> grind
theorem Strt.s4 (s : Strt ax ay bx by_ cx cy g h ex ey) (px py qx qy : Int) : S3 px py qx qy bx by_ = S3 px py qx qy ax ay + g * cr (qx - px) (qy - py) ex ey ∧ S3 px py qx qy cx cy = S3 px py qx qy ax ay + (g + h) * cr (qx - px) (qy - py) ex ey := by
  obtain ⟨hp, hg, hh, rfl, rfl, rfl, rfl⟩ := s
  refine ⟨?_, ?_⟩ <;> unfold S3 cr <;> grind
end
theorem sd_S3 (ax ay bx by_ cx cy : Int) : sd ax ay bx by_ cx cy = sgI (S3 ax ay bx by_ cx cy) := rfl
theorem mul_sign {g x : Int} (hg : 0 < g) : (0 < g * x ↔ 0 < x) ∧ (g * x < 0 ↔ x < 0) := by
  rcases Int.lt_trichotomy x 0 with h | h | h
  · have := Int.mul_neg_of_pos_of_neg hg h; omega
  · subst h; rw [Int.mul_zero]; omega
  · have := Int.mul_pos hg h; omega
theorem between_on {dx dy ex ey bx by_ : Int} {u v : Int} (hc : cr (ex - dx) (ey - dy) (bx - dx) (by_ - dy) = 0) (hL : ∃ lx ly ax ay : Int, S3 ax ay (ax + lx) (ay + ly) bx by_ = 0 ∧ S3 ax ay (ax + lx) (ay + ly) dx dy = u ∧ S3 ax ay (ax + lx) (ay + ly) ex ey = v) (huv : (u < 0 ∧ 0 < v) ∨ (0 < u ∧ v < 0)) : On dx dy ex ey bx by_ := by
  obtain ⟨lx, ly, ax, ay, hb, hd, he⟩ := hL
  have hne : ex - dx ≠ 0 ∨ ey - dy ≠ 0 := by
    rcases Decidable.em (ex - dx = 0) with h1 | h1
    · rcases Decidable.em (ey - dy = 0) with h2 | h2
      · have e1 : ex = dx := by omega
        have e2 : ey = dy := by omega
        rw [e1, e2] at he
        omega
      · exact .inr h2
    · exact .inl h1
  obtain ⟨m, fx, fy, hm, hp, mx', my', _⟩ := prim_of hne
  have hc2 : cr fx fy (bx - dx) (by_ - dy) = 0 := by
    have : m * cr fx fy (bx - dx) (by_ - dy) = 0 := by rw [← hc, mx', my']; unfold cr; grind
    rcases Int.mul_eq_zero.1 this with h | h
    · omega
    · exact h
  obtain ⟨k, kx, ky⟩ := prim_mul hp hc2
  have e1 : u + k * cr lx ly fx fy = 0 := by rw [← hb, ← hd]; unfold S3; rw [show bx - ax = dx - ax + k * fx by omega, show by_ - ay = dy - ay + k * fy by omega]; unfold cr; grind
  have e2 : u + m * cr lx ly fx fy = v := by rw [← he, ← hd]; unfold S3; rw [show ex - ax = dx - ax + m * fx by omega, show ey - ay = dy - ay + m * fy by omega]; unfold cr; grind
  generalize cr lx ly fx fy = σ at e1 e2
  have hk : 0 ≤ k ∧ k ≤ m := by
    rcases Int.lt_trichotomy σ 0 with hs | hs | hs
    · constructor
      · rcases Int.lt_or_le k 0 with h | h
        · have := Int.mul_pos_of_neg_of_neg h hs
          have := Int.mul_neg_of_pos_of_neg hm hs
          omega
        · exact h
      · rcases Int.lt_or_le m k with h | h
        · have := Int.mul_lt_mul_of_neg_right h hs
          have := Int.mul_neg_of_pos_of_neg hm hs
          omega
        · exact h
    · subst hs; rw [Int.mul_zero] at e1 e2; omega
    · constructor
      · rcases Int.lt_or_le k 0 with h | h
        · have := Int.mul_neg_of_neg_of_pos h hs
          have := Int.mul_pos hm hs
          omega
        · exact h
      · rcases Int.lt_or_le m k with h | h
        · have := Int.mul_lt_mul_of_pos_right h hs
          have := Int.mul_pos hm hs
          omega
        · exact h
  have := (on_iff (ax := dx) (ay := dy) (px := bx) (py := by_) hp (show m ≠ 0 by omega)).2 ⟨k, by omega, by omega, by unfold Bt; omega⟩
  rwa [show dx + m * fx = ex by omega, show dy + m * fy = ey by omega] at this
theorem Strt.meet {ax ay bx by_ cx cy g h ex ey dx dy qx qy : Int} (s : Strt ax ay bx by_ cx cy g h ex ey) (hm : Meet ax ay cx cy dx dy qx qy) : Meet ax ay bx by_ dx dy qx qy ∨ Meet bx by_ cx cy dx dy qx qy := by
  rcases hm with h1 | h1 | h1 | h1 | ⟨h1, h2⟩
  · rcases s.on h1 with h | h
    · exact .inl (.inl h)
    · exact .inr (.inl h)
  · rcases s.on h1 with h | h
    · exact .inl (.inr (.inl h))
    · exact .inr (.inr (.inl h))
  · exact .inl (.inr (.inr (.inl h1)))
  · exact .inr (.inr (.inr (.inr (.inl h1))))
  · rw [sd_S3, sd_S3, sg_mul] at h1 h2
    have d := s.s3 dx dy
    have q := s.s3 qx qy
    have hgh : 0 < g + h := by have := s.pg; have := s.ph; omega
    rw [d.1, q.1, (mul_sign hgh).1, (mul_sign hgh).1, (mul_sign hgh).2, (mul_sign hgh).2] at h1
    rcases Int.lt_trichotomy (S3 dx dy qx qy bx by_) 0 with hb | hb | hb
    · rcases h2 with h2 | h2
      · right
        refine Or.inr (Or.inr (Or.inr (Or.inr ⟨?_, ?_⟩)))
        · rw [sd_S3, sd_S3, sg_mul, d.2.2, q.2.2, (mul_sign s.ph).1, (mul_sign s.ph).1, (mul_sign s.ph).2, (mul_sign s.ph).2]; exact h1
        · rw [sd_S3, sd_S3, sg_mul]; omega
      · left
        refine Or.inr (Or.inr (Or.inr (Or.inr ⟨?_, ?_⟩)))
        · rw [sd_S3, sd_S3, sg_mul, d.2.1, q.2.1, (mul_sign s.pg).1, (mul_sign s.pg).1, (mul_sign s.pg).2, (mul_sign s.pg).2]; exact h1
        · rw [sd_S3, sd_S3, sg_mul]; omega
    · left
      refine Or.inr (Or.inr (Or.inr (Or.inl ?_)))
      refine between_on (u := S3 ax ay cx cy dx dy) (v := S3 ax ay cx cy qx qy) hb ⟨cx - ax, cy - ay, ax, ay, ?_, ?_, ?_⟩ ?_
      · rw [show ax + (cx - ax) = cx by omega, show ay + (cy - ay) = cy by omega, (s.s3 bx by_).1]
        have e1 := s.ebx; have e2 := s.eby
        rw [show bx - ax = g * ex by omega, show by_ - ay = g * ey by omega]
        unfold cr; grind
      · rw [show ax + (cx - ax) = cx by omega, show ay + (cy - ay) = cy by omega]
      · rw [show ax + (cx - ax) = cx by omega, show ay + (cy - ay) = cy by omega]
      · rw [d.1, q.1, (mul_sign hgh).1, (mul_sign hgh).1, (mul_sign hgh).2, (mul_sign hgh).2]; exact h1
    · rcases h2 with h2 | h2
      · left
        refine Or.inr (Or.inr (Or.inr (Or.inr ⟨?_, ?_⟩)))
        · rw [sd_S3, sd_S3, sg_mul, d.2.1, q.2.1, (mul_sign s.pg).1, (mul_sign s.pg).1, (mul_sign s.pg).2, (mul_sign s.pg).2]; exact h1
        · rw [sd_S3, sd_S3, sg_mul]; omega
      · right
        refine Or.inr (Or.inr (Or.inr (Or.inr ⟨?_, ?_⟩)))
        · rw [sd_S3, sd_S3, sg_mul, d.2.2, q.2.2, (mul_sign s.ph).1, (mul_sign s.ph).1, (mul_sign s.ph).2, (mul_sign s.ph).2]; exact h1
        · rw [sd_S3, sd_S3, sg_mul]; omega
end Go.Proofs.Ytfonigbkoligmaa.Cr

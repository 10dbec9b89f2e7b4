import Derived.Test.YtfonigbkoligmaaEv
import Derived.Laws.BitsLemmas
import Derived.Test.YtfonigbkoligmaaPx4
set_option linter.unusedVariables false
set_option linter.unusedSimpArgs false
namespace Go.Proofs.Ytfonigbkoligmaa.Pick
open Go.RowKit Go.Proofs.Ytfonigbkoligmaa.P Go.Proofs.YtfonigbkoligmaaW.PrintWords Go.Proofs.YtfonigbkoligmaaW.PrintLast Go.Proofs.YtfonigbkoligmaaW.PrintMore Go.Proofs.Ytfonigbkoligmaa.Ev
def Bytes (b : List Int) : Prop := b.length ≤ 2000 ∧ ∀ x ∈ b, 0 ≤ x ∧ x ≤ 255
theorem bits_xor (a b : Nat) (ha : a < 2 ^ 63) (hb : b < 2 ^ 63) : Go.bits .xor .i64 (a : Int) (b : Int) = ((a ^^^ b : Nat) : Int) := by
  have ha' : a % 2 ^ IntKind.i64.bits = a := Nat.mod_eq_of_lt (Nat.lt_of_lt_of_le ha (by decide))
  have hb' : b % 2 ^ IntKind.i64.bits = b := Nat.mod_eq_of_lt (Nat.lt_of_lt_of_le hb (by decide))
  have hx := Nat.xor_lt_two_pow ha hb
  simp only [Go.bits, BitVec.ofInt_natCast, BitVec.toNat_xor, BitVec.toNat_ofNat, ha', hb']
  rw [IntKind.wrap_i64]
  have : ((a ^^^ b : Nat) : Int) < 2 ^ 63 := by exact_mod_cast hx
  have h0 : 0 ≤ ((a ^^^ b : Nat) : Int) := Int.natCast_nonneg _
  omega
theorem xor_range (x y : Int) (hx : 0 ≤ x) (hx' : x < 2 ^ 63) (hy : 0 ≤ y) (hy' : y < 2 ^ 63) : 0 ≤ Go.bits .xor .i64 x y := by
  obtain ⟨a, rfl⟩ := Int.eq_ofNat_of_zero_le hx
  obtain ⟨b, rfl⟩ := Int.eq_ofNat_of_zero_le hy
  rw [bits_xor a b (by omega) (by omega)]
  exact Int.natCast_nonneg _
theorem tmod_range {x n : Int} (hx : 0 ≤ x) (hn : 1 ≤ n) : 0 ≤ Int.tmod x n ∧ Int.tmod x n < n := by
  rw [Int.tmod_eq_emod_of_nonneg hx]
  exact ⟨Int.emod_nonneg _ (by omega), Int.emod_lt_of_pos _ (by omega)⟩
theorem rd_byte {b : List Int} (hb : Bytes b) {i : Int} : 0 ≤ rd b i ∧ rd b i ≤ 255 := by
  unfold rd
  rw [List.getD_eq_getElem?_getD]
  by_cases h : i.toNat < b.length
  · simp only [List.getElem?_eq_getElem h, Option.getD_some]
    exact hb.2 _ (List.getElem_mem h)
  · simp [List.getElem?_eq_none (Nat.le_of_not_lt h)]
theorem pick {b : List Int} {p n : Int} (hb : Bytes b) (hp : 0 ≤ p) (hp2 : p ≤ 1000000) :
    EvQ (fun k => spec_l6Rd_pick.f k b p n) (fun r => 0 ≤ r.1 ∧ (1 ≤ n → r.1 < n) ∧ r.2 = p + 1) := by
  have hw : wrap64 (p + 1) = p + 1 := w64 (by omega) (by omega)
  have hw1 : wrap64 (p + 1 - 1) = p := by rw [w64 (by omega) (by omega)]; omega
  unfold spec_l6Rd_pick.f
  rw [hw]
  refine EvQ.ite (fun h => ?_) (fun h => ?_)
  · refine EvQ.step (fun k => by simp only [spec_l6Rd_pick.j0]; rfl) ?_
    exact EvQ.pos (by simp) (EvQ.ret ⟨by simp, by omega, rfl⟩)
  · refine EvQ.step (fun k => by simp only [spec_l6Rd_pick.j0]; rfl) ?_
    refine EvQ.ite (fun h0 => EvQ.ret ⟨by simp, by simp; omega, rfl⟩) (fun h0 => ?_)
    have hl : (b.length : Int) ≠ 0 := by simpa using h0
    have hl2 := hb.1
    simp only [hw1]
    refine EvQ.ite (fun hlt => ?_) (fun hge => ?_)
    · refine EvQ.pos (by omega) (EvQ.neg (by omega) (EvQ.ret ?_))
      have hr := rd_byte hb (i := p)
      rw [w64 (n := rd b p) (by omega) (by omega)]
      have := tmod_range (x := rd b p) (n := n) (by omega) (by omega)
      exact ⟨this.1, fun _ => this.2, rfl⟩
    · have m1 := tmod_range (x := p) (n := b.length) (by omega) (by omega)
      have e1 : wrap64 (p * 7) = p * 7 := w64 (by omega) (by omega)
      have e2 : wrap64 (p * 7 + 3) = p * 7 + 3 := w64 (by omega) (by omega)
      have m2 := tmod_range (x := p * 7 + 3) (n := b.length) (by omega) (by omega)
      simp only [e1, e2]
      refine EvQ.neg hl (EvQ.pos m1.1 (EvQ.pos m1.2 (EvQ.pos m2.1 (EvQ.pos m2.2 (EvQ.neg (by omega) (EvQ.ret ?_))))))
      generalize hA : rd b (Int.tmod p b.length) = A
      generalize hB : rd b (Int.tmod (p * 7 + 3) b.length) = B
      have bA := rd_byte hb (i := Int.tmod p b.length)
      have bB := rd_byte hb (i := Int.tmod (p * 7 + 3) b.length)
      rw [hA] at bA; rw [hB] at bB
      have d1 : Int.tdiv p b.length = p / b.length := Int.tdiv_eq_ediv_of_nonneg hp
      have d2 : 0 ≤ p / (b.length : Int) ∧ p / (b.length : Int) ≤ p := ⟨Int.ediv_nonneg hp (by omega), Int.ediv_le_self _ hp⟩
      rw [d1]
      generalize p / (b.length : Int) = D at d2 ⊢
      rw [w64 (n := A) (by omega) (by omega), w64 (n := A * 131) (by omega) (by omega), w64 (n := B) (by omega) (by omega), w64 (n := B * 1117) (by omega) (by omega),
        w64 (n := A * 131 + B * 1117) (by omega) (by omega), w64 (n := p * 29) (by omega) (by omega), w64 (n := A * 131 + B * 1117 + p * 29) (by omega) (by omega), w64 (n := D) (by omega) (by omega), w64 (n := D * 53) (by omega) (by omega),
        w64 (n := A * 131 + B * 1117 + p * 29 + D * 53) (by omega) (by omega)]
      generalize hX : A * 131 + B * 1117 + p * 29 + D * 53 = X
      have bX : 0 ≤ X ∧ X ≤ 1000000000 := by omega
      have d3 : Int.tdiv X 64 = X / 64 := Int.tdiv_eq_ediv_of_nonneg bX.1
      rw [d3, w64 (n := X / 64) (by omega) (by omega)]
      have := tmod_range (x := Go.bits .xor .i64 X (X / 64)) (n := n) (xor_range _ _ (by omega) (by omega) (by omega) (by omega)) (by omega)
      exact ⟨this.1, fun _ => this.2, rfl⟩
theorem openQ {l : List Int} (h : ∀ x ∈ l, (Lit.int .u8 x).wf = true) : ∃ b, spec_l6Open.f l = some (b, 0) ∧ Bytes b := by
  unfold spec_l6Open.f
  have hb : ∀ x ∈ l, 0 ≤ x ∧ x ≤ 255 := fun x hx => u8_of_wf (h x hx)
  by_cases hl : (l.length : Int) > 2000
  · refine ⟨l.take 2000, by rw [if_pos hl, if_pos (by omega)], by rw [List.length_take]; omega, fun x hx => hb x (List.mem_of_mem_take hx)⟩
  · exact ⟨l, by rw [if_neg hl], by omega, hb⟩
end Go.Proofs.Ytfonigbkoligmaa.Pick

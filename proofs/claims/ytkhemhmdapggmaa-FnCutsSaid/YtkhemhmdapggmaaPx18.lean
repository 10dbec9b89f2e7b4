-- Written by a program of this session (wip/xprint.py over the print's own program), not by print.sh. Lean checks it.
import Derived.Test.YtkhemhmdapggmaaPx0
import Derived.Test.YtkhemhmdapggmaaPx4
namespace Go.Proofs.Ytkhemhmdapggmaa.P
open Go.RowKit Go.Proofs.YtkhemhmdapggmaaW.PrintWords Go.Proofs.YtkhemhmdapggmaaW.PrintLast Go.Proofs.YtkhemhmdapggmaaW.PrintMore
attribute [local go_sem] max2_int min2_int max_two min_two max_three min_three max_four min_four   -- for this text's walks alone
set_option linter.unusedVariables false
set_option linter.unusedSimpArgs false

-- EXTERNAL impl_GridCuts: function 25
/-- What a pair of neighbors counts. -/
def cutsQ (lv a b : Int) : Int := if decide (lv ≤ a) != decide (lv ≤ b) then 1 else 0
theorem cutsQ_range (lv a b : Int) : 0 ≤ cutsQ lv a b ∧ cutsQ lv a b ≤ 1 := by unfold cutsQ; split <;> omega
/-- The pairs of the height at i, j: with the one to its right, with the one below. -/
def cutsHz (lv : Int) (row : List Int) (j : Nat) : Int := if j + 1 < row.length then cutsQ lv (rd row (j : Int)) (rd row ((j : Int) + 1)) else 0
def cutsVt (lv : Int) (g : List (List Int)) (i j : Nat) : Int := if i + 1 < g.length then cutsQ lv (rd (rd_L1 g (i : Int)) (j : Int)) (rd (rd_L1 g ((i : Int) + 1)) (j : Int)) else 0
/-- The pairs of the first n heights of row i. -/
def cutsRow (lv : Int) (g : List (List Int)) (i : Nat) : Nat → Int
  | 0 => 0
  | n + 1 => cutsRow lv g i n + cutsHz lv (rd_L1 g (i : Int)) n + cutsVt lv g i n
/-- The pairs of the first m rows. -/
def cutsAll (lv : Int) (g : List (List Int)) : Nat → Int
  | 0 => 0
  | m + 1 => cutsAll lv g m + cutsRow lv g m (rd_L1 g (m : Int)).length
theorem cutsHz_range (lv : Int) (row : List Int) (j : Nat) : 0 ≤ cutsHz lv row j ∧ cutsHz lv row j ≤ 1 := by
  unfold cutsHz; split
  · exact cutsQ_range _ _ _
  · omega
theorem cutsVt_range (lv : Int) (g : List (List Int)) (i j : Nat) : 0 ≤ cutsVt lv g i j ∧ cutsVt lv g i j ≤ 1 := by
  unfold cutsVt; split
  · exact cutsQ_range _ _ _
  · omega
theorem cutsRow_range (lv : Int) (g : List (List Int)) (i n : Nat) : 0 ≤ cutsRow lv g i n ∧ cutsRow lv g i n ≤ 2 * n := by
  induction n with
  | zero => simp [cutsRow]
  | succ n ih => have := cutsHz_range lv (rd_L1 g (i : Int)) n; have := cutsVt_range lv g i n; rw [cutsRow]; push_cast; omega
/-- A grid of at most six rows, each as long as the first, at most six. -/
def cutsRect (g : List (List Int)) : Bool := decide (g.length ≤ 6) && g.all (fun r => decide (r.length ≤ 6) && decide (r.length = (g.headD []).length))
theorem cutsRect_of {g : List (List Int)} (h : cutsRect g = true) : g.length ≤ 6 ∧ ∀ r ∈ g, r.length ≤ 6 ∧ r.length = (g.headD []).length := by
  unfold cutsRect at h
  simp only [Bool.and_eq_true, decide_eq_true_eq, List.all_eq_true] at h
  exact h
theorem cutsrdRow_get {g : List (List Int)} {i : Nat} (h : i < g.length) : rd_L1 g (i : Int) = g[i] := by
  unfold rd_L1; simp [List.getD_eq_getElem?_getD, h]
theorem cutsrdInt_get {l : List Int} {i : Nat} (h : i < l.length) : rd l (i : Int) = l[i] := by unfold rd; simp [List.getD_eq_getElem?_getD, h]
theorem cutsAll_range (lv : Int) (g : List (List Int)) (hg : ∀ r ∈ g, r.length ≤ 6) (m : Nat) (hm : m ≤ g.length) : 0 ≤ cutsAll lv g m ∧ cutsAll lv g m ≤ 12 * m := by
  induction m with
  | zero => simp [cutsAll]
  | succ m ih =>
    have h1 := cutsRow_range lv g m (rd_L1 g (m : Int)).length
    have h2 := ih (by omega)
    rw [cutsrdRow_get (show m < g.length by omega)] at h1
    have h3 := hg _ (List.getElem_mem (show m < g.length by omega))
    rw [cutsAll, cutsrdRow_get (show m < g.length by omega)]; push_cast; omega
theorem cutswrapSmall {x : Int} (h : 0 ≤ x) (h2 : x ≤ 100) : IntKind.i64.wrap x = x := by rw [IntKind.wrap_i64]; omega
/-- The closure of GridCuts, at one pair. -/
theorem cuts_clo (a b lv m : Int) (bl bm B : Nat) (w : World) (hl : w.heap[bl]? = some (.cells #[.int .i64 lv] 3 (0, 0))) (hm : w.heap[bm]? = some (.cells #[.int .i64 m] 3 (0, 0))) (hne : bl ≠ bm) (hB : B ≤ bm) (hm0 : 0 ≤ m) (hm1 : m ≤ 1000) :
    Calls Try.prog 51 #[.int .i64 a, .int .i64 b, .pointer (some ⟨bl, 0, none⟩), .pointer (some ⟨bm, 0, none⟩)] w fun e w' => e = .returned (.tuple #[]) ∧
      w'.heap[bl]? = some (.cells #[.int .i64 lv] 3 (0, 0)) ∧ w'.heap[bm]? = some (.cells #[.int .i64 (m + cutsQ lv a b)] 3 (0, 0)) ∧ Below B w w' := by
  have cl := cell_of_one hl
  have cm := cell_of_one hm
  have fm := free_of_one hm
  have HL := Aside0.mk hl
  have HM := Aside0.mk hm
  clear hl hm
  by_cases ca : lv ≤ a <;> by_cases cb : lv ≤ b
  all_goals
    have e : cutsQ lv a b = cutsQ lv a b := rfl
    unfold cutsQ at e ⊢
    simp only [ca, cb, decide_true, decide_false, bne_self_eq_false, Bool.true_bne, Bool.false_bne, Bool.not_true, Bool.not_false, Bool.false_eq_true, if_true, if_false, and_self, and_true, and_false, Int.add_zero] at e ⊢
    clear e
    go_enter Try.func51, Try.ntmps51
    go_wp2
    go_end0
    first
      | exact ⟨rfl, HL.out, HM.out, Below.refl _ _⟩
      | (refine ⟨rfl, ?_, ?_, ?_⟩
         · rw [Below.heap_setCell _ _ _ _ hne]; exact HL.out
         · exact one_setCell HM.out
         · exact (Below.refl _ _).setCell hB _)
theorem cutsadd_succ (a : Addr) (n : Nat) : a.add (n + 1) = { block := a.block, off := a.off + (n + 1), spot := none } := by simp [Addr.add]
theorem cutsHz_in {lv : Int} {row : List Int} {j : Nat} (h : j + 1 < row.length) : cutsHz lv row j = cutsQ lv row[j] row[j + 1] := by
  have e : ((j : Int) + 1) = ((j + 1 : Nat) : Int) := by omega
  unfold cutsHz; rw [if_pos h, e, cutsrdInt_get h, cutsrdInt_get (show j < row.length by omega)]
theorem cutsHz_out {lv : Int} {row : List Int} {j : Nat} (h : ¬ j + 1 < row.length) : cutsHz lv row j = 0 := by unfold cutsHz; rw [if_neg h]
theorem cutsVt_in {lv : Int} {g : List (List Int)} {i j : Nat} (h : i + 1 < g.length) (h1 : j < g[i].length) (h2 : j < g[i + 1].length) : cutsVt lv g i j = cutsQ lv g[i][j] g[i + 1][j] := by
  have e : ((i : Int) + 1) = ((i + 1 : Nat) : Int) := by omega
  unfold cutsVt; rw [if_pos h, e, cutsrdRow_get h, cutsrdRow_get (show i < g.length by omega), cutsrdInt_get h1, cutsrdInt_get h2]
theorem cutsVt_out {lv : Int} {g : List (List Int)} {i j : Nat} (h : ¬ i + 1 < g.length) : cutsVt lv g i j = 0 := by unfold cutsVt; rw [if_neg h]
set_option maxHeartbeats 4000000 in
/-- eachPair with the closure of GridCuts: it counts. -/
theorem cuts_each (g : List (List Int)) (A : Option Addr) (c : Nat) (lv : Int) (bl bm : Nat) (w0 w : World) (hr : Kd.C (Kd.slice 3 (Kd.int .i64)) w0 A g.length g) (hgl : g.length ≤ 6) (hg : ∀ r ∈ g, r.length ≤ 6 ∧ r.length = (g.headD []).length)
    (hB : Below w0.heap.size w0 w) (hl : w.heap[bl]? = some (.cells #[.int .i64 lv] 3 (0, 0))) (hm : w.heap[bm]? = some (.cells #[.int .i64 0] 3 (0, 0))) (hne : bl ≠ bm) (hbm : w0.heap.size ≤ bm) :
    Calls Try.prog 50 #[.slice A g.length c, .func (.func 51) #[] #[.pointer (some ⟨bl, 0, none⟩), .pointer (some ⟨bm, 0, none⟩)]] w fun e w' => e = .returned (.tuple #[]) ∧
      w'.heap[bm]? = some (.cells #[.int .i64 (cutsAll lv g g.length)] 3 (0, 0)) ∧ Below w0.heap.size w0 w' := by
  have HR := Aside0.mk hr
  have HG := Aside0.mk hg
  have HBW := Aside0.mk hB
  have HL := Aside0.mk hl
  have HM := Aside0.mk hm
  have HNE := Aside0.mk hne
  have HBM := Aside0.mk hbm
  clear hr hg hB hl hm hne hbm
  go_enter Try.func50, Try.ntmps50
  go_wp2_with fail
  go_loopw [10] (fun v10 wr => ∃ i : Nat, i ≤ g.length ∧ v10 = .int .i64 i ∧ Aside0 (wr.heap[bl]? = some (.cells #[.int .i64 lv] 3 (0, 0))) ∧ Aside0 (wr.heap[bm]? = some (.cells #[.int .i64 (cutsAll lv g i)] 3 (0, 0))) ∧ Aside0 (Below w0.heap.size w0 wr)) (fun v10 _ => g.length - (intOf v10).toNat)
  case atStart => exact ⟨0, Nat.zero_le _, rfl, HL, HM, HBW⟩
  case round =>
    obtain ⟨i, hi, rfl, HL1, HM1, HB1⟩ := hrel
    clear HL HM HBW
    by_cases hlt : i < g.length
    · have hrow := at_L1 HR.out (i : Int) (by omega) (by omega)
      rw [cutsrdRow_get hlt] at hrow
      obtain ⟨ad, A1, c1, e1, hx, hlen, hC⟩ := hrow
      rw [Int.toNat_natCast] at hx
      subst e1
      have h6 : g[i].length ≤ 6 := (HG.out _ (List.getElem_mem hlt)).1
      have hx1 := (HB1.out.cell (World.block_lt_of_cell? w0 _ hx)).trans hx
      have HC1 := Aside0.mk hC
      clear hx hC
      have HAR := Aside0.mk (cutsAll_range lv g (fun r hr => (HG.out r hr).1) i hi)
      generalize hrw : g[i] = row at *
      have HRW := Aside0.mk hrw
      clear hrw
      go_wp2_with fail
      obtain ⟨wo, rfl⟩ : ∃ wo : World, wo = wr := ⟨_, rfl⟩
      go_loopw [17] (fun v17 wr => ∃ j : Nat, j ≤ row.length ∧ v17 = .int .i64 j ∧ Aside0 (wr.heap[bl]? = some (.cells #[.int .i64 lv] 3 (0, 0))) ∧ Aside0 (wr.heap[bm]? = some (.cells #[.int .i64 (cutsAll lv g i + cutsRow lv g i j)] 3 (0, 0))) ∧ Aside0 (Below w0.heap.size w0 wr)) (fun v17 _ => row.length - (intOf v17).toNat)
      case atStart => exact ⟨0, Nat.zero_le _, rfl, HL1, ⟨by simpa [cutsRow] using HM1.out⟩, HB1⟩
      case round =>
        obtain ⟨j, hj, rfl, HL2, HM2, HB2⟩ := hrel
        clear HL1 HM1 HB1 hx1
        by_cases hlt2 : j < row.length
        · obtain ⟨ad2, e2, hy⟩ := Kd.at_int HC1.out (j : Int) (by omega) (by omega)
          rw [Int.toNat_natCast, cutsrdInt_get hlt2] at hy
          subst e2
          have hy1 := (HB2.out.cell (World.block_lt_of_cell? w0 _ hy)).trans hy
          clear hy
          have hwj : IntKind.i64.wrap ((j : Int) + 1) = (j : Int) + 1 := cutswrapSmall (by omega) (by omega)
          have hwi : IntKind.i64.wrap ((i : Int) + 1) = (i : Int) + 1 := cutswrapSmall (by omega) (by omega)
          have HZ := Aside0.mk (cutsHz_range lv row j)
          have HV := Aside0.mk (cutsVt_range lv g i j)
          have hS : cutsRow lv g i (j + 1) = cutsRow lv g i j + cutsHz lv row j + cutsVt lv g i j := by
            rw [cutsRow, cutsrdRow_get hlt, HRW.out]
          have HS := Aside0.mk hS
          clear hS
          have hrr := cutsRow_range lv g i j
          have har := HAR.out
          generalize hM : cutsAll lv g i + cutsRow lv g i j = M at *
          have HMM := Aside0.mk hM
          have hM0 : 0 ≤ M := by omega
          have hM1 : M ≤ 900 := by omega
          clear hM hrr har
          by_cases c1 : j + 1 < row.length
          · obtain ⟨ad3, e3, hz⟩ := Kd.at_int HC1.out ((j + 1 : Nat) : Int) (by omega) (by omega)
            rw [Int.toNat_natCast, cutsrdInt_get c1, cutsadd_succ] at hz
            have e3' : (((j + 1 : Nat) : Int)) = (j : Int) + 1 := by push_cast; rfl
            obtain rfl := Option.some.inj e3
            have hz1 := (HB2.out.cell (World.block_lt_of_cell? w0 _ hz)).trans hz
            clear hz
            have HHZ := Aside0.mk (cutsHz_in (lv := lv) c1)
            by_cases c2 : i + 1 < g.length
            · have hnx := at_L1 HR.out ((i + 1 : Nat) : Int) (by omega) (by omega)
              rw [cutsrdRow_get c2] at hnx
              obtain ⟨ad4, A4, c4, e4, hx4, hlen4, hC4⟩ := hnx
              rw [Int.toNat_natCast, cutsadd_succ] at hx4
              obtain rfl := Option.some.inj e4
              have hl4 : g[i + 1].length = row.length := by rw [(HG.out _ (List.getElem_mem c2)).2, ← HRW.out, (HG.out _ (List.getElem_mem hlt)).2]
              obtain ⟨ad5, e5, hv⟩ := Kd.at_int hC4 (j : Int) (by omega) (by omega)
              rw [Int.toNat_natCast, cutsrdInt_get (show j < g[i + 1].length by omega)] at hv
              subst e5
              have HVV := Aside0.mk (cutsVt_in (lv := lv) c2 (by rw [HRW.out]; exact hlt2) (show j < g[i + 1].length by omega))
              have HX4 := Aside0.mk hx4
              have HV4 := Aside0.mk hv
              clear hC4 hx4 hv
              have HRWJ : Aside0 (g[i][j]'(by rw [HRW.out]; exact hlt2) = row[j]) := ⟨by simp only [HRW.out]⟩
              go_wp2_with (first | (go_at_call 51; (with_reducible refine (cuts_clo row[j] row[j + 1] lv M bl bm w0.heap.size _ HL2.out HM2.out HNE.out HBM.out hM0 (by omega)).mono ?_); rintro e w1 ⟨rfl, hl1, hm1, hb1⟩; have HL3 := Aside0.mk hl1; have HM3 := Aside0.mk hm1; have HB3 := Aside0.mk (HB2.out.trans hb1); clear hl1 hm1 hb1 HL2 HM2 HB2 hy1 hz1; have hx5 := (HB3.out.cell (World.block_lt_of_cell? w0 _ HX4.out)).trans HX4.out; have hv5 := (HB3.out.cell (World.block_lt_of_cell? w0 _ HV4.out)).trans HV4.out) | (go_at_call 51; (with_reducible refine (cuts_clo row[j] g[i + 1][j] lv (M + cutsQ lv row[j] row[j + 1]) bl bm w0.heap.size _ HL3.out HM3.out HNE.out HBM.out (by have := cutsQ_range lv row[j] row[j + 1]; omega) (by have := cutsQ_range lv row[j] row[j + 1]; omega)).mono ?_); rintro e w2 ⟨rfl, hl1, hm1, hb1⟩; have HL4 := Aside0.mk hl1; have HM4 := Aside0.mk hm1; have HB4 := Aside0.mk (HB3.out.trans hb1); clear hl1 hm1 hb1 HL3 HM3 HB3 hx5 hv5))
              go_roundw
              case rel => exact ⟨j + 1, by omega, by go_num, HL4, ⟨by have h3 := HM4.out; rw [HS.out, HVV.out, HHZ.out, HRWJ.out]; rw [← HMM.out] at h3; rw [← Int.add_assoc, ← Int.add_assoc]; exact h3⟩, HB4⟩
              case measure => simp [intOf]; omega
            · have HVV := Aside0.mk (cutsVt_out (lv := lv) (j := j) c2)
              go_wp2_with (go_at_call 51; (with_reducible refine (cuts_clo row[j] row[j + 1] lv M bl bm w0.heap.size _ HL2.out HM2.out HNE.out HBM.out hM0 (by omega)).mono ?_); rintro e w1 ⟨rfl, hl1, hm1, hb1⟩; have HL3 := Aside0.mk hl1; have HM3 := Aside0.mk hm1; have HB3 := Aside0.mk (HB2.out.trans hb1); clear hl1 hm1 hb1 HL2 HM2 HB2 hy1 hz1)
              go_roundw
              case rel => exact ⟨j + 1, by omega, by go_num, HL3, ⟨by have h3 := HM3.out; rw [HS.out, HVV.out, HHZ.out]; rw [← HMM.out] at h3; rw [Int.add_zero, ← Int.add_assoc]; exact h3⟩, HB3⟩
              case measure => simp [intOf]; omega
          · have HHZ := Aside0.mk (cutsHz_out (lv := lv) c1)
            by_cases c2 : i + 1 < g.length
            · have hnx := at_L1 HR.out ((i + 1 : Nat) : Int) (by omega) (by omega)
              rw [cutsrdRow_get c2] at hnx
              obtain ⟨ad4, A4, c4, e4, hx4, hlen4, hC4⟩ := hnx
              rw [Int.toNat_natCast, cutsadd_succ] at hx4
              obtain rfl := Option.some.inj e4
              have hl4 : g[i + 1].length = row.length := by rw [(HG.out _ (List.getElem_mem c2)).2, ← HRW.out, (HG.out _ (List.getElem_mem hlt)).2]
              obtain ⟨ad5, e5, hv⟩ := Kd.at_int hC4 (j : Int) (by omega) (by omega)
              rw [Int.toNat_natCast, cutsrdInt_get (show j < g[i + 1].length by omega)] at hv
              subst e5
              have HVV := Aside0.mk (cutsVt_in (lv := lv) c2 (by rw [HRW.out]; exact hlt2) (show j < g[i + 1].length by omega))
              have HX4 := Aside0.mk hx4
              have HV4 := Aside0.mk hv
              clear hC4 hx4 hv
              have HRWJ : Aside0 (g[i][j]'(by rw [HRW.out]; exact hlt2) = row[j]) := ⟨by simp only [HRW.out]⟩
              have hx5 := (HB2.out.cell (World.block_lt_of_cell? w0 _ HX4.out)).trans HX4.out
              have hv5 := (HB2.out.cell (World.block_lt_of_cell? w0 _ HV4.out)).trans HV4.out
              go_wp2_with (go_at_call 51; (with_reducible refine (cuts_clo row[j] g[i + 1][j] lv M bl bm w0.heap.size _ HL2.out HM2.out HNE.out HBM.out hM0 (by omega)).mono ?_); rintro e w1 ⟨rfl, hl1, hm1, hb1⟩; have HL4 := Aside0.mk hl1; have HM4 := Aside0.mk hm1; have HB4 := Aside0.mk (HB2.out.trans hb1); clear hl1 hm1 hb1 HL2 HM2 HB2 hy1 hx5 hv5)
              go_roundw
              case rel => exact ⟨j + 1, by omega, by go_num, HL4, ⟨by have h3 := HM4.out; rw [HS.out, HVV.out, HHZ.out]; rw [← HMM.out] at h3; rw [Int.add_zero, ← Int.add_assoc, HRWJ.out]; exact h3⟩, HB4⟩
              case measure => simp [intOf]; omega
            · have HVV := Aside0.mk (cutsVt_out (lv := lv) (j := j) c2)
              go_wp2_with fail
              go_roundw
              case rel => exact ⟨j + 1, by omega, by go_num, HL2, ⟨by have h3 := HM2.out; rw [HS.out, HVV.out, HHZ.out]; rw [← HMM.out] at h3; rw [Int.add_zero, Int.add_zero]; exact h3⟩, HB2⟩
              case measure => simp [intOf]; omega
        · have : j = row.length := by omega
          subst this
          go_wp2_with fail
          go_roundw
          case rel => exact ⟨i + 1, by omega, by go_num, HL2, ⟨by have h3 := HM2.out; rw [cutsAll, cutsrdRow_get hlt, HRW.out]; exact h3⟩, HB2⟩
          case measure => simp [intOf]; omega
    · have : i = g.length := by omega
      subst this
      go_wp2_with fail
      go_end0
      exact ⟨rfl, HM1.out, HB1.out⟩
def impl_GridCuts.f (k : Nat) (l0 : List (List Int)) (a1 : Int) : Option (Int) := (impl_GridValid.f k l0).bind fun t => (if t = true then (if cutsRect l0 = true then some (cutsAll a1 l0 l0.length) else none) else (some (-1)))
theorem impl_GridCuts.mono : ∀ a0 a1 k, LeO (impl_GridCuts.f k a0 a1) (impl_GridCuts.f (k + 1) a0 a1) := by
  intro a0 a1 k
  unfold impl_GridCuts.f
  exact LeO.bind (impl_GridValid.mono _ _) (fun _ => LeO.refl _)
set_option maxHeartbeats 4000000 in
theorem impl_GridCuts.calls (k : Nat) (A0 : Option Addr) (c0 : Nat) (l0 : List (List Int)) (a1 : Int) (r : Int) (w : World) (hr0 : Kd.C (Kd.slice 3 (Kd.int .i64)) w A0 l0.length l0) (hc0 : l0.length ≤ c0) (h : impl_GridCuts.f k l0 a1 = some r) :
    Calls Try.prog 25 #[.slice A0 l0.length c0, .int .i64 a1] w fun e w' => e = .returned (.int .i64 r) ∧ Below w.heap.size w w' := by
  have HR := Aside0.mk hr0
  have HC := Aside0.mk hc0
  clear hr0 hc0
  unfold impl_GridCuts.f at h
  obtain ⟨b, hb, h⟩ := Option.bind_eq_some_iff.1 h
  have HV := Aside0.mk hb
  clear hb
  cases b with
  | false =>
    simp only [Bool.false_eq_true, if_false, Option.some.injEq] at h
    subst h
    go_enter Try.func25, Try.ntmps25
    go_wp2_with (go_at_call 18; (with_reducible refine (impl_GridValid.calls k _ _ l0 false _ (Kd.C_alloc HR.out _) HC.out HV.out).mono ?_); rintro e w' ⟨rfl, ⟨nd, rfl⟩⟩)
    go_ret
    exact ⟨rfl, pw_below_drewN (below_alloc (Below.refl _ _) _) _⟩
  | true =>
    simp only [if_true] at h
    split at h
    · rename_i hs
      obtain ⟨hgl, hg⟩ := cutsRect_of hs
      obtain rfl := Option.some.inj h
      have HGL := Aside0.mk hgl
      have HG := Aside0.mk hg
      clear h hs hgl hg
      go_enter Try.func25, Try.ntmps25
      go_wp2_with (go_at_call 18; (with_reducible refine (impl_GridValid.calls k _ _ l0 true _ (Kd.C_alloc HR.out _) HC.out HV.out).mono ?_); rintro e w' ⟨rfl, ⟨nd, rfl⟩⟩)
      obtain ⟨t1, t2, t3⟩ := two_new w nd (.cells #[.int .i64 a1] 3) (.cells #[.int .i64 0] 3)
      (with_reducible refine (cuts_each l0 A0 c0 a1 w.heap.size (w.heap.size + 1) w _ HR.out HGL.out HG.out t3 t1 t2 (by omega) (by omega)).mono ?_)
      rintro e w' ⟨rfl, hm, hb⟩
      have cm := cell_of_one hm
      have HB := Aside0.mk hb
      clear hm hb t1 t2 t3
      go_wp2
      go_ret
      exact ⟨rfl, HB.out⟩
    · cases h

end Go.Proofs.Ytkhemhmdapggmaa.P

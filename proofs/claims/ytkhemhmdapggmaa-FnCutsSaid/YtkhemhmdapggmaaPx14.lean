-- Written by a program of this session (wip/xprint.py over the print's own program), not by print.sh. Lean checks it.
import Derived.Test.YtkhemhmdapggmaaPx0
import Derived.Test.YtkhemhmdapggmaaPx4
namespace Go.Proofs.Ytkhemhmdapggmaa.P
open Go.RowKit Go.Proofs.YtkhemhmdapggmaaW.PrintWords Go.Proofs.YtkhemhmdapggmaaW.PrintLast Go.Proofs.YtkhemhmdapggmaaW.PrintMore
attribute [local go_sem] max2_int min2_int max_two min_two max_three min_three max_four min_four   -- for this text's walks alone
set_option linter.unusedVariables false
set_option linter.unusedSimpArgs false

-- EXTERNAL impl_GridHigh: function 23
/-- How many of a row are at least lv. -/
def hiRow (lv : Int) : List Int → Int
  | [] => 0
  | x :: r => (if lv ≤ x then 1 else 0) + hiRow lv r
/-- How many of all rows are at least lv. -/
def hiAll (lv : Int) : List (List Int) → Int
  | [] => 0
  | r :: g => hiRow lv r + hiAll lv g
theorem hiRow_snoc (lv : Int) (r : List Int) (x : Int) : hiRow lv (r ++ [x]) = hiRow lv r + if lv ≤ x then 1 else 0 := by
  induction r with
  | nil => simp [hiRow]
  | cons y r ih => rw [List.cons_append, hiRow, ih, hiRow]; omega
theorem hiAll_snoc (lv : Int) (g : List (List Int)) (r : List Int) : hiAll lv (g ++ [r]) = hiAll lv g + hiRow lv r := by
  induction g with
  | nil => simp [hiAll]
  | cons y g ih => rw [List.cons_append, hiAll, ih, hiAll]; omega
theorem hiRow_bound (lv : Int) (r : List Int) : 0 ≤ hiRow lv r ∧ hiRow lv r ≤ r.length := by
  induction r with
  | nil => simp [hiRow]
  | cons y r ih => rw [hiRow, List.length_cons]; split <;> push_cast <;> omega
theorem hiAll_bound (lv : Int) (g : List (List Int)) (hg : ∀ r ∈ g, r.length ≤ 6) : 0 ≤ hiAll lv g ∧ hiAll lv g ≤ 6 * g.length := by
  induction g with
  | nil => simp [hiAll]
  | cons y g ih =>
    have h1 := hiRow_bound lv y
    have h2 := hg y (by simp)
    have h3 := ih (fun r hr => hg r (by simp [hr]))
    rw [hiAll, List.length_cons]; push_cast; omega
theorem rdRow_get {g : List (List Int)} {i : Nat} (h : i < g.length) : rd_L1 g (i : Int) = g[i] := by
  unfold rd_L1; simp [List.getD_eq_getElem?_getD, h]
theorem rdInt_get {l : List Int} {i : Nat} (h : i < l.length) : rd l (i : Int) = l[i] := by unfold rd; simp [List.getD_eq_getElem?_getD, h]
theorem ret_same {k : IntKind} {a b : Int} (h : a = b) : Ending.returned (.int k a) = .returned (.int k b) := by rw [h]
/-- The closure of GridHigh, at one height. -/
theorem high_clo (h lv m : Int) (bl bm B : Nat) (w : World) (hl : w.heap[bl]? = some (.cells #[.int .i64 lv] 3 (0, 0))) (hm : w.heap[bm]? = some (.cells #[.int .i64 m] 3 (0, 0))) (hne : bl ≠ bm) (hB : B ≤ bm) (hm0 : 0 ≤ m) (hm1 : m ≤ 1000) :
    Calls Try.prog 48 #[.int .i64 h, .pointer (some ⟨bl, 0, none⟩), .pointer (some ⟨bm, 0, none⟩)] w fun e w' => e = .returned (.tuple #[]) ∧
      w'.heap[bl]? = some (.cells #[.int .i64 lv] 3 (0, 0)) ∧ w'.heap[bm]? = some (.cells #[.int .i64 (m + if lv ≤ h then 1 else 0)] 3 (0, 0)) ∧ Below B w w' := by
  have cl := cell_of_one hl
  have cm := cell_of_one hm
  have fm := free_of_one hm
  have HL := Aside0.mk hl
  have HM := Aside0.mk hm
  clear hl hm
  by_cases c : lv ≤ h
  · go_enter Try.func48, Try.ntmps48
    go_wp2
    go_end0
    refine ⟨rfl, ?_, ?_, ?_⟩
    · rw [Below.heap_setCell _ _ _ _ hne]; exact HL.out
    · exact one_setCell HM.out
    · exact (Below.refl _ _).setCell hB _
  · go_enter Try.func48, Try.ntmps48
    go_wp2
    go_end0
    exact ⟨rfl, HL.out, by first | exact HM.out | (rw [Int.add_zero]; exact HM.out), Below.refl _ _⟩
/-- eachHeight with the closure of GridHigh: it counts. -/
theorem high_each (g : List (List Int)) (A : Option Addr) (c : Nat) (lv : Int) (bl bm : Nat) (w0 w : World) (hr : Kd.C (Kd.slice 3 (Kd.int .i64)) w0 A g.length g) (hgl : g.length ≤ 6) (hg : ∀ r ∈ g, r.length ≤ 6)
    (hB : Below w0.heap.size w0 w) (hl : w.heap[bl]? = some (.cells #[.int .i64 lv] 3 (0, 0))) (hm : w.heap[bm]? = some (.cells #[.int .i64 0] 3 (0, 0))) (hne : bl ≠ bm) (hbm : w0.heap.size ≤ bm) :
    Calls Try.prog 47 #[.slice A g.length c, .func (.func 48) #[] #[.pointer (some ⟨bl, 0, none⟩), .pointer (some ⟨bm, 0, none⟩)]] w fun e w' => e = .returned (.tuple #[]) ∧
      w'.heap[bm]? = some (.cells #[.int .i64 (hiAll lv g)] 3 (0, 0)) ∧ Below w0.heap.size w0 w' := by
  have HR := Aside0.mk hr
  have HG := Aside0.mk hg
  have HBW := Aside0.mk hB
  have HL := Aside0.mk hl
  have HM := Aside0.mk hm
  have HNE := Aside0.mk hne
  have HBM := Aside0.mk hbm
  clear hr hg hB hl hm hne hbm
  go_enter Try.func47, Try.ntmps47
  go_wp2_with fail
  go_loopw [10] (fun v10 wr => ∃ i : Nat, i ≤ g.length ∧ v10 = .int .i64 i ∧ Aside0 (wr.heap[bl]? = some (.cells #[.int .i64 lv] 3 (0, 0))) ∧ Aside0 (wr.heap[bm]? = some (.cells #[.int .i64 (hiAll lv (g.take i))] 3 (0, 0))) ∧ Aside0 (Below w0.heap.size w0 wr)) (fun v10 _ => g.length - (intOf v10).toNat)
  case atStart => exact ⟨0, Nat.zero_le _, rfl, HL, HM, HBW⟩
  case round =>
    obtain ⟨i, hi, rfl, HL1, HM1, HB1⟩ := hrel
    clear HL HM HBW
    by_cases hlt : i < g.length
    · have hrow := at_L1 HR.out (i : Int) (by omega) (by omega)
      rw [rdRow_get hlt] at hrow
      obtain ⟨ad, A1, c1, e1, hx, hlen, hC⟩ := hrow
      rw [Int.toNat_natCast] at hx
      subst e1
      have h6 : g[i].length ≤ 6 := HG.out _ (List.getElem_mem hlt)
      have hx1 := (HB1.out.cell (World.block_lt_of_cell? w0 _ hx)).trans hx
      have HX := Aside0.mk hx
      have HC1 := Aside0.mk hC
      clear hx hC
      generalize hrw : g[i] = row at *
      have HRW := Aside0.mk hrw
      clear hrw
      go_wp2_with fail
      obtain ⟨wo, rfl⟩ : ∃ wo : World, wo = wr := ⟨_, rfl⟩
      go_loopw [16] (fun v16 wr => ∃ j : Nat, j ≤ row.length ∧ v16 = .int .i64 j ∧ Aside0 (wr.heap[bl]? = some (.cells #[.int .i64 lv] 3 (0, 0))) ∧ Aside0 (wr.heap[bm]? = some (.cells #[.int .i64 (hiAll lv (g.take i) + hiRow lv (row.take j))] 3 (0, 0))) ∧ Aside0 (Below w0.heap.size w0 wr)) (fun v16 _ => row.length - (intOf v16).toNat)
      case atStart => exact ⟨0, Nat.zero_le _, rfl, HL1, ⟨by simpa [hiRow] using HM1.out⟩, HB1⟩
      case round =>
        obtain ⟨j, hj, rfl, HL2, HM2, HB2⟩ := hrel
        clear HL1 HM1 HB1 hx1
        by_cases hlt2 : j < row.length
        · obtain ⟨ad2, e2, hy⟩ := Kd.at_int HC1.out (j : Int) (by omega) (by omega)
          rw [Int.toNat_natCast, rdInt_get hlt2] at hy
          subst e2
          have hy1 := (HB2.out.cell (World.block_lt_of_cell? w0 _ hy)).trans hy
          clear hy
          generalize hh : row[j] = h at *
          have HH := Aside0.mk hh
          clear hh
          have hb1 := hiAll_bound lv (g.take i) (fun r hr => HG.out r (List.mem_of_mem_take hr))
          have hb2 := hiRow_bound lv (row.take j)
          have hl1 : (g.take i).length ≤ 6 := Nat.le_trans (List.length_take_le' ..) hgl
          have hl2 : (row.take j).length ≤ 6 := Nat.le_trans (List.length_take_le' ..) h6
          generalize hM : hiAll lv (g.take i) + hiRow lv (row.take j) = M at *
          have HMM := Aside0.mk hM
          have hM0 : 0 ≤ M := by omega
          have hM1 : M ≤ 1000 := by omega
          clear hM hb1 hb2 hl1 hl2
          go_wp2_with (go_at_call 48; (with_reducible refine (high_clo h lv M bl bm w0.heap.size _ HL2.out HM2.out HNE.out HBM.out hM0 hM1).mono ?_); rintro e w1 ⟨rfl, hl1, hm1, hb1⟩; have HL3 := Aside0.mk hl1; have HM3 := Aside0.mk hm1; have HB3 := Aside0.mk (HB2.out.trans hb1); clear hl1 hm1 hb1 HL2 HM2 HB2 hy1)
          go_roundw
          case rel => exact ⟨j + 1, by omega, by go_num, HL3, ⟨by have h3 := HM3.out; rw [← HMM.out, ← HH.out] at h3; rw [List.take_succ_eq_append_getElem hlt2, hiRow_snoc, ← Int.add_assoc]; exact h3⟩, HB3⟩
          case measure => simp [intOf]; omega
        · have : j = row.length := by omega
          subst this
          go_wp2_with fail
          go_roundw
          case rel => exact ⟨i + 1, by omega, by go_num, HL2, ⟨by have h3 := HM2.out; rw [List.take_length] at h3; rw [List.take_succ_eq_append_getElem hlt, hiAll_snoc, HRW.out]; exact h3⟩, HB2⟩
          case measure => simp [intOf]; omega
    · have : i = g.length := by omega
      subst this
      go_wp2_with fail
      go_end0
      refine ⟨rfl, ?_, HB1.out⟩
      have := HM1.out
      rwa [List.take_length] at this
/-- Rows of at most six, at most six of them. -/
def small6 (g : List (List Int)) : Bool := decide (g.length ≤ 6) && g.all (fun r => decide (r.length ≤ 6))
theorem small6_of {g : List (List Int)} (h : small6 g = true) : g.length ≤ 6 ∧ ∀ r ∈ g, r.length ≤ 6 := by
  unfold small6 at h
  simp only [Bool.and_eq_true, decide_eq_true_eq, List.all_eq_true] at h
  exact h
def impl_GridHigh.f (k : Nat) (l0 : List (List Int)) (a1 : Int) : Option (Int) := (impl_GridValid.f k l0).bind fun t => (if t = true then (if small6 l0 = true then some (hiAll a1 l0) else none) else (some (-1)))
theorem impl_GridHigh.mono : ∀ a0 a1 k, LeO (impl_GridHigh.f k a0 a1) (impl_GridHigh.f (k + 1) a0 a1) := by
  intro a0 a1 k
  unfold impl_GridHigh.f
  exact LeO.bind (impl_GridValid.mono _ _) (fun _ => LeO.refl _)
set_option maxHeartbeats 4000000 in
theorem impl_GridHigh.calls (k : Nat) (A0 : Option Addr) (c0 : Nat) (l0 : List (List Int)) (a1 : Int) (r : Int) (w : World) (hr0 : Kd.C (Kd.slice 3 (Kd.int .i64)) w A0 l0.length l0) (hc0 : l0.length ≤ c0) (h : impl_GridHigh.f k l0 a1 = some r) :
    Calls Try.prog 23 #[.slice A0 l0.length c0, .int .i64 a1] w fun e w' => e = .returned (.int .i64 r) ∧ Below w.heap.size w w' := by
  have HR := Aside0.mk hr0
  have HC := Aside0.mk hc0
  clear hr0 hc0
  unfold impl_GridHigh.f at h
  obtain ⟨b, hb, h⟩ := Option.bind_eq_some_iff.1 h
  have HV := Aside0.mk hb
  clear hb
  cases b with
  | false =>
    simp only [Bool.false_eq_true, if_false, Option.some.injEq] at h
    subst h
    go_enter Try.func23, Try.ntmps23
    go_wp2_with (go_at_call 18; (with_reducible refine (impl_GridValid.calls k _ _ l0 false _ (Kd.C_alloc HR.out _) HC.out HV.out).mono ?_); rintro e w' ⟨rfl, ⟨nd, rfl⟩⟩)
    go_ret
    exact ⟨rfl, pw_below_drewN (below_alloc (Below.refl _ _) _) _⟩
  | true =>
    simp only [if_true] at h
    split at h
    · rename_i hs
      obtain ⟨hgl, hg⟩ := small6_of hs
      obtain rfl := Option.some.inj h
      have HGL := Aside0.mk hgl
      have HG := Aside0.mk hg
      clear h hs hgl hg
      go_enter Try.func23, Try.ntmps23
      go_wp2_with (go_at_call 18; (with_reducible refine (impl_GridValid.calls k _ _ l0 true _ (Kd.C_alloc HR.out _) HC.out HV.out).mono ?_); rintro e w' ⟨rfl, ⟨nd, rfl⟩⟩)
      obtain ⟨t1, t2, t3⟩ := two_new w nd (.cells #[.int .i64 a1] 3) (.cells #[.int .i64 0] 3)
      (with_reducible refine (high_each l0 A0 c0 a1 w.heap.size (w.heap.size + 1) w _ HR.out HGL.out HG.out t3 t1 t2 (by omega) (by omega)).mono ?_)
      rintro e w' ⟨rfl, hm, hb⟩
      have cm := cell_of_one hm
      have HB := Aside0.mk hb
      clear hm hb t1 t2 t3
      go_wp2
      go_ret
      exact ⟨rfl, HB.out⟩
    · cases h

end Go.Proofs.Ytkhemhmdapggmaa.P

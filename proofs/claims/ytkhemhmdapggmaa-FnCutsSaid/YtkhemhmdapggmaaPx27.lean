-- Written by a program of this session (wip/xprint.py over the print's own program), not by print.sh. Lean checks it.
import Derived.Test.YtkhemhmdapggmaaPx0
import Derived.Test.YtkhemhmdapggmaaPx4
import Derived.Test.YtkhemhmdapggmaaPx10
namespace Go.Proofs.Ytkhemhmdapggmaa.P
open Go.RowKit Go.Proofs.YtkhemhmdapggmaaW.PrintWords Go.Proofs.YtkhemhmdapggmaaW.PrintLast Go.Proofs.YtkhemhmdapggmaaW.PrintMore
attribute [local go_sem] max2_int min2_int max_two min_two max_three min_three max_four min_four   -- for this text's walks alone
set_option linter.unusedVariables false
set_option linter.unusedSimpArgs false

-- EXTERNAL impl_GridLines: function 33
/-- The pieces of lines in a square of a case. -/
def pieceQ (c : Int) : Int := if c = 0 ∨ c = 15 then 0 else if c = 5 ∨ c = 10 then 2 else 1
theorem pieceQ_range (c : Int) : 0 ≤ pieceQ c ∧ pieceQ c ≤ 2 := by unfold pieceQ; split <;> (try split) <;> omega
/-- The case of the square at i, j. -/
def sqAt (lv : Int) (g : List (List Int)) (i j : Nat) : Int := sqN lv (rd (rd_L1 g (i : Int)) (j : Int)) (rd (rd_L1 g (i : Int)) ((j : Int) + 1)) (rd (rd_L1 g ((i : Int) + 1)) ((j : Int) + 1)) (rd (rd_L1 g ((i : Int) + 1)) (j : Int)) 4
def linesRow (lv : Int) (g : List (List Int)) (i : Nat) : Nat → Int
  | 0 => 0
  | n + 1 => linesRow lv g i n + pieceQ (sqAt lv g i n)
def linesAll (lv : Int) (g : List (List Int)) : Nat → Int
  | 0 => 0
  | m + 1 => linesAll lv g m + linesRow lv g m ((rd_L1 g 0).length - 1)
theorem linesRow_range (lv : Int) (g : List (List Int)) (i n : Nat) : 0 ≤ linesRow lv g i n ∧ linesRow lv g i n ≤ 2 * n := by
  induction n with
  | zero => simp [linesRow]
  | succ n ih => have := pieceQ_range (sqAt lv g i n); rw [linesRow]; push_cast; omega
theorem linesAll_range (lv : Int) (g : List (List Int)) (hc : (rd_L1 g 0).length ≤ 6) (m : Nat) : 0 ≤ linesAll lv g m ∧ linesAll lv g m ≤ 12 * m := by
  induction m with
  | zero => simp [linesAll]
  | succ m ih => have := linesRow_range lv g m ((rd_L1 g 0).length - 1); rw [linesAll]; push_cast; omega
/-- A grid: two to six rows, each as long as the first, of two to six. -/
def linesRect (g : List (List Int)) : Bool := decide (2 ≤ g.length) && decide (g.length ≤ 6) && decide (2 ≤ (rd_L1 g 0).length) && decide ((rd_L1 g 0).length ≤ 6) && g.all (fun r => decide (r.length = (rd_L1 g 0).length))
theorem linesRect_of {g : List (List Int)} (h : linesRect g = true) : 2 ≤ g.length ∧ g.length ≤ 6 ∧ 2 ≤ (rd_L1 g 0).length ∧ (rd_L1 g 0).length ≤ 6 ∧ ∀ r ∈ g, r.length = (rd_L1 g 0).length := by
  unfold linesRect at h
  simp only [Bool.and_eq_true, decide_eq_true_eq, List.all_eq_true] at h
  exact ⟨h.1.1.1.1, h.1.1.1.2, h.1.1.2, h.1.2, h.2⟩
theorem sqAt_f {lv : Int} {g : List (List Int)} {i j : Nat} (h : linesRect g = true) (hi : i + 1 < g.length) (hj : j + 1 < (rd_L1 g 0).length) : impl_squareCase.f g lv i j = some (sqAt lv g i j) := by
  obtain ⟨h1, h2, h3, h4, h5⟩ := linesRect_of h
  have e1 : ((i : Int) + 1) = ((i + 1 : Nat) : Int) := by omega
  have a1 := h5 _ (List.getElem_mem (show i < g.length by omega))
  have a2 := h5 _ (List.getElem_mem hi)
  unfold impl_squareCase.f
  rw [if_pos]
  · rfl
  · rw [e1, sqRow_get hi, sqRow_get (show i < g.length by omega)]
    omega
set_option maxHeartbeats 4000000 in
/-- The closure of GridLines, at one square. -/
theorem lines_clo (g : List (List Int)) (A : Option Addr) (c : Nat) (lv M q : Int) (i j : Nat) (bg bl bp B : Nat) (w : World) (hr : Kd.C (Kd.slice 3 (Kd.int .i64)) w A g.length g) (hc : g.length ≤ c) (hg : w.heap[bg]? = some (.cells #[.slice A g.length c] 22 (0, 0)))
    (hl : w.heap[bl]? = some (.cells #[.int .i64 lv] 3 (0, 0))) (hp : w.heap[bp]? = some (.cells #[.int .i64 M] 3 (0, 0))) (hne : bg ≠ bp) (hne2 : bl ≠ bp) (hB : B ≤ bp) (hM0 : 0 ≤ M) (hM1 : M ≤ 1000) (hq : impl_squareCase.f g lv i j = some q) (hBw : B ≤ w.heap.size) :
    Calls Try.prog 56 #[.int .i64 i, .int .i64 j, .pointer (some ⟨bg, 0, none⟩), .pointer (some ⟨bl, 0, none⟩), .pointer (some ⟨bp, 0, none⟩)] w fun e w' => e = .returned (.tuple #[]) ∧
      w'.heap[bg]? = some (.cells #[.slice A g.length c] 22 (0, 0)) ∧ w'.heap[bl]? = some (.cells #[.int .i64 lv] 3 (0, 0)) ∧ w'.heap[bp]? = some (.cells #[.int .i64 (M + pieceQ q)] 3 (0, 0)) ∧ Below B w w' := by
  have HSQ := Aside0.mk (impl_squareCase.calls A c g lv i j q w hr hc hq)
  have cg := cell_of_one hg
  have cl := cell_of_one hl
  have lg := lt_of_block hg
  have ll := lt_of_block hl
  have lp := lt_of_block hp
  have HG := Aside0.mk hg
  have HL := Aside0.mk hl
  have HP := Aside0.mk hp
  clear hr hc hg hl hp hq
  go_enter Try.func56, Try.ntmps56
  by_cases c0 : q = 0
  · subst c0
    go_wp2_with (go_at_call 45; (with_reducible refine HSQ.out.mono ?_); rintro e w1 ⟨rfl, hb⟩; have HB1 := Aside0.mk hb; have cp := cell_of_one ((hb.block bp lp).trans HP.out); have fp := free_of_one ((hb.block bp lp).trans HP.out); clear hb)
    go_end0
    exact ⟨rfl, (HB1.out.block bg lg).trans HG.out, (HB1.out.block bl ll).trans HL.out, by rw [show pieceQ 0 = 0 from rfl, Int.add_zero]; exact (HB1.out.block bp lp).trans HP.out, HB1.out.mono hBw⟩
  by_cases c15 : q = 15
  · subst c15
    go_wp2_with (go_at_call 45; (with_reducible refine HSQ.out.mono ?_); rintro e w1 ⟨rfl, hb⟩; have HB1 := Aside0.mk hb; have cp := cell_of_one ((hb.block bp lp).trans HP.out); have fp := free_of_one ((hb.block bp lp).trans HP.out); clear hb)
    go_end0
    exact ⟨rfl, (HB1.out.block bg lg).trans HG.out, (HB1.out.block bl ll).trans HL.out, by rw [show pieceQ 15 = 0 from rfl, Int.add_zero]; exact (HB1.out.block bp lp).trans HP.out, HB1.out.mono hBw⟩
  by_cases c5 : q = 5
  · subst c5
    go_wp2_with (go_at_call 45; (with_reducible refine HSQ.out.mono ?_); rintro e w1 ⟨rfl, hb⟩; have HB1 := Aside0.mk hb; have cp := cell_of_one ((hb.block bp lp).trans HP.out); have fp := free_of_one ((hb.block bp lp).trans HP.out); clear hb)
    go_end0
    refine ⟨rfl, ?_, ?_, ?_, ?_⟩
    · rw [Below.heap_setCell _ _ _ _ hne]; exact (HB1.out.block bg lg).trans HG.out
    · rw [Below.heap_setCell _ _ _ _ hne2]; exact (HB1.out.block bl ll).trans HL.out
    · rw [show pieceQ 5 = 2 from rfl]; exact one_setCell ((HB1.out.block bp lp).trans HP.out)
    · exact (HB1.out.mono hBw).setCell hB _
  by_cases c10 : q = 10
  · subst c10
    go_wp2_with (go_at_call 45; (with_reducible refine HSQ.out.mono ?_); rintro e w1 ⟨rfl, hb⟩; have HB1 := Aside0.mk hb; have cp := cell_of_one ((hb.block bp lp).trans HP.out); have fp := free_of_one ((hb.block bp lp).trans HP.out); clear hb)
    go_end0
    refine ⟨rfl, ?_, ?_, ?_, ?_⟩
    · rw [Below.heap_setCell _ _ _ _ hne]; exact (HB1.out.block bg lg).trans HG.out
    · rw [Below.heap_setCell _ _ _ _ hne2]; exact (HB1.out.block bl ll).trans HL.out
    · rw [show pieceQ 10 = 2 from rfl]; exact one_setCell ((HB1.out.block bp lp).trans HP.out)
    · exact (HB1.out.mono hBw).setCell hB _
  have hpq : pieceQ q = 1 := by unfold pieceQ; rw [if_neg (by omega), if_neg (by omega)]
  go_wp2_with (go_at_call 45; (with_reducible refine HSQ.out.mono ?_); rintro e w1 ⟨rfl, hb⟩; have HB1 := Aside0.mk hb; have cp := cell_of_one ((hb.block bp lp).trans HP.out); have fp := free_of_one ((hb.block bp lp).trans HP.out); clear hb)
  go_end0
  refine ⟨rfl, ?_, ?_, ?_, ?_⟩
  · rw [Below.heap_setCell _ _ _ _ hne]; exact (HB1.out.block bg lg).trans HG.out
  · rw [Below.heap_setCell _ _ _ _ hne2]; exact (HB1.out.block bl ll).trans HL.out
  · rw [hpq]; exact one_setCell ((HB1.out.block bp lp).trans HP.out)
  · exact (HB1.out.mono hBw).setCell hB _

set_option maxHeartbeats 4000000 in
/-- eachSquare with the closure of GridLines: it counts. -/
theorem lines_each (g : List (List Int)) (A : Option Addr) (c : Nat) (lv : Int) (bg bl bp : Nat) (w0 w : World) (hr : Kd.C (Kd.slice 3 (Kd.int .i64)) w0 A g.length g) (hc : g.length ≤ c) (hg : linesRect g = true)
    (hB : Below w0.heap.size w0 w) (hgb : w.heap[bg]? = some (.cells #[.slice A g.length c] 22 (0, 0))) (hl : w.heap[bl]? = some (.cells #[.int .i64 lv] 3 (0, 0))) (hm : w.heap[bp]? = some (.cells #[.int .i64 0] 3 (0, 0))) (hne : bg ≠ bp) (hne2 : bl ≠ bp) (hbp : w0.heap.size ≤ bp) :
    Calls Try.prog 55 #[.slice A g.length c, .func (.func 56) #[] #[.pointer (some ⟨bg, 0, none⟩), .pointer (some ⟨bl, 0, none⟩), .pointer (some ⟨bp, 0, none⟩)]] w fun e w' => e = .returned (.tuple #[]) ∧
      w'.heap[bp]? = some (.cells #[.int .i64 (linesAll lv g (g.length - 1))] 3 (0, 0)) ∧ Below w0.heap.size w0 w' := by
  obtain ⟨g2, g6, r2, r6, hall⟩ := linesRect_of hg
  have HRECT := Aside0.mk hg
  have HR := Aside0.mk hr
  have HC := Aside0.mk hc
  have HBW := Aside0.mk hB
  have HGB := Aside0.mk hgb
  have HL := Aside0.mk hl
  have HM := Aside0.mk hm
  have HNE := Aside0.mk hne
  have HNE2 := Aside0.mk hne2
  have HBP := Aside0.mk hbp
  have hrow := at_L1 hr 0 (by omega) (by omega)
  obtain ⟨ad, A1, c1, e1, hx, hlen, hC⟩ := hrow
  subst e1
  rw [show ad.add (Int.toNat 0) = ad from by simp [Addr.add]] at hx
  generalize hn : (rd_L1 g 0).length = n at *
  have HX := Aside0.mk hx
  clear hr hc hB hgb hl hm hne hne2 hbp hg hall hC hx
  have HN := Aside0.mk hn
  clear hn
  have hw1 : IntKind.i64.wrap ((g.length : Int) - 1) = ((g.length - 1 : Nat) : Int) := by rw [IntKind.wrap_i64]; omega
  have hw2 : IntKind.i64.wrap ((n : Int) - 1) = ((n - 1 : Nat) : Int) := by rw [IntKind.wrap_i64]; omega
  generalize hm1 : g.length - 1 = m1 at *
  generalize hn1 : n - 1 = n1 at *
  have HN1 := Aside0.mk hn1
  go_enter Try.func55, Try.ntmps55
  go_wp2_with fail
  go_loopw [9] (fun v9 wr => ∃ i : Nat, i ≤ m1 ∧ v9 = .int .i64 i ∧ Aside0 (wr.heap[bg]? = some (.cells #[.slice (some ad) g.length c] 22 (0, 0))) ∧ Aside0 (wr.heap[bl]? = some (.cells #[.int .i64 lv] 3 (0, 0))) ∧ Aside0 (wr.heap[bp]? = some (.cells #[.int .i64 (linesAll lv g i)] 3 (0, 0))) ∧ Aside0 (Below w0.heap.size w0 wr)) (fun v9 _ => m1 - (intOf v9).toNat)
  case atStart => exact ⟨0, Nat.zero_le _, rfl, HGB, HL, HM, HBW⟩
  case round =>
    obtain ⟨i, hi, rfl, HG1, HL1, HM1, HB1⟩ := hrel
    clear HGB HL HM HBW
    by_cases hlt : i < m1
    · have hx1 := (HB1.out.cell (World.block_lt_of_cell? w0 _ HX.out)).trans HX.out
      have HAR := Aside0.mk (linesAll_range lv g (by rw [HN.out]; omega) i)
      go_wp2_with fail
      obtain ⟨wo, rfl⟩ : ∃ wo : World, wo = wr := ⟨_, rfl⟩
      go_loopw [17] (fun v17 wr => ∃ j : Nat, j ≤ n1 ∧ v17 = .int .i64 j ∧ Aside0 (wr.heap[bg]? = some (.cells #[.slice (some ad) g.length c] 22 (0, 0))) ∧ Aside0 (wr.heap[bl]? = some (.cells #[.int .i64 lv] 3 (0, 0))) ∧ Aside0 (wr.heap[bp]? = some (.cells #[.int .i64 (linesAll lv g i + linesRow lv g i j)] 3 (0, 0))) ∧ Aside0 (Below w0.heap.size w0 wr)) (fun v17 _ => n1 - (intOf v17).toNat)
      case atStart => exact ⟨0, Nat.zero_le _, rfl, HG1, HL1, ⟨by simpa [linesRow] using HM1.out⟩, HB1⟩
      case round =>
        obtain ⟨j, hj, rfl, HG2, HL2, HM2, HB2⟩ := hrel
        clear HG1 HL1 HM1 HB1 hx1
        by_cases hlt2 : j < n1
        · have hrr := linesRow_range lv g i j
          have har := HAR.out
          have HSF := Aside0.mk (sqAt_f (lv := lv) (i := i) (j := j) HRECT.out (by omega) (by rw [HN.out]; omega))
          have hS : linesRow lv g i (j + 1) = linesRow lv g i j + pieceQ (sqAt lv g i j) := rfl
          have HS := Aside0.mk hS
          clear hS
          generalize hM : linesAll lv g i + linesRow lv g i j = M at *
          have HMM := Aside0.mk hM
          have hM0 : 0 ≤ M := by omega
          have hM1 : M ≤ 1000 := by omega
          clear hM hrr har
          go_wp2_with (go_at_call 56; (with_reducible refine (lines_clo g (some ad) c lv M (sqAt lv g i j) i j bg bl bp w0.heap.size _ (Kd.C_below HR.out HB2.out) HC.out HG2.out HL2.out HM2.out HNE.out HNE2.out HBP.out hM0 hM1 HSF.out HB2.out.size).mono ?_); rintro e w1 ⟨rfl, hg1, hl1, hm1, hb1⟩; have HG3 := Aside0.mk hg1; have HL3 := Aside0.mk hl1; have HM3 := Aside0.mk hm1; have HB3 := Aside0.mk (HB2.out.trans hb1); clear hg1 hl1 hm1 hb1 HG2 HL2 HM2 HB2)
          go_roundw
          case rel => exact ⟨j + 1, by omega, by go_num, HG3, HL3, ⟨by have h3 := HM3.out; rw [← HMM.out] at h3; rw [HS.out, ← Int.add_assoc]; exact h3⟩, HB3⟩
          case measure => simp [intOf]; omega
        · have : j = n1 := by omega
          subst this
          go_wp2_with fail
          go_roundw
          case rel => exact ⟨i + 1, by omega, by go_num, HG2, HL2, ⟨by have h3 := HM2.out; rw [linesAll, HN.out, hn1]; exact h3⟩, HB2⟩
          case measure => simp [intOf]; omega
    · have : i = m1 := by omega
      subst this
      go_wp2_with fail
      go_end0
      exact ⟨rfl, HM1.out, HB1.out⟩
def impl_GridLines.f (k : Nat) (l0 : List (List Int)) (a1 : Int) : Option (Int) := (impl_GridValid.f k l0).bind fun t => (if t = true then (if linesRect l0 = true then some (linesAll a1 l0 (l0.length - 1)) else none) else (some (-1)))
theorem impl_GridLines.mono : ∀ a0 a1 k, LeO (impl_GridLines.f k a0 a1) (impl_GridLines.f (k + 1) a0 a1) := by
  intro a0 a1 k
  unfold impl_GridLines.f
  exact LeO.bind (impl_GridValid.mono _ _) (fun _ => LeO.refl _)
theorem lines_three (w : World) (nd : Nat) (X Y Z : Obj) : (((w.alloc X).alloc Y).drewN nd |>.alloc Z).heap[w.heap.size]? = some X ∧ (((w.alloc X).alloc Y).drewN nd |>.alloc Z).heap[w.heap.size + 1]? = some Y ∧ (((w.alloc X).alloc Y).drewN nd |>.alloc Z).heap[w.heap.size + 1 + 1]? = some Z ∧ Below w.heap.size w (((w.alloc X).alloc Y).drewN nd |>.alloc Z) := by
  have bx := heap_alloc_new w X
  have by' := heap_alloc_new (w.alloc X) Y
  have bz := heap_alloc_new (((w.alloc X).alloc Y).drewN nd) Z
  have h1 : ((w.alloc X).heap.size) = w.heap.size + 1 := by simp
  have h2 : (((w.alloc X).alloc Y).drewN nd).heap.size = w.heap.size + 1 + 1 := by simp
  have g1 : Below (w.heap.size + 1) (w.alloc X) ((((w.alloc X).alloc Y).drewN nd).alloc Z) := by
    rw [← h1]; exact below_alloc (pw_below_drewN (below_alloc (Below.refl _ _) _) _) _
  have g2 : Below (w.heap.size + 1 + 1) (((w.alloc X).alloc Y).drewN nd) ((((w.alloc X).alloc Y).drewN nd).alloc Z) := by
    rw [← h2]; exact below_alloc (Below.refl _ _) _
  refine ⟨(g1.block _ (by omega)).trans bx, ?_, ?_, below_alloc (pw_below_drewN (below_alloc (below_alloc (Below.refl _ _) _) _) _) _⟩
  · rw [h1] at by'
    refine (g2.block _ (by omega)).trans ?_
    simpa using by'
  · rw [h2] at bz; exact bz
set_option maxHeartbeats 4000000 in
theorem impl_GridLines.calls (k : Nat) (A0 : Option Addr) (c0 : Nat) (l0 : List (List Int)) (a1 : Int) (r : Int) (w : World) (hr0 : Kd.C (Kd.slice 3 (Kd.int .i64)) w A0 l0.length l0) (hc0 : l0.length ≤ c0) (h : impl_GridLines.f k l0 a1 = some r) :
    Calls Try.prog 33 #[.slice A0 l0.length c0, .int .i64 a1] w fun e w' => e = .returned (.int .i64 r) ∧ Below w.heap.size w w' := by
  have HR := Aside0.mk hr0
  have HC := Aside0.mk hc0
  clear hr0 hc0
  unfold impl_GridLines.f at h
  obtain ⟨b, hb, h⟩ := Option.bind_eq_some_iff.1 h
  have HV := Aside0.mk hb
  clear hb
  cases b with
  | false =>
    simp only [Bool.false_eq_true, if_false, Option.some.injEq] at h
    subst h
    go_enter Try.func33, Try.ntmps33
    go_wp2_with (go_at_call 18; (with_reducible refine (impl_GridValid.calls k _ _ l0 false _ (by repeat (first | exact HR.out | refine Kd.C_alloc ?_ _)) HC.out HV.out).mono ?_); rintro e w' ⟨rfl, ⟨nd, rfl⟩⟩)
    go_ret
    exact ⟨rfl, pw_below_drewN (below_alloc (below_alloc (Below.refl _ _) _) _) _⟩
  | true =>
    simp only [if_true] at h
    split at h
    · rename_i hs
      obtain rfl := Option.some.inj h
      have HS := Aside0.mk hs
      clear h hs
      go_enter Try.func33, Try.ntmps33
      go_wp2_with (go_at_call 18; (with_reducible refine (impl_GridValid.calls k _ _ l0 true _ (by repeat (first | exact HR.out | refine Kd.C_alloc ?_ _)) HC.out HV.out).mono ?_); rintro e w' ⟨rfl, ⟨nd, rfl⟩⟩)
      obtain ⟨t1, t2, t3, t4⟩ := lines_three w nd (.cells #[.slice A0 l0.length c0] 22) (.cells #[.int .i64 a1] 3) (.cells #[.int .i64 0] 3)
      (with_reducible refine (lines_each l0 A0 c0 a1 w.heap.size (w.heap.size + 1) (w.heap.size + 1 + 1) w _ HR.out HC.out HS.out t4 t1 t2 t3 (by omega) (by omega) (by omega)).mono ?_)
      rintro e w' ⟨rfl, hm, hb⟩
      have cm := cell_of_one hm
      have HB := Aside0.mk hb
      clear hm hb t1 t2 t3 t4
      go_wp2
      go_ret
      exact ⟨rfl, HB.out⟩
    · cases h

end Go.Proofs.Ytkhemhmdapggmaa.P

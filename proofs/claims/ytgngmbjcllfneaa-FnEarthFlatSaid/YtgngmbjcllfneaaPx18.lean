-- Written by a program of this session (wip/xprint.py over the print's own program), not by print.sh. Lean checks it.
import Derived.Test.YtgngmbjcllfneaaPx0
import Derived.Test.YtgngmbjcllfneaaPx5
import Derived.Test.YtgngmbjcllfneaaPx12
import Derived.Test.YtgngmbjcllfneaaPx15
namespace Go.Proofs.Ytgngmbjcllfneaa.P
open Go.RowKit Go.Proofs.YtgngmbjcllfneaaW.PrintWords Go.Proofs.YtgngmbjcllfneaaW.PrintLast Go.Proofs.YtgngmbjcllfneaaW.PrintMore
attribute [local go_sem] max2_int min2_int max_two min_two max_three min_three max_four min_four   -- for this text's walks alone
set_option linter.unusedVariables false
set_option linter.unusedSimpArgs false

-- EXTERNAL impl_EarthFlat: function 26
set_option maxHeartbeats 4000000 in
set_option maxRecDepth 100000 in
/-- sort.Search with the closure of EarthFlat. -/
theorem flat_search (bg : Nat) (n r : Int) (d : Nat) (p : Int → Option Bool) (w : World) (hn : 0 ≤ n) (hn2 : n ≤ 100000)
    (hclo : ∀ (W : World) (i : Int) (b : Bool), Below w.heap.size w W → 0 ≤ i → i < n → p i = some b → Calls Try.prog 48 #[.int .i64 i, .pointer (some ⟨bg, 0, none⟩)] W fun e w' => e = .returned (.bool b) ∧ Below W.heap.size W w')
    (h : srchO p d 0 n = some r) :
    Calls Try.prog 46 #[.int .i64 n, .func (.func 48) #[] #[.pointer (some ⟨bg, 0, none⟩)]] w fun e w' => e = .returned (.int .i64 r) ∧ Below w.heap.size w w' := by
  have HC := Aside0.mk hclo
  have HS := Aside0.mk h
  clear hclo h
  go_enter Try.func46, Try.ntmps46
  go_wp2_with fail
  go_loopg [5, 6] d (fun kq v5 v6 wr => ∃ (i j : Int), v5 = .int .i64 i ∧ v6 = .int .i64 j ∧ 0 ≤ i ∧ i ≤ n ∧ j ≤ n ∧ Aside0 (srchO p kq i j = some r) ∧ Aside0 (Below w.heap.size w wr))
  case atStart => exact ⟨0, n, rfl, rfl, by omega, by omega, by omega, HS, ⟨Below.refl _ _⟩⟩
  case round =>
    obtain ⟨i, j, rfl, rfl, hi0, hin, hjn, HS1, HB1⟩ := hrel
    clear HS
    by_cases hlt : i < j
    · cases gk with
      | zero => exact absurd HS1.out (by unfold srchO; rw [if_pos hlt]; simp)
      | succ gk =>
        have h1 := HS1.out
        unfold srchO at h1
        rw [if_pos hlt] at h1
        obtain ⟨b, hb, h2⟩ := Option.bind_eq_some_iff.1 h1
        have hc := HC.out wr ((i + j) / 2) b HB1.out (by omega) (by omega) hb
        have HCC := Aside0.mk hc
        clear hc h1 HS1 hb
        cases b with
        | true =>
          have HS2 : Aside0 (srchO p gk i ((i + j) / 2) = some r) := ⟨by simpa using h2⟩
          clear h2
          go_wp2_with (go_at_call 48; (with_reducible refine HCC.out.mono ?_); rintro e w1 ⟨rfl, hb1⟩; have HB2 := Aside0.mk (below_then HB1.out HB1.out.size hb1); clear hb1)
          go_roundg gk
          case rel => exact ⟨i, (i + j) / 2, rfl, rfl, hi0, hin, by omega, HS2, HB2⟩
          case measure => omega
        | false =>
          have HS2 : Aside0 (srchO p gk ((i + j) / 2 + 1) j = some r) := ⟨by simpa using h2⟩
          clear h2
          go_wp2_with (go_at_call 48; (with_reducible refine HCC.out.mono ?_); rintro e w1 ⟨rfl, hb1⟩; have HB2 := Aside0.mk (below_then HB1.out HB1.out.size hb1); clear hb1)
          go_roundg gk
          case rel => exact ⟨(i + j) / 2 + 1, j, by go_num, rfl, by omega, by omega, hjn, HS2, HB2⟩
          case measure => omega
    · have hr : r = i := by
        have h1 := HS1.out
        cases gk with
        | zero => unfold srchO at h1; rw [if_neg hlt] at h1; exact (Option.some.inj h1).symm
        | succ gk => unfold srchO at h1; rw [if_neg hlt] at h1; exact (Option.some.inj h1).symm
      have HR := Aside0.mk hr
      have hd : decide (i < j) = false := decide_eq_false hlt
      clear hr hlt
      go_wp2_with fail
      go_ret
      exact ⟨by rw [HR.out]; rfl, HB1.out⟩
/-- What the closure of EarthFlat asks. -/
def flatB (k : Nat) (g : List (List Int)) (lv : Int) : Option Bool := (impl_EarthMove.f k g (wrap64 (lv + 1))).bind fun a => (impl_EarthMove.f k g lv).bind fun b => some (decide (a ≥ b))
theorem flatB_mono (k : Nat) (g : List (List Int)) (lv : Int) : LeO (flatB k g lv) (flatB (k + 1) g lv) := by
  unfold flatB
  exact LeO.bind (impl_EarthMove.mono _ _ _) (fun _ => LeO.bind (impl_EarthMove.mono _ _ _) (fun _ => LeO.refl _))
set_option maxHeartbeats 4000000 in
set_option maxRecDepth 100000 in
/-- The closure of EarthFlat. -/
theorem flat_clo (k : Nat) (g : List (List Int)) (A : Option Addr) (c : Nat) (lv : Int) (b : Bool) (bg : Nat) (w : World) (hr : Kd.C (Kd.slice 3 (Kd.int .i64)) w A g.length g) (hc : g.length ≤ c) (hg : w.heap[bg]? = some (.cells #[.slice A g.length c] 22 (0, 0)))
    (hl0 : 0 ≤ lv) (hl1 : lv ≤ 100000) (hb : flatB k g lv = some b) :
    Calls Try.prog 48 #[.int .i64 lv, .pointer (some ⟨bg, 0, none⟩)] w fun e w' => e = .returned (.bool b) ∧ Below w.heap.size w w' := by
  have cg := cell_of_one hg
  have lg : bg < w.heap.size := lt_of_block hg
  have HG := Aside0.mk hg
  have HR := Aside0.mk hr
  clear hr hg
  unfold flatB at hb
  obtain ⟨m1, h1, hb'⟩ := Option.bind_eq_some_iff.1 hb
  obtain ⟨m2, h2, hb''⟩ := Option.bind_eq_some_iff.1 hb'
  have hw : wrap64 (lv + 1) = lv + 1 := IntWalk.wrap64_in _ ⟨by omega, by omega⟩
  rw [hw] at h1
  have HB := Aside0.mk (Option.some.inj hb'')
  have CL : Aside0 (∀ (W : World) (q m : Int), Below w.heap.size w W → impl_EarthMove.f k g q = some m → Calls Try.prog 22 #[.slice A g.length c, .int .i64 q] W fun e w' => e = .returned (.int .i64 m) ∧ Below w.heap.size w w') := ⟨by
    intro W q m hW hm
    refine (impl_EarthMove.calls k A c g q m W (Kd.C_below HR.out hW) hc hm).mono ?_
    rintro e w' ⟨rfl, hb⟩
    exact ⟨rfl, below_then hW hW.size hb⟩⟩
  have H1 := Aside0.mk h1
  have H2 := Aside0.mk h2
  clear h1 h2 hb hb' hb'' hw
  have hwr : IntKind.i64.wrap (lv + 1) = lv + 1 := IntWalk.i64_in _ (by omega)
  go_enter Try.func48, Try.ntmps48
  go_wp2_with fail
  go_region_held3 (fun w' => w'.cell? ⟨bg, 0, none⟩ = some (.slice A g.length c))
    (first
      | go_keep
      | exact (HB2.out.cell (p := ⟨bg, 0, none⟩) lg).trans cg
      | exact (HB1.out.cell (p := ⟨bg, 0, none⟩) lg).trans cg)
    (first
      | (go_at_call 22; (with_reducible refine (CL.out _ (lv + 1) m1 (by first | exact Below.refl _ _ | exact (Below.refl _ _).drew | exact pw_below_drewN (Below.refl _ _) _) H1.out).mono ?_); rintro e w1 ⟨rfl, hb1⟩; have HB1 := Aside0.mk hb1; clear hb1)
      | (go_at_call 22; (with_reducible refine (CL.out _ lv m2 HB1.out H2.out).mono ?_); rintro e w2 ⟨rfl, hb2⟩; have HB2 := Aside0.mk hb2; clear hb2))
  go_wp2
  go_ret
  exact ⟨by rw [← HB.out]; rfl, HB2.out⟩
def impl_EarthFlat.f (k : Nat) (l0 : List (List Int)) : Option (Int × Bool) := (impl_GridValid.f k l0).bind fun t => (if t = true then ((srchO (flatB k l0) 1000 0 1000).bind fun r => some (r, true)) else (some (0, false)))
theorem impl_EarthFlat.mono : ∀ a0 k, LeO (impl_EarthFlat.f k a0) (impl_EarthFlat.f (k + 1) a0) := by
  intro a0 k
  unfold impl_EarthFlat.f
  exact LeO.bind (impl_GridValid.mono _ _) (fun _ => LeO.ite (LeO.bind (srchO_mono (flatB_mono k a0) _ _ _) (fun _ => LeO.refl _)) (LeO.refl _))
set_option maxHeartbeats 4000000 in
theorem impl_EarthFlat.calls (k : Nat) (A0 : Option Addr) (c0 : Nat) (l0 : List (List Int)) (r1 : Int) (r2 : Bool) (w : World) (hr0 : Kd.C (Kd.slice 3 (Kd.int .i64)) w A0 l0.length l0) (hc0 : l0.length ≤ c0) (h : impl_EarthFlat.f k l0 = some (r1, r2)) :
    Calls Try.prog 26 #[.slice A0 l0.length c0] w fun e w' => e = .returned (.tuple #[.int .i64 r1, .bool r2]) ∧ Below w.heap.size w w' := by
  have HR := Aside0.mk hr0
  have HC := Aside0.mk hc0
  clear hr0 hc0
  unfold impl_EarthFlat.f at h
  obtain ⟨b, hb, h⟩ := Option.bind_eq_some_iff.1 h
  have HV := Aside0.mk hb
  clear hb
  cases b with
  | false =>
    simp only [Bool.false_eq_true, if_false, Option.some.injEq, Prod.mk.injEq] at h
    obtain ⟨rfl, rfl⟩ := h
    go_enter Try.func26, Try.ntmps26
    go_wp2_with (go_at_call 45; (with_reducible refine (impl_GridValid.calls k _ _ l0 false _ (Kd.C_alloc HR.out _) HC.out HV.out).mono ?_); rintro e w' ⟨rfl, ⟨nd, rfl⟩⟩)
    go_ret2
    exact ⟨rfl, pw_below_drewN (below_alloc (Below.refl _ _) _) _⟩
  | true =>
    simp only [if_true] at h
    obtain ⟨q, hq, h⟩ := Option.bind_eq_some_iff.1 h
    simp only [Option.some.injEq, Prod.mk.injEq] at h
    obtain ⟨rfl, rfl⟩ := h
    have HQ := Aside0.mk hq
    clear hq
    go_enter Try.func26, Try.ntmps26
    go_wp2_with (go_at_call 45; (with_reducible refine (impl_GridValid.calls k _ _ l0 true _ (Kd.C_alloc HR.out _) HC.out HV.out).mono ?_); rintro e w' ⟨rfl, ⟨nd, rfl⟩⟩)
    have hnew := heap_alloc_new w (.cells #[.slice A0 l0.length c0] 22)
    have hbw : Below w.heap.size w ((w.alloc (.cells #[.slice A0 l0.length c0] 22)).drewN nd) := pw_below_drewN (below_alloc (Below.refl _ _) _) _
    have hlt : w.heap.size < ((w.alloc (.cells #[.slice A0 l0.length c0] 22)).drewN nd).heap.size := by simp
    (with_reducible refine (flat_search w.heap.size 1000 q 1000 (flatB k l0) _ (by omega) (by omega) ?_ HQ.out).mono ?_)
    · intro W i b hW hi0 hi1 hp
      exact flat_clo k l0 A0 c0 i b w.heap.size W (Kd.C_below HR.out (hbw.trans (hW.mono (Nat.le_of_lt hlt)))) HC.out ((hW.block w.heap.size hlt).trans hnew) hi0 (by omega) hp
    · rintro e w' ⟨rfl, hb⟩
      have HB := Aside0.mk (hbw.trans (hb.mono (Nat.le_of_lt hlt)))
      clear hb hnew hbw hlt
      go_wp2
      go_ret2
      exact ⟨rfl, HB.out⟩

end Go.Proofs.Ytgngmbjcllfneaa.P

-- Written by a program of this session (wip/xprint.py over the print's own program), not by print.sh. Lean checks it.
import Derived.Test.YtgngmbjcllfneaaPx0
import Derived.Test.YtgngmbjcllfneaaPx5
import Derived.Test.YtgngmbjcllfneaaPx7
namespace Go.Proofs.Ytgngmbjcllfneaa.P
open Go.RowKit Go.Proofs.YtgngmbjcllfneaaW.PrintWords Go.Proofs.YtgngmbjcllfneaaW.PrintLast Go.Proofs.YtgngmbjcllfneaaW.PrintMore
attribute [local go_sem] max2_int min2_int max_two min_two max_three min_three max_four min_four   -- for this text's walks alone
set_option linter.unusedVariables false
set_option linter.unusedSimpArgs false

-- EXTERNAL impl_EarthLevel: function 24
/-- What sort.Search does: p is asked in the middle, again and again. -/
def srchO (p : Int → Option Bool) : Nat → Int → Int → Option Int
  | 0, i, j => if i < j then none else some i
  | d + 1, i, j => if i < j then (p ((i + j) / 2)).bind fun b => if b = true then srchO p d i ((i + j) / 2) else srchO p d ((i + j) / 2 + 1) j else some i
theorem srchO_mono {p q : Int → Option Bool} (h : ∀ i, LeO (p i) (q i)) : ∀ (d : Nat) (i j : Int), LeO (srchO p d i j) (srchO q d i j)
  | 0, _, _ => LeO.refl _
  | d + 1, i, j => by
    unfold srchO
    refine LeO.ite (LeO.bind (h _) (fun b => LeO.ite (srchO_mono h d _ _) (srchO_mono h d _ _))) (LeO.refl _)
set_option maxHeartbeats 4000000 in
set_option maxRecDepth 100000 in
/-- sort.Search with the closure of EarthLevel. -/
theorem level_search (bg : Nat) (n r : Int) (d : Nat) (p : Int → Option Bool) (w : World) (hn : 0 ≤ n) (hn2 : n ≤ 100000)
    (hclo : ∀ (W : World) (i : Int) (b : Bool), Below w.heap.size w W → 0 ≤ i → i < n → p i = some b → Calls Try.prog 47 #[.int .i64 i, .pointer (some ⟨bg, 0, none⟩)] W fun e w' => e = .returned (.bool b) ∧ Below W.heap.size W w')
    (h : srchO p d 0 n = some r) :
    Calls Try.prog 46 #[.int .i64 n, .func (.func 47) #[] #[.pointer (some ⟨bg, 0, none⟩)]] w fun e w' => e = .returned (.int .i64 r) ∧ Below w.heap.size w w' := by
  have HC := Aside0.mk hclo
  have HS := Aside0.mk h
  clear hclo h
  go_enter Try.func46, Try.ntmps46
  go_wp2_with fail
  go_loopg [5, 6] d (fun kq v5 v6 wr => ∃ (i j : Int), v5 = .int .i64 i ∧ v6 = .int .i64 j ∧ 0 ≤ i ∧ i ≤ n ∧ j ≤ n ∧ Aside0 (srchO p kq i j = some r) ∧ Aside0 (Below w.heap.size w wr))
  case atStart => exact ⟨0, n, rfl, rfl, by omega, by omega, by omega, HS, ⟨Below.refl _ _⟩⟩
  case round =>
    obtain ⟨i, j, rfl, rfl, hi0, hin, hjn, HS1, HB1⟩ := hrel
    clear HS
    by_cases hlt : i < j
    · cases gk with
      | zero => exact absurd HS1.out (by unfold srchO; rw [if_pos hlt]; simp)
      | succ gk =>
        have h1 := HS1.out
        unfold srchO at h1
        rw [if_pos hlt] at h1
        obtain ⟨b, hb, h2⟩ := Option.bind_eq_some_iff.1 h1
        have hc := HC.out wr ((i + j) / 2) b HB1.out (by omega) (by omega) hb
        have HCC := Aside0.mk hc
        clear hc h1 HS1 hb
        cases b with
        | true =>
          have HS2 : Aside0 (srchO p gk i ((i + j) / 2) = some r) := ⟨by simpa using h2⟩
          clear h2
          go_wp2_with (go_at_call 47; (with_reducible refine HCC.out.mono ?_); rintro e w1 ⟨rfl, hb1⟩; have HB2 := Aside0.mk (below_then HB1.out HB1.out.size hb1); clear hb1)
          go_roundg gk
          case rel => exact ⟨i, (i + j) / 2, rfl, rfl, hi0, hin, by omega, HS2, HB2⟩
          case measure => omega
        | false =>
          have HS2 : Aside0 (srchO p gk ((i + j) / 2 + 1) j = some r) := ⟨by simpa using h2⟩
          clear h2
          go_wp2_with (go_at_call 47; (with_reducible refine HCC.out.mono ?_); rintro e w1 ⟨rfl, hb1⟩; have HB2 := Aside0.mk (below_then HB1.out HB1.out.size hb1); clear hb1)
          go_roundg gk
          case rel => exact ⟨(i + j) / 2 + 1, j, by go_num, rfl, by omega, by omega, hjn, HS2, HB2⟩
          case measure => omega
    · have hr : r = i := by
        have h1 := HS1.out
        cases gk with
        | zero => unfold srchO at h1; rw [if_neg hlt] at h1; exact (Option.some.inj h1).symm
        | succ gk => unfold srchO at h1; rw [if_neg hlt] at h1; exact (Option.some.inj h1).symm
      have HR := Aside0.mk hr
      have hd : decide (i < j) = false := decide_eq_false hlt
      clear hr hlt
      go_wp2_with fail
      go_ret
      exact ⟨by rw [HR.out]; rfl, HB1.out⟩
/-- Is there less cut than fill? -/
def lessE (g : List (List Int)) (lv : Int) : Bool := decide ((allE lv (0, 0) g).1 < (allE lv (0, 0) g).2)
/-- The closure of EarthLevel. -/
theorem level_clo (g : List (List Int)) (A : Option Addr) (c : Nat) (lv : Int) (bg : Nat) (w : World) (hr : Kd.C (Kd.slice 3 (Kd.int .i64)) w A g.length g) (hc : g.length ≤ c) (hg : w.heap[bg]? = some (.cells #[.slice A g.length c] 22 (0, 0))) :
    Calls Try.prog 47 #[.int .i64 lv, .pointer (some ⟨bg, 0, none⟩)] w fun e w' => e = .returned (.bool (lessE g lv)) ∧ Below w.heap.size w w' := by
  have cg := cell_of_one hg
  have HR := Aside0.mk hr
  clear hr hg
  have HE : Aside0 (impl_earthOf.f g lv = some ((allE lv (0, 0) g).1, (allE lv (0, 0) g).2)) := ⟨rfl⟩
  have HL : Aside0 (lessE g lv = decide ((allE lv (0, 0) g).1 < (allE lv (0, 0) g).2)) := ⟨rfl⟩
  generalize (allE lv (0, 0) g).1 = a at HE HL
  generalize (allE lv (0, 0) g).2 = b at HE HL
  go_enter Try.func47, Try.ntmps47
  go_wp2_with (go_at_call 43; (with_reducible refine (impl_earthOf.calls A c g lv a b _ HR.out hc HE.out).mono ?_); rintro e w1 ⟨rfl, hb1⟩; have HB1 := Aside0.mk hb1; clear hb1)
  go_ret
  exact ⟨by rw [HL.out]; rfl, HB1.out⟩
def impl_EarthLevel.f (k : Nat) (l0 : List (List Int)) : Option (Int × Bool) := (impl_GridValid.f k l0).bind fun t => (if t = true then ((srchO (fun lv => some (lessE l0 lv)) 1001 0 1001).bind fun r => some (wrap64 (r - 1), true)) else (some (0, false)))
theorem impl_EarthLevel.mono : ∀ a0 k, LeO (impl_EarthLevel.f k a0) (impl_EarthLevel.f (k + 1) a0) := by
  intro a0 k
  unfold impl_EarthLevel.f
  exact LeO.bind (impl_GridValid.mono _ _) (fun _ => LeO.refl _)
set_option maxHeartbeats 4000000 in
theorem impl_EarthLevel.calls (k : Nat) (A0 : Option Addr) (c0 : Nat) (l0 : List (List Int)) (r1 : Int) (r2 : Bool) (w : World) (hr0 : Kd.C (Kd.slice 3 (Kd.int .i64)) w A0 l0.length l0) (hc0 : l0.length ≤ c0) (h : impl_EarthLevel.f k l0 = some (r1, r2)) :
    Calls Try.prog 24 #[.slice A0 l0.length c0] w fun e w' => e = .returned (.tuple #[.int .i64 r1, .bool r2]) ∧ Below w.heap.size w w' := by
  have HR := Aside0.mk hr0
  have HC := Aside0.mk hc0
  clear hr0 hc0
  unfold impl_EarthLevel.f at h
  obtain ⟨b, hb, h⟩ := Option.bind_eq_some_iff.1 h
  have HV := Aside0.mk hb
  clear hb
  cases b with
  | false =>
    simp only [Bool.false_eq_true, if_false, Option.some.injEq, Prod.mk.injEq] at h
    obtain ⟨rfl, rfl⟩ := h
    go_enter Try.func24, Try.ntmps24
    go_wp2_with (go_at_call 45; (with_reducible refine (impl_GridValid.calls k _ _ l0 false _ (Kd.C_alloc HR.out _) HC.out HV.out).mono ?_); rintro e w' ⟨rfl, ⟨nd, rfl⟩⟩)
    go_ret2
    exact ⟨rfl, pw_below_drewN (below_alloc (Below.refl _ _) _) _⟩
  | true =>
    simp only [if_true] at h
    obtain ⟨q, hq, h⟩ := Option.bind_eq_some_iff.1 h
    simp only [Option.some.injEq, Prod.mk.injEq] at h
    obtain ⟨rfl, rfl⟩ := h
    have HQ := Aside0.mk hq
    clear hq
    go_enter Try.func24, Try.ntmps24
    go_wp2_with (go_at_call 45; (with_reducible refine (impl_GridValid.calls k _ _ l0 true _ (Kd.C_alloc HR.out _) HC.out HV.out).mono ?_); rintro e w' ⟨rfl, ⟨nd, rfl⟩⟩)
    have hnew := heap_alloc_new w (.cells #[.slice A0 l0.length c0] 22)
    have hbw : Below w.heap.size w ((w.alloc (.cells #[.slice A0 l0.length c0] 22)).drewN nd) := pw_below_drewN (below_alloc (Below.refl _ _) _) _
    have hlt : w.heap.size < ((w.alloc (.cells #[.slice A0 l0.length c0] 22)).drewN nd).heap.size := by simp
    (with_reducible refine (level_search w.heap.size 1001 q 1001 (fun lv => some (lessE l0 lv)) _ (by omega) (by omega) ?_ HQ.out).mono ?_)
    · intro W i b hW _ _ hp
      obtain rfl := Option.some.inj hp
      exact level_clo l0 A0 c0 i w.heap.size W (Kd.C_below HR.out (hbw.trans (hW.mono (Nat.le_of_lt hlt)))) HC.out ((hW.block w.heap.size hlt).trans hnew)
    · rintro e w' ⟨rfl, hb⟩
      have HB := Aside0.mk (hbw.trans (hb.mono (Nat.le_of_lt hlt)))
      clear hb hnew hbw hlt
      go_wp2
      go_ret2
      exact ⟨rfl, HB.out⟩

end Go.Proofs.Ytgngmbjcllfneaa.P

-- Written by a program of this session (wip/xprint.py over the print's own program), not by print.sh. Lean checks it.
import Derived.Test.YtekgcfjoimdecaaPx0
namespace Go.Proofs.Ytekgcfjoimdecaa.P
open Go.RowKit Go.Proofs.YtekgcfjoimdecaaW.PrintWords Go.Proofs.YtekgcfjoimdecaaW.PrintLast Go.Proofs.YtekgcfjoimdecaaW.PrintMore
attribute [local go_sem] max2_int min2_int max_two min_two max_three min_three max_four min_four   -- for this text's walks alone
set_option linter.unusedVariables false
set_option linter.unusedSimpArgs false

-- EXTERNAL impl_earthOf: function 64
/-- Cut and fill, one height more. -/
def stepE (lv : Int) (s : Int × Int) (h : Int) : Int × Int := if lv < h then (wrap64 (s.1 + wrap64 (h - lv)), s.2) else (s.1, wrap64 (s.2 + wrap64 (lv - h)))
def rowE (lv : Int) (s : Int × Int) (r : List Int) : Int × Int := r.foldl (stepE lv) s
def allE (lv : Int) (s : Int × Int) (g : List (List Int)) : Int × Int := g.foldl (rowE lv) s
theorem rowE_snoc (lv : Int) (s : Int × Int) (r : List Int) (x : Int) : rowE lv s (r ++ [x]) = stepE lv (rowE lv s r) x := by simp [rowE]
theorem allE_snoc (lv : Int) (s : Int × Int) (g : List (List Int)) (r : List Int) : allE lv s (g ++ [r]) = rowE lv (allE lv s g) r := by simp [allE]
theorem rdRowE_get {g : List (List Int)} {i : Nat} (h : i < g.length) : rd_L5 g (i : Int) = g[i] := by
  unfold rd_L5; simp [List.getD_eq_getElem?_getD, h]
theorem rdIntE_get {l : List Int} {i : Nat} (h : i < l.length) : rd l (i : Int) = l[i] := by unfold rd; simp [List.getD_eq_getElem?_getD, h]
/-- The closure's variables: the level, the cut, the fill. -/
def VarsE (lv : Int) (bl bc bf : Nat) (s : Int × Int) (w : World) : Prop := w.heap[bl]? = some (.cells #[.int .i64 lv] 3 (0, 0)) ∧ w.heap[bc]? = some (.cells #[.int .i64 s.1] 3 (0, 0)) ∧ w.heap[bf]? = some (.cells #[.int .i64 s.2] 3 (0, 0))
/-- The closure of earthOf, at one height. -/
theorem earth_clo (h lv : Int) (bl bc bf B : Nat) (s : Int × Int) (w : World) (hv : VarsE lv bl bc bf s w) (h1 : bl ≠ bc) (h2 : bl ≠ bf) (h3 : bc ≠ bf) (hB : B ≤ bc) (hB2 : B ≤ bf) :
    Calls Try.prog 70 #[.int .i64 h, .pointer (some ⟨bl, 0, none⟩), .pointer (some ⟨bc, 0, none⟩), .pointer (some ⟨bf, 0, none⟩)] w fun e w' => e = .returned (.tuple #[]) ∧ Aside0 (VarsE lv bl bc bf (stepE lv s h) w') ∧ Aside0 (Below B w w') := by
  obtain ⟨hl, hc, hf⟩ := hv
  obtain ⟨c, f⟩ := s
  simp only [] at hc hf
  have cl := cell_of_one hl
  have cc := cell_of_one hc
  have cf := cell_of_one hf
  have fc := free_of_one hc
  have ff := free_of_one hf
  have HL := Aside0.mk hl
  have HC := Aside0.mk hc
  have HF := Aside0.mk hf
  clear hl hc hf
  by_cases t : lv < h
  · have HS := Aside0.mk (show stepE lv (c, f) h = (wrap64 (c + wrap64 (h - lv)), f) by unfold stepE; rw [if_pos t])
    go_enter Try.func70, Try.ntmps70
    go_wp2
    go_end0
    refine ⟨rfl, ⟨?_⟩, ⟨(Below.refl _ _).setCell hB _⟩⟩
    rw [HS.out]
    exact ⟨by rw [Below.heap_setCell _ _ _ _ h1]; exact HL.out, one_setCell HC.out, by rw [Below.heap_setCell _ _ _ _ (Ne.symm h3)]; exact HF.out⟩
  · have HS := Aside0.mk (show stepE lv (c, f) h = (c, wrap64 (f + wrap64 (lv - h))) by unfold stepE; rw [if_neg t])
    go_enter Try.func70, Try.ntmps70
    go_wp2
    go_end0
    refine ⟨rfl, ⟨?_⟩, ⟨(Below.refl _ _).setCell hB2 _⟩⟩
    rw [HS.out]
    exact ⟨by rw [Below.heap_setCell _ _ _ _ h2]; exact HL.out, by rw [Below.heap_setCell _ _ _ _ h3]; exact HC.out, one_setCell HF.out⟩
/-- eachHeight with the closure of earthOf. -/
theorem earth_each (g : List (List Int)) (A : Option Addr) (c : Nat) (lv : Int) (bl bc bf : Nat) (w0 w : World) (hr : Kd.C (Kd.slice 3 (Kd.int .i64)) w0 A g.length g)
    (hB : Below w0.heap.size w0 w) (hv : VarsE lv bl bc bf (0, 0) w) (h1 : bl ≠ bc) (h2 : bl ≠ bf) (h3 : bc ≠ bf) (hbc : w0.heap.size ≤ bc) (hbf : w0.heap.size ≤ bf) :
    Calls Try.prog 69 #[.slice A g.length c, .func (.func 70) #[] #[.pointer (some ⟨bl, 0, none⟩), .pointer (some ⟨bc, 0, none⟩), .pointer (some ⟨bf, 0, none⟩)]] w fun e w' => e = .returned (.tuple #[]) ∧
      Aside0 (VarsE lv bl bc bf (allE lv (0, 0) g) w') ∧ Aside0 (Below w0.heap.size w0 w') := by
  have HR := Aside0.mk hr
  have HBW := Aside0.mk hB
  have HV := Aside0.mk hv
  have H1 := Aside0.mk h1
  have H2 := Aside0.mk h2
  have H3 := Aside0.mk h3
  have HBC := Aside0.mk hbc
  have HBF := Aside0.mk hbf
  have hgl : g.length ≤ 9223372036854775807 := hr.2.1
  clear hr hB hv h1 h2 h3 hbc hbf
  go_enter Try.func69, Try.ntmps69
  go_wp2_with fail
  go_loopw [10] (fun v10 wr => ∃ i : Nat, i ≤ g.length ∧ v10 = .int .i64 i ∧ Aside0 (VarsE lv bl bc bf (allE lv (0, 0) (g.take i)) wr) ∧ Aside0 (Below w0.heap.size w0 wr)) (fun v10 _ => g.length - (intOf v10).toNat)
  case atStart => exact ⟨0, Nat.zero_le _, rfl, HV, HBW⟩
  case round =>
    obtain ⟨i, hi, rfl, HV1, HB1⟩ := hrel
    clear HV HBW
    by_cases hlt : i < g.length
    · have hrow := at_L5 HR.out (i : Int) (by omega) (by omega)
      rw [rdRowE_get hlt] at hrow
      obtain ⟨ad, A1, c1, e1, hx, hlen, hC⟩ := hrow
      rw [Int.toNat_natCast] at hx
      subst e1
      have hx1 := (HB1.out.cell (World.block_lt_of_cell? w0 _ hx)).trans hx
      have HC1 := Aside0.mk hC
      have h6 : g[i].length ≤ 9223372036854775807 := hC.2.1
      clear hx hC
      generalize hrw : g[i] = row at *
      have HRW := Aside0.mk hrw
      clear hrw
      go_wp2_with fail
      obtain ⟨wo, rfl⟩ : ∃ wo : World, wo = wr := ⟨_, rfl⟩
      go_loopw [16] (fun v16 wr => ∃ j : Nat, j ≤ row.length ∧ v16 = .int .i64 j ∧ Aside0 (VarsE lv bl bc bf (rowE lv (allE lv (0, 0) (g.take i)) (row.take j)) wr) ∧ Aside0 (Below w0.heap.size w0 wr)) (fun v16 _ => row.length - (intOf v16).toNat)
      case atStart => exact ⟨0, Nat.zero_le _, rfl, ⟨by simpa [rowE] using HV1.out⟩, HB1⟩
      case round =>
        obtain ⟨j, hj, rfl, HV2, HB2⟩ := hrel
        clear HV1 HB1 hx1
        by_cases hlt2 : j < row.length
        · obtain ⟨ad2, e2, hy⟩ := Kd.at_int HC1.out (j : Int) (by omega) (by omega)
          rw [Int.toNat_natCast, rdIntE_get hlt2] at hy
          subst e2
          have hy1 := (HB2.out.cell (World.block_lt_of_cell? w0 _ hy)).trans hy
          clear hy
          generalize hh : row[j] = h at *
          have HH := Aside0.mk hh
          clear hh
          go_wp2_with (go_at_call 70; (with_reducible refine (earth_clo h lv bl bc bf w0.heap.size _ _ HV2.out H1.out H2.out H3.out HBC.out HBF.out).mono ?_); rintro e w1 ⟨rfl, HV3, hb1⟩; have HB3 := Aside0.mk (HB2.out.trans hb1.out); clear hb1 HV2 HB2 hy1)
          go_roundw
          case rel => exact ⟨j + 1, by omega, by go_num, ⟨by have h4 := HV3.out; rw [← HH.out] at h4; rw [List.take_succ_eq_append_getElem hlt2, rowE_snoc]; exact h4⟩, HB3⟩
          case measure => simp [intOf]; omega
        · have : j = row.length := by omega
          subst this
          go_wp2_with fail
          go_roundw
          case rel => exact ⟨i + 1, by omega, by go_num, ⟨by have h4 := HV2.out; rw [List.take_length] at h4; rw [List.take_succ_eq_append_getElem hlt, allE_snoc, HRW.out]; exact h4⟩, HB2⟩
          case measure => simp [intOf]; omega
    · have : i = g.length := by omega
      subst this
      go_wp2_with fail
      go_end0
      refine ⟨rfl, ⟨?_⟩, HB1⟩
      have := HV1.out
      rwa [List.take_length] at this
def impl_earthOf.f (l0 : List (List Int)) (a1 : Int) : Option (Int × Int) := some (allE a1 (0, 0) l0)
/-- Three variables in memory, one behind the other. -/
theorem three_new (w : World) (X Y Z : Obj) : (((w.alloc X).alloc Y).alloc Z).heap[w.heap.size]? = some X ∧ (((w.alloc X).alloc Y).alloc Z).heap[w.heap.size + 1]? = some Y ∧ (((w.alloc X).alloc Y).alloc Z).heap[w.heap.size + 1 + 1]? = some Z ∧ Below w.heap.size w (((w.alloc X).alloc Y).alloc Z) := by
  have z1 : (w.alloc X).heap.size = w.heap.size + 1 := by simp
  have z2 : ((w.alloc X).alloc Y).heap.size = w.heap.size + 1 + 1 := by simp
  refine ⟨?_, ?_, ?_, below_alloc (below_alloc (below_alloc (Below.refl _ _) _) _) _⟩
  · have h1 := (below_alloc (below_alloc (Below.refl (w.alloc X).heap.size (w.alloc X)) Y) Z).block w.heap.size (by rw [z1]; omega)
    rw [h1]; exact heap_alloc_new w X
  · have h1 := (below_alloc (Below.refl ((w.alloc X).alloc Y).heap.size ((w.alloc X).alloc Y)) Z).block (w.heap.size + 1) (by rw [z2]; omega)
    have h2 := heap_alloc_new (w.alloc X) Y
    rw [z1] at h2; rw [h1]; exact h2
  · have h2 := heap_alloc_new ((w.alloc X).alloc Y) Z
    rw [z2] at h2; exact h2
set_option maxHeartbeats 4000000 in
theorem impl_earthOf.calls (A0 : Option Addr) (c0 : Nat) (l0 : List (List Int)) (a1 : Int) (r1 : Int) (r2 : Int) (w : World) (hr0 : Kd.C (Kd.slice 3 (Kd.int .i64)) w A0 l0.length l0) (hc0 : l0.length ≤ c0) (h : impl_earthOf.f l0 a1 = some (r1, r2)) :
    Calls Try.prog 64 #[.slice A0 l0.length c0, .int .i64 a1] w fun e w' => e = .returned (.tuple #[.int .i64 r1, .int .i64 r2]) ∧ Below w.heap.size w w' := by
  have HR := Aside0.mk hr0
  clear hr0 hc0
  unfold impl_earthOf.f at h
  have hE := Option.some.inj h
  have HE := Aside0.mk hE
  clear h hE
  go_enter Try.func64, Try.ntmps64
  go_wp2_with fail
  obtain ⟨t1, t2, t3, t4⟩ := three_new w (.cells #[.int .i64 a1] 3) (.cells #[.int .i64 0] 3) (.cells #[.int .i64 0] 3)
  have tv : VarsE a1 w.heap.size (w.heap.size + 1) (w.heap.size + 1 + 1) (0, 0) (((w.alloc (.cells #[.int .i64 a1] 3)).alloc (.cells #[.int .i64 0] 3)).alloc (.cells #[.int .i64 0] 3)) := ⟨t1, t2, t3⟩
  (with_reducible refine (earth_each l0 A0 c0 a1 w.heap.size (w.heap.size + 1) (w.heap.size + 1 + 1) w _ HR.out t4 tv (by omega) (by omega) (by omega) (by omega) (by omega)).mono ?_)
  rintro e w' ⟨rfl, hv, hb⟩
  have hv2 := hv.out
  rw [HE.out] at hv2
  obtain ⟨_, v2, v3⟩ := hv2
  have c2 := cell_of_one v2
  have c3 := cell_of_one v3
  clear hv v2 v3 t1 t2 t3 t4 tv
  go_wp2
  go_quiet (fail)
  go_wp2
  go_ret2
  exact ⟨rfl, by first | exact hb.out | exact pw_below_drewN hb.out _⟩

end Go.Proofs.Ytekgcfjoimdecaa.P

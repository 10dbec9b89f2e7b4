-- Written by a program of this session (wip/xprint.py over the print's own program), not by print.sh. Lean checks it.
import Derived.Test.YtgoejfdciejikaaPx0
import Derived.Test.YtgoejfdciejikaaPx26
namespace Go.Proofs.Ytgoejfdciejikaa.P
open Go.RowKit Go.Proofs.YtgoejfdciejikaaW.PrintWords Go.Proofs.YtgoejfdciejikaaW.PrintLast Go.Proofs.YtgoejfdciejikaaW.PrintMore
attribute [local go_sem] max2_int min2_int max_two min_two max_three min_three max_four min_four   -- for this text's walks alone
set_option linter.unusedVariables false
set_option linter.unusedSimpArgs false

/-! ### spec_l92Lines: function 46 -/
def spec_l92Lines.f (k : Nat) (s0_0 : List Int) (s0_1 : Int) : Option (Int × Int × Int × Int × Int × Int × Int × Int × Int) := (spec_l91Point.f k s0_0 s0_1).bind fun bt367 => ((spec_l91Point.f k s0_0 bt367.2.2).bind fun bt371 => ((spec_l91Point.f k s0_0 bt371.2.2).bind fun bt375 => ((spec_l91Point.f k s0_0 bt375.2.2).bind fun bt379 => ((spec_l6Rd_pick.f k s0_0 bt379.2.2 6).bind fun bt383 => (if bt383.1 = 0 then (some (bt367.1, bt367.2.1, bt371.1, bt371.2.1, bt375.1, bt375.2.1, wrap64 ((wrap64 (bt375.1 + bt371.1)) - bt367.1), wrap64 ((wrap64 (bt375.2.1 + bt371.2.1)) - bt367.2.1), bt383.2)) else (if bt383.1 = 1 then (some (bt367.1, bt367.2.1, bt371.1, bt371.2.1, wrap64 ((wrap64 (2 * bt367.1)) - bt371.1), wrap64 ((wrap64 (2 * bt367.2.1)) - bt371.2.1), wrap64 ((wrap64 (3 * bt371.1)) - (wrap64 (2 * bt367.1))), wrap64 ((wrap64 (3 * bt371.2.1)) - (wrap64 (2 * bt367.2.1))), bt383.2)) else (if bt383.1 = 2 then (some (bt367.1, bt367.2.1, bt371.1, bt371.2.1, bt371.1, bt371.2.1, bt379.1, bt379.2.1, bt383.2)) else (some (bt367.1, bt367.2.1, bt371.1, bt371.2.1, bt375.1, bt375.2.1, bt379.1, bt379.2.1, bt383.2)))))))))
theorem spec_l92Lines.mono : ∀ a0 a1 k, LeO (spec_l92Lines.f k a0 a1) (spec_l92Lines.f (k + 1) a0 a1) := by
  intro a0 a1 k
  unfold spec_l92Lines.f
  repeat' first
      | (with_reducible exact spec_l6Rd_pick.mono _ _ _ _)
      | (with_reducible exact spec_l91Point.mono _ _ _)
      | (with_reducible exact LeO.refl _)
      | (with_reducible exact LeO.none _)
      | (with_reducible refine LeO.ite ?_ ?_)
      | (with_reducible refine LeO.bind ?_ (fun _ => ?_))
      | exact spec_l6Rd_pick.mono _ _ _ _
      | exact spec_l91Point.mono _ _ _
      | exact LeO.none _
      | refine LeO.ite ?_ ?_
      | refine LeO.bind ?_ (fun _ => ?_)
def spec_l92Lines.T7 : Bool × List (List Nat × List Nat) := (true, [([], []), ([], []), ([], []), ([], []), ([3], [3]), ([], []), ([5], [5]), ([4, 6], [4, 6]), ([], []), ([8], [8]), ([7, 9], [7, 9]), ([], []), ([11], [11]), ([], []), ([13], [13]), ([12, 14], [12, 14]), ([], []), ([16], [16]), ([15, 17], [15, 17]), ([10, 18], [10, 18]), ([0, 0], [0]), ([1, 20, 0, 1, 20], [1]), ([2, 21, 0, 1, 2, 20, 21], [2]), ([19, 22, 0, 1, 2, 3, 4, 5, 6, 7, 8, 9, 10, 11, 12, 13, 14, 15, 16, 17, 18, 19, 20, 21, 22], [19])])
def spec_l92Lines.B7 : List Nat := [0, 0, 0, 0, 8, 0, 32, 120, 0, 256, 1016, 0, 2048, 0, 8192, 30720, 0, 65536, 260096, 524280, 1, 1048579, 3145735, 8388607]
theorem spec_l92Lines.tab7 : rtab .any (opsOf Try.f46 7) = spec_l92Lines.T7 := by kernel_rfl
theorem spec_l92Lines.bits7 : waitsOk spec_l92Lines.T7.2 spec_l92Lines.B7 = true := by kernel_rfl
def spec_l92Lines.T9 : Bool × List (List Nat × List Nat) := (true, [([], []), ([], []), ([], []), ([2], [2]), ([3], [3]), ([], []), ([5], [5]), ([4, 6], [4, 6]), ([], []), ([8], [8]), ([9], [9]), ([], []), ([11], [11]), ([10, 12], [10, 12]), ([7, 13], [7, 13]), ([], []), ([15], [15]), ([16], [16]), ([], []), ([18], [18]), ([19], [19]), ([17, 20], [17, 20]), ([], []), ([22], [22]), ([23], [23]), ([], []), ([25], [25]), ([26], [26]), ([24, 27], [24, 27]), ([21, 28], [21, 28]), ([0, 0], [0]), ([1, 30, 0, 1, 30], [1]), ([14, 31, 0, 1, 2, 3, 4, 5, 6, 7, 8, 9, 10, 11, 12, 13, 14, 30, 31], [14]), ([29, 32, 0, 1, 2, 3, 4, 5, 6, 7, 8, 9, 10, 11, 12, 13, 14, 15, 16, 17, 18, 19, 20, 21, 22, 23, 24, 25, 26, 27, 28, 29, 30, 31, 32], [29])])
def spec_l92Lines.B9 : List Nat := [0, 0, 0, 4, 12, 0, 32, 124, 0, 256, 768, 0, 2048, 7936, 16380, 0, 32768, 98304, 0, 262144, 786432, 2064384, 0, 4194304, 12582912, 0, 33554432, 100663296, 264241152, 536838144, 1, 1073741827, 3221258239, 8589934591]
theorem spec_l92Lines.tab9 : rtab .any (opsOf Try.f46 9) = spec_l92Lines.T9 := by kernel_rfl
theorem spec_l92Lines.bits9 : waitsOk spec_l92Lines.T9.2 spec_l92Lines.B9 = true := by kernel_rfl
def spec_l92Lines.T11 : Bool × List (List Nat × List Nat) := (true, [([], []), ([], []), ([], []), ([], []), ([0, 0], [0]), ([1, 4, 0, 1, 4], [1]), ([2, 5, 0, 1, 2, 4, 5], [2]), ([3, 6, 0, 1, 2, 3, 4, 5, 6], [3])])
def spec_l92Lines.B11 : List Nat := [0, 0, 0, 0, 1, 19, 55, 127]
theorem spec_l92Lines.tab11 : rtab .any (opsOf Try.f46 11) = spec_l92Lines.T11 := by kernel_rfl
theorem spec_l92Lines.bits11 : waitsOk spec_l92Lines.T11.2 spec_l92Lines.B11 = true := by kernel_rfl
def spec_l92Lines.T12 : Bool × List (List Nat × List Nat) := (true, [([], []), ([], []), ([], []), ([], []), ([0, 0], [0]), ([1, 4, 0, 1, 4], [1]), ([2, 5, 0, 1, 2, 4, 5], [2]), ([3, 6, 0, 1, 2, 3, 4, 5, 6], [3])])
def spec_l92Lines.B12 : List Nat := [0, 0, 0, 0, 1, 19, 55, 127]
theorem spec_l92Lines.tab12 : rtab .any (opsOf Try.f46 12) = spec_l92Lines.T12 := by kernel_rfl
theorem spec_l92Lines.bits12 : waitsOk spec_l92Lines.T12.2 spec_l92Lines.B12 = true := by kernel_rfl
set_option maxHeartbeats 60000000 in
set_option maxRecDepth 100000 in
theorem spec_l92Lines.calls (k : Nat) (g : Nat) (s0_0 : List Int) (s0_1 : Int) (r1 : Int) (r2 : Int) (r3 : Int) (r4 : Int) (r5 : Int) (r6 : Int) (r7 : Int) (r8 : Int) (r9 : Int) (w0 w : World) (hI : IsS96 w0 w g s0_0 s0_1) (hB : Below w0.heap.size w0 w) (h : spec_l92Lines.f k s0_0 s0_1 = some (r1, r2, r3, r4, r5, r6, r7, r8, r9)) :
    Calls Try.prog 46 #[.pointer (some ⟨g, 0, none⟩)] w fun e w' => e = .returned (.tuple #[.agg #[.int .i64 r1, .int .i64 r2], .agg #[.int .i64 r3, .int .i64 r4], .agg #[.int .i64 r5, .int .i64 r6], .agg #[.int .i64 r7, .int .i64 r8]]) ∧ IsS96 w0 w' g s0_0 r9 ∧ Below w0.heap.size w0 w' ∧ KeepBut w w' g none := by
  have hu25 := Try.underlying25
  have HI0 := Aside0.mk hI
  have HK := Aside0.mk (KeepBut.refl w g none)
  have HL := Aside0.mk hB.size
  clear hI
  have HW0 := Aside0.mk hB.size
  have HB := Aside0.mk hB
  clear hB
  have H : ((spec_l91Point.f k s0_0 s0_1).bind fun bt367 => ((spec_l91Point.f k s0_0 bt367.2.2).bind fun bt371 => ((spec_l91Point.f k s0_0 bt371.2.2).bind fun bt375 => ((spec_l91Point.f k s0_0 bt375.2.2).bind fun bt379 => ((spec_l6Rd_pick.f k s0_0 bt379.2.2 6).bind fun bt383 => (if bt383.1 = 0 then (some (bt367.1, bt367.2.1, bt371.1, bt371.2.1, bt375.1, bt375.2.1, wrap64 ((wrap64 (bt375.1 + bt371.1)) - bt367.1), wrap64 ((wrap64 (bt375.2.1 + bt371.2.1)) - bt367.2.1), bt383.2)) else (if bt383.1 = 1 then (some (bt367.1, bt367.2.1, bt371.1, bt371.2.1, wrap64 ((wrap64 (2 * bt367.1)) - bt371.1), wrap64 ((wrap64 (2 * bt367.2.1)) - bt371.2.1), wrap64 ((wrap64 (3 * bt371.1)) - (wrap64 (2 * bt367.1))), wrap64 ((wrap64 (3 * bt371.2.1)) - (wrap64 (2 * bt367.2.1))), bt383.2)) else (if bt383.1 = 2 then (some (bt367.1, bt367.2.1, bt371.1, bt371.2.1, bt371.1, bt371.2.1, bt379.1, bt379.2.1, bt383.2)) else (some (bt367.1, bt367.2.1, bt371.1, bt371.2.1, bt375.1, bt375.2.1, bt379.1, bt379.2.1, bt383.2)))))))))) = some (r1, r2, r3, r4, r5, r6, r7, r8, r9) := h
  clear h
  replace H := Option.bind_eq_some_iff.mp H
  obtain ⟨⟨t367, t368, t369⟩, A20, H⟩ := H
  replace H : ((spec_l91Point.f k s0_0 t369).bind fun bt371 => ((spec_l91Point.f k s0_0 bt371.2.2).bind fun bt375 => ((spec_l91Point.f k s0_0 bt375.2.2).bind fun bt379 => ((spec_l6Rd_pick.f k s0_0 bt379.2.2 6).bind fun bt383 => (if bt383.1 = 0 then (some (t367, t368, bt371.1, bt371.2.1, bt375.1, bt375.2.1, wrap64 ((wrap64 (bt375.1 + bt371.1)) - t367), wrap64 ((wrap64 (bt375.2.1 + bt371.2.1)) - t368), bt383.2)) else (if bt383.1 = 1 then (some (t367, t368, bt371.1, bt371.2.1, wrap64 ((wrap64 (2 * t367)) - bt371.1), wrap64 ((wrap64 (2 * t368)) - bt371.2.1), wrap64 ((wrap64 (3 * bt371.1)) - (wrap64 (2 * t367))), wrap64 ((wrap64 (3 * bt371.2.1)) - (wrap64 (2 * t368))), bt383.2)) else (if bt383.1 = 2 then (some (t367, t368, bt371.1, bt371.2.1, bt371.1, bt371.2.1, bt379.1, bt379.2.1, bt383.2)) else (some (t367, t368, bt371.1, bt371.2.1, bt375.1, bt375.2.1, bt379.1, bt379.2.1, bt383.2))))))))) = some (r1, r2, r3, r4, r5, r6, r7, r8, r9) := H
  have A2 := Aside0.mk A20
  clear A20
  replace H := Option.bind_eq_some_iff.mp H
  obtain ⟨⟨t371, t372, t373⟩, A30, H⟩ := H
  replace H : ((spec_l91Point.f k s0_0 t373).bind fun bt375 => ((spec_l91Point.f k s0_0 bt375.2.2).bind fun bt379 => ((spec_l6Rd_pick.f k s0_0 bt379.2.2 6).bind fun bt383 => (if bt383.1 = 0 then (some (t367, t368, t371, t372, bt375.1, bt375.2.1, wrap64 ((wrap64 (bt375.1 + t371)) - t367), wrap64 ((wrap64 (bt375.2.1 + t372)) - t368), bt383.2)) else (if bt383.1 = 1 then (some (t367, t368, t371, t372, wrap64 ((wrap64 (2 * t367)) - t371), wrap64 ((wrap64 (2 * t368)) - t372), wrap64 ((wrap64 (3 * t371)) - (wrap64 (2 * t367))), wrap64 ((wrap64 (3 * t372)) - (wrap64 (2 * t368))), bt383.2)) else (if bt383.1 = 2 then (some (t367, t368, t371, t372, t371, t372, bt379.1, bt379.2.1, bt383.2)) else (some (t367, t368, t371, t372, bt375.1, bt375.2.1, bt379.1, bt379.2.1, bt383.2)))))))) = some (r1, r2, r3, r4, r5, r6, r7, r8, r9) := H
  have A3 := Aside0.mk A30
  clear A30
  replace H := Option.bind_eq_some_iff.mp H
  obtain ⟨⟨t375, t376, t377⟩, A40, H⟩ := H
  replace H : ((spec_l91Point.f k s0_0 t377).bind fun bt379 => ((spec_l6Rd_pick.f k s0_0 bt379.2.2 6).bind fun bt383 => (if bt383.1 = 0 then (some (t367, t368, t371, t372, t375, t376, wrap64 ((wrap64 (t375 + t371)) - t367), wrap64 ((wrap64 (t376 + t372)) - t368), bt383.2)) else (if bt383.1 = 1 then (some (t367, t368, t371, t372, wrap64 ((wrap64 (2 * t367)) - t371), wrap64 ((wrap64 (2 * t368)) - t372), wrap64 ((wrap64 (3 * t371)) - (wrap64 (2 * t367))), wrap64 ((wrap64 (3 * t372)) - (wrap64 (2 * t368))), bt383.2)) else (if bt383.1 = 2 then (some (t367, t368, t371, t372, t371, t372, bt379.1, bt379.2.1, bt383.2)) else (some (t367, t368, t371, t372, t375, t376, bt379.1, bt379.2.1, bt383.2))))))) = some (r1, r2, r3, r4, r5, r6, r7, r8, r9) := H
  have A4 := Aside0.mk A40
  clear A40
  replace H := Option.bind_eq_some_iff.mp H
  obtain ⟨⟨t379, t380, t381⟩, A50, H⟩ := H
  replace H : ((spec_l6Rd_pick.f k s0_0 t381 6).bind fun bt383 => (if bt383.1 = 0 then (some (t367, t368, t371, t372, t375, t376, wrap64 ((wrap64 (t375 + t371)) - t367), wrap64 ((wrap64 (t376 + t372)) - t368), bt383.2)) else (if bt383.1 = 1 then (some (t367, t368, t371, t372, wrap64 ((wrap64 (2 * t367)) - t371), wrap64 ((wrap64 (2 * t368)) - t372), wrap64 ((wrap64 (3 * t371)) - (wrap64 (2 * t367))), wrap64 ((wrap64 (3 * t372)) - (wrap64 (2 * t368))), bt383.2)) else (if bt383.1 = 2 then (some (t367, t368, t371, t372, t371, t372, t379, t380, bt383.2)) else (some (t367, t368, t371, t372, t375, t376, t379, t380, bt383.2)))))) = some (r1, r2, r3, r4, r5, r6, r7, r8, r9) := H
  have A5 := Aside0.mk A50
  clear A50
  replace H := Option.bind_eq_some_iff.mp H
  obtain ⟨⟨t383, t384⟩, A60, H⟩ := H
  replace H : (if t383 = 0 then (some (t367, t368, t371, t372, t375, t376, wrap64 ((wrap64 (t375 + t371)) - t367), wrap64 ((wrap64 (t376 + t372)) - t368), t384)) else (if t383 = 1 then (some (t367, t368, t371, t372, wrap64 ((wrap64 (2 * t367)) - t371), wrap64 ((wrap64 (2 * t368)) - t372), wrap64 ((wrap64 (3 * t371)) - (wrap64 (2 * t367))), wrap64 ((wrap64 (3 * t372)) - (wrap64 (2 * t368))), t384)) else (if t383 = 2 then (some (t367, t368, t371, t372, t371, t372, t379, t380, t384)) else (some (t367, t368, t371, t372, t375, t376, t379, t380, t384))))) = some (r1, r2, r3, r4, r5, r6, r7, r8, r9) := H
  have A6 := Aside0.mk A60
  clear A60
  go_enter Try.func46, Try.ntmps46
  go_upto_region 6 with (first | ((with_reducible refine gate_dst (N := 2) rfl ?_); refine box_event ?hg (N := 2) ?hd (cs := #[.int .i64 0, .int .i64 0]) (t := 25) ?hr ?_; (case hd => rfl); (case hg => rfl); (case hr => first | (go_simp; done) | (go_simp; rfl)); intro gb363 hg w8 hbox hb; have n0_ := Aside0.mk (IsS96.below (by repeat (first | (with_reducible first | exact HI0.out | apply IsS96.alloc | apply IsS96.drewN | apply IsS96.drew | apply IsS96.set_1) | exact HI0.out)) hb); have n1_ := Aside0.mk (KeepBut.trans (by repeat (first | (with_reducible first | exact HK.out | apply KeepBut.set_ | apply keep_drewN | apply keep_drew | apply keep_alloc) | exact HK.out)) (KeepBut.of_below hb g none) (.inl rfl)); have n2_ := Aside0.mk (below_step (by repeat (first | (with_reducible first | exact HB.out | apply below_alloc | apply pw_below_drewN | apply below_drew1 | refine below_set ?_ (IsS96.ge HI0.out)) | exact HB.out)) hb); have n3_ := Aside0.mk (hbox); have n4_ := Aside0.mk ((by rw [hg]; exact (keep_size (w := w) (g := g) (row := none) (by repeat (first | (with_reducible first | exact HK.out | apply KeepBut.set_ | apply keep_drewN | apply keep_drew | apply keep_alloc) | exact HK.out))) : w.heap.size ≤ gb363)); have n5_ := Aside0.mk ((Nat.le_trans HW0.out (by rw [hg]; exact (keep_size (w := w) (g := g) (row := none) (by repeat (first | (with_reducible first | exact HK.out | apply KeepBut.set_ | apply keep_drewN | apply keep_drew | apply keep_alloc) | exact HK.out))) : w.heap.size ≤ gb363) : w0.heap.size ≤ gb363)); have n6_ := Aside0.mk ((by rw [hg]; exact Nat.ne_of_lt (IsS96.lt (show IsS96 w0 _ g s0_0 s0_1 from by repeat (first | (with_reducible first | exact HI0.out | apply IsS96.alloc | apply IsS96.drewN | apply IsS96.drew | apply IsS96.set_1) | exact HI0.out))) : g ≠ gb363)); have n7_ := Aside0.mk ((by rw [hg]; exact Nat.ne_of_gt (IsS96.lt (show IsS96 w0 _ g s0_0 s0_1 from by repeat (first | (with_reducible first | exact HI0.out | apply IsS96.alloc | apply IsS96.drewN | apply IsS96.drew | apply IsS96.set_1) | exact HI0.out))) : gb363 ≠ g)); clear HI0; clear HK; clear HB; have HI0 := n0_; have HK := n1_; have HB := n2_; have BK363 := n3_; have GW363 := n4_; have GE363 := n5_; have NB0_363 := n6_; have NB363_0 := n7_; clear n0_ n1_ n2_ n3_ n4_ n5_ n6_ n7_; clear hb hbox hg) | ((with_reducible refine gate_dst (N := 3) rfl ?_); refine box_event ?hg (N := 3) ?hd (cs := #[.int .i64 0, .int .i64 0]) (t := 25) ?hr ?_; (case hd => rfl); (case hg => rfl); (case hr => first | (go_simp; done) | (go_simp; rfl)); intro gb364 hg w9 hbox hb; have n0_ := Aside0.mk (IsS96.below (by repeat (first | (with_reducible first | exact HI0.out | apply IsS96.alloc | apply IsS96.drewN | apply IsS96.drew | apply IsS96.set_1 | refine IsS96.far ?_ NB0_363.out _) | exact HI0.out)) hb); have n1_ := Aside0.mk (blk_below (bf BK363.out) hb); have n2_ := Aside0.mk (KeepBut.trans (by repeat (first | (with_reducible first | exact HK.out | apply KeepBut.set_ | apply keep_drewN | apply keep_drew | apply keep_alloc | refine keep_far ?_ GW363.out _) | exact HK.out)) (KeepBut.of_below hb g none) (.inl rfl)); have n3_ := Aside0.mk (below_step (by repeat (first | (with_reducible first | exact HB.out | apply below_alloc | apply pw_below_drewN | apply below_drew1 | refine below_set ?_ (IsS96.ge HI0.out) | refine below_set ?_ GE363.out) | exact HB.out)) hb); have n4_ := Aside0.mk (hbox); have n5_ := Aside0.mk ((by rw [hg]; exact (keep_size (w := w) (g := g) (row := none) (by repeat (first | (with_reducible first | exact HK.out | apply KeepBut.set_ | apply keep_drewN | apply keep_drew | apply keep_alloc | refine keep_far ?_ GW363.out _) | exact HK.out))) : w.heap.size ≤ gb364)); have n6_ := Aside0.mk ((Nat.le_trans HW0.out (by rw [hg]; exact (keep_size (w := w) (g := g) (row := none) (by repeat (first | (with_reducible first | exact HK.out | apply KeepBut.set_ | apply keep_drewN | apply keep_drew | apply keep_alloc | refine keep_far ?_ GW363.out _) | exact HK.out))) : w.heap.size ≤ gb364) : w0.heap.size ≤ gb364)); have n7_ := Aside0.mk ((by rw [hg]; exact Nat.ne_of_lt (blk_lt (bf BK363.out)) : gb363 ≠ gb364)); have n8_ := Aside0.mk ((by rw [hg]; exact Nat.ne_of_gt (blk_lt (bf BK363.out)) : gb364 ≠ gb363)); have n9_ := Aside0.mk ((by rw [hg]; exact Nat.ne_of_lt (IsS96.lt (show IsS96 w0 _ g s0_0 s0_1 from by repeat (first | (with_reducible first | exact HI0.out | apply IsS96.alloc | apply IsS96.drewN | apply IsS96.drew | apply IsS96.set_1 | refine IsS96.far ?_ NB0_363.out _) | exact HI0.out))) : g ≠ gb364)); have n10_ := Aside0.mk ((by rw [hg]; exact Nat.ne_of_gt (IsS96.lt (show IsS96 w0 _ g s0_0 s0_1 from by repeat (first | (with_reducible first | exact HI0.out | apply IsS96.alloc | apply IsS96.drewN | apply IsS96.drew | apply IsS96.set_1 | refine IsS96.far ?_ NB0_363.out _) | exact HI0.out))) : gb364 ≠ g)); clear HI0; clear BK363; clear HK; clear HB; have HI0 := n0_; have BK363 := n1_; have HK := n2_; have HB := n3_; have BK364 := n4_; have GW364 := n5_; have GE364 := n6_; have NB363_364 := n7_; have NB364_363 := n8_; have NB0_364 := n9_; have NB364_0 := n10_; clear n0_ n1_ n2_ n3_ n4_ n5_ n6_ n7_ n8_ n9_ n10_; clear hb hbox hg) | ((with_reducible refine gate_dst (N := 4) rfl ?_); refine box_event ?hg (N := 4) ?hd (cs := #[.int .i64 0, .int .i64 0]) (t := 25) ?hr ?_; (case hd => rfl); (case hg => rfl); (case hr => first | (go_simp; done) | (go_simp; rfl)); intro gb365 hg w10 hbox hb; have n0_ := Aside0.mk (IsS96.below (by repeat (first | (with_reducible first | exact HI0.out | apply IsS96.alloc | apply IsS96.drewN | apply IsS96.drew | apply IsS96.set_1 | refine IsS96.far ?_ NB0_363.out _ | refine IsS96.far ?_ NB0_364.out _) | exact HI0.out)) hb); have n1_ := Aside0.mk (blk_below (bf BK363.out) hb); have n2_ := Aside0.mk (blk_below (bf BK364.out) hb); have n3_ := Aside0.mk (KeepBut.trans (by repeat (first | (with_reducible first | exact HK.out | apply KeepBut.set_ | apply keep_drewN | apply keep_drew | apply keep_alloc | refine keep_far ?_ GW363.out _ | refine keep_far ?_ GW364.out _) | exact HK.out)) (KeepBut.of_below hb g none) (.inl rfl)); have n4_ := Aside0.mk (below_step (by repeat (first | (with_reducible first | exact HB.out | apply below_alloc | apply pw_below_drewN | apply below_drew1 | refine below_set ?_ (IsS96.ge HI0.out) | refine below_set ?_ GE363.out | refine below_set ?_ GE364.out) | exact HB.out)) hb); have n5_ := Aside0.mk (hbox); have n6_ := Aside0.mk ((by rw [hg]; exact (keep_size (w := w) (g := g) (row := none) (by repeat (first | (with_reducible first | exact HK.out | apply KeepBut.set_ | apply keep_drewN | apply keep_drew | apply keep_alloc | refine keep_far ?_ GW363.out _ | refine keep_far ?_ GW364.out _) | exact HK.out))) : w.heap.size ≤ gb365)); have n7_ := Aside0.mk ((Nat.le_trans HW0.out (by rw [hg]; exact (keep_size (w := w) (g := g) (row := none) (by repeat (first | (with_reducible first | exact HK.out | apply KeepBut.set_ | apply keep_drewN | apply keep_drew | apply keep_alloc | refine keep_far ?_ GW363.out _ | refine keep_far ?_ GW364.out _) | exact HK.out))) : w.heap.size ≤ gb365) : w0.heap.size ≤ gb365)); have n8_ := Aside0.mk ((by rw [hg]; exact Nat.ne_of_lt (blk_lt (bf BK363.out)) : gb363 ≠ gb365)); have n9_ := Aside0.mk ((by rw [hg]; exact Nat.ne_of_gt (blk_lt (bf BK363.out)) : gb365 ≠ gb363)); have n10_ := Aside0.mk ((by rw [hg]; exact Nat.ne_of_lt (blk_lt (bf BK364.out)) : gb364 ≠ gb365)); have n11_ := Aside0.mk ((by rw [hg]; exact Nat.ne_of_gt (blk_lt (bf BK364.out)) : gb365 ≠ gb364)); have n12_ := Aside0.mk ((by rw [hg]; exact Nat.ne_of_lt (IsS96.lt (show IsS96 w0 _ g s0_0 s0_1 from by repeat (first | (with_reducible first | exact HI0.out | apply IsS96.alloc | apply IsS96.drewN | apply IsS96.drew | apply IsS96.set_1 | refine IsS96.far ?_ NB0_363.out _ | refine IsS96.far ?_ NB0_364.out _) | exact HI0.out))) : g ≠ gb365)); have n13_ := Aside0.mk ((by rw [hg]; exact Nat.ne_of_gt (IsS96.lt (show IsS96 w0 _ g s0_0 s0_1 from by repeat (first | (with_reducible first | exact HI0.out | apply IsS96.alloc | apply IsS96.drewN | apply IsS96.drew | apply IsS96.set_1 | refine IsS96.far ?_ NB0_363.out _ | refine IsS96.far ?_ NB0_364.out _) | exact HI0.out))) : gb365 ≠ g)); clear HI0; clear BK363; clear BK364; clear HK; clear HB; have HI0 := n0_; have BK363 := n1_; have BK364 := n2_; have HK := n3_; have HB := n4_; have BK365 := n5_; have GW365 := n6_; have GE365 := n7_; have NB363_365 := n8_; have NB365_363 := n9_; have NB364_365 := n10_; have NB365_364 := n11_; have NB0_365 := n12_; have NB365_0 := n13_; clear n0_ n1_ n2_ n3_ n4_ n5_ n6_ n7_ n8_ n9_ n10_ n11_ n12_ n13_; clear hb hbox hg) | ((with_reducible refine gate_dst (N := 5) rfl ?_); refine box_event ?hg (N := 5) ?hd (cs := #[.int .i64 0, .int .i64 0]) (t := 25) ?hr ?_; (case hd => rfl); (case hg => rfl); (case hr => first | (go_simp; done) | (go_simp; rfl)); intro gb366 hg w11 hbox hb; have n0_ := Aside0.mk (IsS96.below (by repeat (first | (with_reducible first | exact HI0.out | apply IsS96.alloc | apply IsS96.drewN | apply IsS96.drew | apply IsS96.set_1 | refine IsS96.far ?_ NB0_363.out _ | refine IsS96.far ?_ NB0_364.out _ | refine IsS96.far ?_ NB0_365.out _) | exact HI0.out)) hb); have n1_ := Aside0.mk (blk_below (bf BK363.out) hb); have n2_ := Aside0.mk (blk_below (bf BK364.out) hb); have n3_ := Aside0.mk (blk_below (bf BK365.out) hb); have n4_ := Aside0.mk (KeepBut.trans (by repeat (first | (with_reducible first | exact HK.out | apply KeepBut.set_ | apply keep_drewN | apply keep_drew | apply keep_alloc | refine keep_far ?_ GW363.out _ | refine keep_far ?_ GW364.out _ | refine keep_far ?_ GW365.out _) | exact HK.out)) (KeepBut.of_below hb g none) (.inl rfl)); have n5_ := Aside0.mk (below_step (by repeat (first | (with_reducible first | exact HB.out | apply below_alloc | apply pw_below_drewN | apply below_drew1 | refine below_set ?_ (IsS96.ge HI0.out) | refine below_set ?_ GE363.out | refine below_set ?_ GE364.out | refine below_set ?_ GE365.out) | exact HB.out)) hb); have n6_ := Aside0.mk (hbox); have n7_ := Aside0.mk ((by rw [hg]; exact (keep_size (w := w) (g := g) (row := none) (by repeat (first | (with_reducible first | exact HK.out | apply KeepBut.set_ | apply keep_drewN | apply keep_drew | apply keep_alloc | refine keep_far ?_ GW363.out _ | refine keep_far ?_ GW364.out _ | refine keep_far ?_ GW365.out _) | exact HK.out))) : w.heap.size ≤ gb366)); have n8_ := Aside0.mk ((Nat.le_trans HW0.out (by rw [hg]; exact (keep_size (w := w) (g := g) (row := none) (by repeat (first | (with_reducible first | exact HK.out | apply KeepBut.set_ | apply keep_drewN | apply keep_drew | apply keep_alloc | refine keep_far ?_ GW363.out _ | refine keep_far ?_ GW364.out _ | refine keep_far ?_ GW365.out _) | exact HK.out))) : w.heap.size ≤ gb366) : w0.heap.size ≤ gb366)); have n9_ := Aside0.mk ((by rw [hg]; exact Nat.ne_of_lt (blk_lt (bf BK363.out)) : gb363 ≠ gb366)); have n10_ := Aside0.mk ((by rw [hg]; exact Nat.ne_of_gt (blk_lt (bf BK363.out)) : gb366 ≠ gb363)); have n11_ := Aside0.mk ((by rw [hg]; exact Nat.ne_of_lt (blk_lt (bf BK364.out)) : gb364 ≠ gb366)); have n12_ := Aside0.mk ((by rw [hg]; exact Nat.ne_of_gt (blk_lt (bf BK364.out)) : gb366 ≠ gb364)); have n13_ := Aside0.mk ((by rw [hg]; exact Nat.ne_of_lt (blk_lt (bf BK365.out)) : gb365 ≠ gb366)); have n14_ := Aside0.mk ((by rw [hg]; exact Nat.ne_of_gt (blk_lt (bf BK365.out)) : gb366 ≠ gb365)); have n15_ := Aside0.mk ((by rw [hg]; exact Nat.ne_of_lt (IsS96.lt (show IsS96 w0 _ g s0_0 s0_1 from by repeat (first | (with_reducible first | exact HI0.out | apply IsS96.alloc | apply IsS96.drewN | apply IsS96.drew | apply IsS96.set_1 | refine IsS96.far ?_ NB0_363.out _ | refine IsS96.far ?_ NB0_364.out _ | refine IsS96.far ?_ NB0_365.out _) | exact HI0.out))) : g ≠ gb366)); have n16_ := Aside0.mk ((by rw [hg]; exact Nat.ne_of_gt (IsS96.lt (show IsS96 w0 _ g s0_0 s0_1 from by repeat (first | (with_reducible first | exact HI0.out | apply IsS96.alloc | apply IsS96.drewN | apply IsS96.drew | apply IsS96.set_1 | refine IsS96.far ?_ NB0_363.out _ | refine IsS96.far ?_ NB0_364.out _ | refine IsS96.far ?_ NB0_365.out _) | exact HI0.out))) : gb366 ≠ g)); clear HI0; clear BK363; clear BK364; clear BK365; clear HK; clear HB; have HI0 := n0_; have BK363 := n1_; have BK364 := n2_; have BK365 := n3_; have HK := n4_; have HB := n5_; have BK366 := n6_; have GW366 := n7_; have GE366 := n8_; have NB363_366 := n9_; have NB366_363 := n10_; have NB364_366 := n11_; have NB366_364 := n12_; have NB365_366 := n13_; have NB366_365 := n14_; have NB0_366 := n15_; have NB366_0 := n16_; clear n0_ n1_ n2_ n3_ n4_ n5_ n6_ n7_ n8_ n9_ n10_ n11_ n12_ n13_ n14_ n15_ n16_; clear hb hbox hg) | ((with_reducible refine gate_callee (f := 75) rfl ?_); refine goesL_ (some 11) rfl rfl Try.func75 (by kernel_rfl) rfl #[.pointer (some ⟨g, 0, none⟩)] rfl al ?_; (with_reducible refine (spec_l91Point.calls k g s0_0 s0_1 t367 t368 t369 w0 _ ?side1 ?side2 A2.out).mono ?_); (case side1 => repeat (first | (with_reducible first | exact HI0.out | apply IsS96.alloc | apply IsS96.drewN | apply IsS96.drew | apply IsS96.set_1 | refine IsS96.far ?_ NB0_363.out _ | refine IsS96.far ?_ NB0_364.out _ | refine IsS96.far ?_ NB0_365.out _ | refine IsS96.far ?_ NB0_366.out _) | exact HI0.out)); (case side2 => repeat (first | (with_reducible first | exact HB.out | apply below_alloc | apply pw_below_drewN | apply below_drew1 | refine below_set ?_ (IsS96.ge HI0.out) | refine below_set ?_ GE363.out | refine below_set ?_ GE364.out | refine below_set ?_ GE365.out | refine below_set ?_ GE366.out) | exact HB.out)); rintro e w12 ⟨rfl, hi, hb, hk⟩; refine ⟨_, rfl, ?_⟩; have n0_ := Aside0.mk (KeepBut.blk hk (g' := gb363) (o := .cells #[.int .i64 0, .int .i64 0] 25 (0, 0)) (bf BK363.out) NB363_0.out (by simp)); have n1_ := Aside0.mk (KeepBut.blk hk (g' := gb364) (o := .cells #[.int .i64 0, .int .i64 0] 25 (0, 0)) (bf BK364.out) NB364_0.out (by simp)); have n2_ := Aside0.mk (KeepBut.blk hk (g' := gb365) (o := .cells #[.int .i64 0, .int .i64 0] 25 (0, 0)) (bf BK365.out) NB365_0.out (by simp)); have n3_ := Aside0.mk (KeepBut.blk hk (g' := gb366) (o := .cells #[.int .i64 0, .int .i64 0] 25 (0, 0)) (bf BK366.out) NB366_0.out (by simp)); have n4_ := Aside0.mk (KeepBut.trans (by repeat (first | (with_reducible first | exact HK.out | apply KeepBut.set_ | apply keep_drewN | apply keep_drew | apply keep_alloc | refine keep_far ?_ GW363.out _ | refine keep_far ?_ GW364.out _ | refine keep_far ?_ GW365.out _ | refine keep_far ?_ GW366.out _) | exact HK.out)) hk (.inl rfl)); have n5_ := Aside0.mk (hb); have n6_ := Aside0.mk (hi); clear BK363; clear BK364; clear BK365; clear BK366; clear HK; clear HB; clear HI0; have BK363 := n0_; have BK364 := n1_; have BK365 := n2_; have BK366 := n3_; have HK := n4_; have HB := n5_; have HI0 := n6_; clear n0_ n1_ n2_ n3_ n4_ n5_ n6_; (try clear hb); (try clear hb2); (try clear hk); (try clear hi)) | ((with_reducible refine gate_dst (N := 6) rfl ?_); refine box_event ?hg (N := 6) ?hd (cs := #[.int .i64 0, .int .i64 0]) (t := 25) ?hr ?_; (case hd => rfl); (case hg => rfl); (case hr => first | (go_simp; done) | (go_simp; rfl)); intro gb370 hg w13 hbox hb; have n0_ := Aside0.mk (IsS96.below (by repeat (first | (with_reducible first | exact HI0.out | apply IsS96.alloc | apply IsS96.drewN | apply IsS96.drew | apply IsS96.set_1 | refine IsS96.far ?_ NB0_363.out _ | refine IsS96.far ?_ NB0_364.out _ | refine IsS96.far ?_ NB0_365.out _ | refine IsS96.far ?_ NB0_366.out _) | exact HI0.out)) hb); have n1_ := Aside0.mk (blk_below (bf BK363.out) hb); have n2_ := Aside0.mk (blk_below (bf BK364.out) hb); have n3_ := Aside0.mk (blk_below (bf BK365.out) hb); have n4_ := Aside0.mk (blk_below (bf BK366.out) hb); have n5_ := Aside0.mk (KeepBut.trans (by repeat (first | (with_reducible first | exact HK.out | apply KeepBut.set_ | apply keep_drewN | apply keep_drew | apply keep_alloc | refine keep_far ?_ GW363.out _ | refine keep_far ?_ GW364.out _ | refine keep_far ?_ GW365.out _ | refine keep_far ?_ GW366.out _) | exact HK.out)) (KeepBut.of_below hb g none) (.inl rfl)); have n6_ := Aside0.mk (below_step (by repeat (first | (with_reducible first | exact HB.out | apply below_alloc | apply pw_below_drewN | apply below_drew1 | refine below_set ?_ (IsS96.ge HI0.out) | refine below_set ?_ GE363.out | refine below_set ?_ GE364.out | refine below_set ?_ GE365.out | refine below_set ?_ GE366.out) | exact HB.out)) hb); have n7_ := Aside0.mk (hbox); have n8_ := Aside0.mk ((by rw [hg]; exact (keep_size (w := w) (g := g) (row := none) (by repeat (first | (with_reducible first | exact HK.out | apply KeepBut.set_ | apply keep_drewN | apply keep_drew | apply keep_alloc | refine keep_far ?_ GW363.out _ | refine keep_far ?_ GW364.out _ | refine keep_far ?_ GW365.out _ | refine keep_far ?_ GW366.out _) | exact HK.out))) : w.heap.size ≤ gb370)); have n9_ := Aside0.mk ((Nat.le_trans HW0.out (by rw [hg]; exact (keep_size (w := w) (g := g) (row := none) (by repeat (first | (with_reducible first | exact HK.out | apply KeepBut.set_ | apply keep_drewN | apply keep_drew | apply keep_alloc | refine keep_far ?_ GW363.out _ | refine keep_far ?_ GW364.out _ | refine keep_far ?_ GW365.out _ | refine keep_far ?_ GW366.out _) | exact HK.out))) : w.heap.size ≤ gb370) : w0.heap.size ≤ gb370)); have n10_ := Aside0.mk ((by rw [hg]; exact Nat.ne_of_lt (blk_lt (bf BK363.out)) : gb363 ≠ gb370)); have n11_ := Aside0.mk ((by rw [hg]; exact Nat.ne_of_gt (blk_lt (bf BK363.out)) : gb370 ≠ gb363)); have n12_ := Aside0.mk ((by rw [hg]; exact Nat.ne_of_lt (blk_lt (bf BK364.out)) : gb364 ≠ gb370)); have n13_ := Aside0.mk ((by rw [hg]; exact Nat.ne_of_gt (blk_lt (bf BK364.out)) : gb370 ≠ gb364)); have n14_ := Aside0.mk ((by rw [hg]; exact Nat.ne_of_lt (blk_lt (bf BK365.out)) : gb365 ≠ gb370)); have n15_ := Aside0.mk ((by rw [hg]; exact Nat.ne_of_gt (blk_lt (bf BK365.out)) : gb370 ≠ gb365)); have n16_ := Aside0.mk ((by rw [hg]; exact Nat.ne_of_lt (blk_lt (bf BK366.out)) : gb366 ≠ gb370)); have n17_ := Aside0.mk ((by rw [hg]; exact Nat.ne_of_gt (blk_lt (bf BK366.out)) : gb370 ≠ gb366)); have n18_ := Aside0.mk ((by rw [hg]; exact Nat.ne_of_lt (IsS96.lt (show IsS96 w0 _ g s0_0 t369 from by repeat (first | (with_reducible first | exact HI0.out | apply IsS96.alloc | apply IsS96.drewN | apply IsS96.drew | apply IsS96.set_1 | refine IsS96.far ?_ NB0_363.out _ | refine IsS96.far ?_ NB0_364.out _ | refine IsS96.far ?_ NB0_365.out _ | refine IsS96.far ?_ NB0_366.out _) | exact HI0.out))) : g ≠ gb370)); have n19_ := Aside0.mk ((by rw [hg]; exact Nat.ne_of_gt (IsS96.lt (show IsS96 w0 _ g s0_0 t369 from by repeat (first | (with_reducible first | exact HI0.out | apply IsS96.alloc | apply IsS96.drewN | apply IsS96.drew | apply IsS96.set_1 | refine IsS96.far ?_ NB0_363.out _ | refine IsS96.far ?_ NB0_364.out _ | refine IsS96.far ?_ NB0_365.out _ | refine IsS96.far ?_ NB0_366.out _) | exact HI0.out))) : gb370 ≠ g)); clear HI0; clear BK363; clear BK364; clear BK365; clear BK366; clear HK; clear HB; have HI0 := n0_; have BK363 := n1_; have BK364 := n2_; have BK365 := n3_; have BK366 := n4_; have HK := n5_; have HB := n6_; have BK370 := n7_; have GW370 := n8_; have GE370 := n9_; have NB363_370 := n10_; have NB370_363 := n11_; have NB364_370 := n12_; have NB370_364 := n13_; have NB365_370 := n14_; have NB370_365 := n15_; have NB366_370 := n16_; have NB370_366 := n17_; have NB0_370 := n18_; have NB370_0 := n19_; clear n0_ n1_ n2_ n3_ n4_ n5_ n6_ n7_ n8_ n9_ n10_ n11_ n12_ n13_ n14_ n15_ n16_ n17_ n18_ n19_; clear hb hbox hg; have hnb14 := NB370_363.out; have hnc14 := NB363_370.out; have hnb15 := NB370_364.out; have hnc15 := NB364_370.out; have hnb16 := NB370_365.out; have hnc16 := NB365_370.out; have hnb17 := NB370_366.out; have hnc17 := NB366_370.out; have hnb18 := NB370_0.out; have hnc18 := NB0_370.out; have hcz19_0 : w13.cell? ⟨gb370, 0, none⟩ = some (.int .i64 0) := (blk_cell BK370.out 0).trans rfl; have hcz19_1 : w13.cell? ⟨gb370, 1, none⟩ = some (.int .i64 0) := (blk_cell BK370.out 1).trans rfl; have hfz19_0 := blk_frozen BK370.out 0; have hfz19_1 := blk_frozen BK370.out 1) | ((with_reducible refine gate_callee (f := 75) rfl ?_); refine goesL_ (some 13) rfl rfl Try.func75 (by kernel_rfl) rfl #[.pointer (some ⟨g, 0, none⟩)] rfl al ?_; (with_reducible refine (spec_l91Point.calls k g s0_0 t369 t371 t372 t373 w0 _ ?side1 ?side2 A3.out).mono ?_); (case side1 => repeat (first | (with_reducible first | exact HI0.out | apply IsS96.alloc | apply IsS96.drewN | apply IsS96.drew | apply IsS96.set_1 | refine IsS96.far ?_ NB0_363.out _ | refine IsS96.far ?_ NB0_364.out _ | refine IsS96.far ?_ NB0_365.out _ | refine IsS96.far ?_ NB0_366.out _ | refine IsS96.far ?_ NB0_370.out _) | exact HI0.out)); (case side2 => repeat (first | (with_reducible first | exact HB.out | apply below_alloc | apply pw_below_drewN | apply below_drew1 | refine below_set ?_ (IsS96.ge HI0.out) | refine below_set ?_ GE363.out | refine below_set ?_ GE364.out | refine below_set ?_ GE365.out | refine below_set ?_ GE366.out | refine below_set ?_ GE370.out) | exact HB.out)); rintro e w20 ⟨rfl, hi, hb, hk⟩; refine ⟨_, rfl, ?_⟩; have n0_ := Aside0.mk (KeepBut.blk hk (g' := gb363) (o := .cells #[.int .i64 0, .int .i64 0] 25 (0, 0)) (bf BK363.out) NB363_0.out (by simp)); have n1_ := Aside0.mk (KeepBut.blk hk (g' := gb364) (o := .cells #[.int .i64 0, .int .i64 0] 25 (0, 0)) (bf BK364.out) NB364_0.out (by simp)); have n2_ := Aside0.mk (KeepBut.blk hk (g' := gb365) (o := .cells #[.int .i64 0, .int .i64 0] 25 (0, 0)) (bf BK365.out) NB365_0.out (by simp)); have n3_ := Aside0.mk (KeepBut.blk hk (g' := gb366) (o := .cells #[.int .i64 0, .int .i64 0] 25 (0, 0)) (bf BK366.out) NB366_0.out (by simp)); have n4_ := Aside0.mk (KeepBut.blk hk (g' := gb370) (o := .cells #[.int .i64 t367, .int .i64 t368] 25 (0, 0)) (by (with_reducible repeat (first | refine blk_drewN ?_ _ | refine blk_drew ?_ | refine blk_alloc ?_ _)); refine blk_put (cs := #[.int .i64 t367, .int .i64 0]) ?_ 1 _ rfl; (with_reducible repeat (first | refine blk_drewN ?_ _ | refine blk_drew ?_ | refine blk_alloc ?_ _)); refine blk_put (cs := #[.int .i64 0, .int .i64 0]) ?_ 0 _ rfl; (with_reducible repeat (first | refine blk_drewN ?_ _ | refine blk_drew ?_ | refine blk_alloc ?_ _)); exact BK370.out) NB370_0.out (by simp)); have n5_ := Aside0.mk (KeepBut.trans (by repeat (first | (with_reducible first | exact HK.out | apply KeepBut.set_ | apply keep_drewN | apply keep_drew | apply keep_alloc | refine keep_far ?_ GW363.out _ | refine keep_far ?_ GW364.out _ | refine keep_far ?_ GW365.out _ | refine keep_far ?_ GW366.out _ | refine keep_far ?_ GW370.out _) | exact HK.out)) hk (.inl rfl)); have n6_ := Aside0.mk (hb); have n7_ := Aside0.mk (hi); clear BK363; clear BK364; clear BK365; clear BK366; clear BK370; clear HK; clear HB; clear HI0; have BK363 := n0_; have BK364 := n1_; have BK365 := n2_; have BK366 := n3_; have BK370 := n4_; have HK := n5_; have HB := n6_; have HI0 := n7_; clear n0_ n1_ n2_ n3_ n4_ n5_ n6_ n7_; (try clear hb); (try clear hb2); (try clear hk); (try clear hi)) | ((with_reducible refine gate_dst (N := 7) rfl ?_); refine box_event ?hg (N := 7) ?hd (cs := #[.int .i64 0, .int .i64 0]) (t := 25) ?hr ?_; (case hd => rfl); (case hg => rfl); (case hr => first | (go_simp; done) | (go_simp; rfl)); intro gb374 hg w21 hbox hb; have n0_ := Aside0.mk (IsS96.below (by repeat (first | (with_reducible first | exact HI0.out | apply IsS96.alloc | apply IsS96.drewN | apply IsS96.drew | apply IsS96.set_1 | refine IsS96.far ?_ NB0_363.out _ | refine IsS96.far ?_ NB0_364.out _ | refine IsS96.far ?_ NB0_365.out _ | refine IsS96.far ?_ NB0_366.out _ | refine IsS96.far ?_ NB0_370.out _) | exact HI0.out)) hb); have n1_ := Aside0.mk (blk_below (bf BK363.out) hb); have n2_ := Aside0.mk (blk_below (bf BK364.out) hb); have n3_ := Aside0.mk (blk_below (bf BK365.out) hb); have n4_ := Aside0.mk (blk_below (bf BK366.out) hb); have n5_ := Aside0.mk (blk_below (bf BK370.out) hb); have n6_ := Aside0.mk (KeepBut.trans (by repeat (first | (with_reducible first | exact HK.out | apply KeepBut.set_ | apply keep_drewN | apply keep_drew | apply keep_alloc | refine keep_far ?_ GW363.out _ | refine keep_far ?_ GW364.out _ | refine keep_far ?_ GW365.out _ | refine keep_far ?_ GW366.out _ | refine keep_far ?_ GW370.out _) | exact HK.out)) (KeepBut.of_below hb g none) (.inl rfl)); have n7_ := Aside0.mk (below_step (by repeat (first | (with_reducible first | exact HB.out | apply below_alloc | apply pw_below_drewN | apply below_drew1 | refine below_set ?_ (IsS96.ge HI0.out) | refine below_set ?_ GE363.out | refine below_set ?_ GE364.out | refine below_set ?_ GE365.out | refine below_set ?_ GE366.out | refine below_set ?_ GE370.out) | exact HB.out)) hb); have n8_ := Aside0.mk (hbox); have n9_ := Aside0.mk ((by rw [hg]; exact (keep_size (w := w) (g := g) (row := none) (by repeat (first | (with_reducible first | exact HK.out | apply KeepBut.set_ | apply keep_drewN | apply keep_drew | apply keep_alloc | refine keep_far ?_ GW363.out _ | refine keep_far ?_ GW364.out _ | refine keep_far ?_ GW365.out _ | refine keep_far ?_ GW366.out _ | refine keep_far ?_ GW370.out _) | exact HK.out))) : w.heap.size ≤ gb374)); have n10_ := Aside0.mk ((Nat.le_trans HW0.out (by rw [hg]; exact (keep_size (w := w) (g := g) (row := none) (by repeat (first | (with_reducible first | exact HK.out | apply KeepBut.set_ | apply keep_drewN | apply keep_drew | apply keep_alloc | refine keep_far ?_ GW363.out _ | refine keep_far ?_ GW364.out _ | refine keep_far ?_ GW365.out _ | refine keep_far ?_ GW366.out _ | refine keep_far ?_ GW370.out _) | exact HK.out))) : w.heap.size ≤ gb374) : w0.heap.size ≤ gb374)); have n11_ := Aside0.mk ((by rw [hg]; exact Nat.ne_of_lt (blk_lt (bf BK363.out)) : gb363 ≠ gb374)); have n12_ := Aside0.mk ((by rw [hg]; exact Nat.ne_of_gt (blk_lt (bf BK363.out)) : gb374 ≠ gb363)); have n13_ := Aside0.mk ((by rw [hg]; exact Nat.ne_of_lt (blk_lt (bf BK364.out)) : gb364 ≠ gb374)); have n14_ := Aside0.mk ((by rw [hg]; exact Nat.ne_of_gt (blk_lt (bf BK364.out)) : gb374 ≠ gb364)); have n15_ := Aside0.mk ((by rw [hg]; exact Nat.ne_of_lt (blk_lt (bf BK365.out)) : gb365 ≠ gb374)); have n16_ := Aside0.mk ((by rw [hg]; exact Nat.ne_of_gt (blk_lt (bf BK365.out)) : gb374 ≠ gb365)); have n17_ := Aside0.mk ((by rw [hg]; exact Nat.ne_of_lt (blk_lt (bf BK366.out)) : gb366 ≠ gb374)); have n18_ := Aside0.mk ((by rw [hg]; exact Nat.ne_of_gt (blk_lt (bf BK366.out)) : gb374 ≠ gb366)); have n19_ := Aside0.mk ((by rw [hg]; exact Nat.ne_of_lt (blk_lt (bf BK370.out)) : gb370 ≠ gb374)); have n20_ := Aside0.mk ((by rw [hg]; exact Nat.ne_of_gt (blk_lt (bf BK370.out)) : gb374 ≠ gb370)); have n21_ := Aside0.mk ((by rw [hg]; exact Nat.ne_of_lt (IsS96.lt (show IsS96 w0 _ g s0_0 t373 from by repeat (first | (with_reducible first | exact HI0.out | apply IsS96.alloc | apply IsS96.drewN | apply IsS96.drew | apply IsS96.set_1 | refine IsS96.far ?_ NB0_363.out _ | refine IsS96.far ?_ NB0_364.out _ | refine IsS96.far ?_ NB0_365.out _ | refine IsS96.far ?_ NB0_366.out _ | refine IsS96.far ?_ NB0_370.out _) | exact HI0.out))) : g ≠ gb374)); have n22_ := Aside0.mk ((by rw [hg]; exact Nat.ne_of_gt (IsS96.lt (show IsS96 w0 _ g s0_0 t373 from by repeat (first | (with_reducible first | exact HI0.out | apply IsS96.alloc | apply IsS96.drewN | apply IsS96.drew | apply IsS96.set_1 | refine IsS96.far ?_ NB0_363.out _ | refine IsS96.far ?_ NB0_364.out _ | refine IsS96.far ?_ NB0_365.out _ | refine IsS96.far ?_ NB0_366.out _ | refine IsS96.far ?_ NB0_370.out _) | exact HI0.out))) : gb374 ≠ g)); clear HI0; clear BK363; clear BK364; clear BK365; clear BK366; clear BK370; clear HK; clear HB; have HI0 := n0_; have BK363 := n1_; have BK364 := n2_; have BK365 := n3_; have BK366 := n4_; have BK370 := n5_; have HK := n6_; have HB := n7_; have BK374 := n8_; have GW374 := n9_; have GE374 := n10_; have NB363_374 := n11_; have NB374_363 := n12_; have NB364_374 := n13_; have NB374_364 := n14_; have NB365_374 := n15_; have NB374_365 := n16_; have NB366_374 := n17_; have NB374_366 := n18_; have NB370_374 := n19_; have NB374_370 := n20_; have NB0_374 := n21_; have NB374_0 := n22_; clear n0_ n1_ n2_ n3_ n4_ n5_ n6_ n7_ n8_ n9_ n10_ n11_ n12_ n13_ n14_ n15_ n16_ n17_ n18_ n19_ n20_ n21_ n22_; clear hb hbox hg; have hnb22 := NB374_363.out; have hnc22 := NB363_374.out; have hnb23 := NB374_364.out; have hnc23 := NB364_374.out; have hnb24 := NB374_365.out; have hnc24 := NB365_374.out; have hnb25 := NB374_366.out; have hnc25 := NB366_374.out; have hnb26 := NB374_370.out; have hnc26 := NB370_374.out; have hnb27 := NB374_0.out; have hnc27 := NB0_374.out; have hcz28_0 : w21.cell? ⟨gb374, 0, none⟩ = some (.int .i64 0) := (blk_cell BK374.out 0).trans rfl; have hcz28_1 : w21.cell? ⟨gb374, 1, none⟩ = some (.int .i64 0) := (blk_cell BK374.out 1).trans rfl; have hfz28_0 := blk_frozen BK374.out 0; have hfz28_1 := blk_frozen BK374.out 1) | ((with_reducible refine gate_callee (f := 75) rfl ?_); refine goesL_ (some 15) rfl rfl Try.func75 (by kernel_rfl) rfl #[.pointer (some ⟨g, 0, none⟩)] rfl al ?_; (with_reducible refine (spec_l91Point.calls k g s0_0 t373 t375 t376 t377 w0 _ ?side1 ?side2 A4.out).mono ?_); (case side1 => repeat (first | (with_reducible first | exact HI0.out | apply IsS96.alloc | apply IsS96.drewN | apply IsS96.drew | apply IsS96.set_1 | refine IsS96.far ?_ NB0_363.out _ | refine IsS96.far ?_ NB0_364.out _ | refine IsS96.far ?_ NB0_365.out _ | refine IsS96.far ?_ NB0_366.out _ | refine IsS96.far ?_ NB0_370.out _ | refine IsS96.far ?_ NB0_374.out _) | exact HI0.out)); (case side2 => repeat (first | (with_reducible first | exact HB.out | apply below_alloc | apply pw_below_drewN | apply below_drew1 | refine below_set ?_ (IsS96.ge HI0.out) | refine below_set ?_ GE363.out | refine below_set ?_ GE364.out | refine below_set ?_ GE365.out | refine below_set ?_ GE366.out | refine below_set ?_ GE370.out | refine below_set ?_ GE374.out) | exact HB.out)); rintro e w29 ⟨rfl, hi, hb, hk⟩; refine ⟨_, rfl, ?_⟩; have n0_ := Aside0.mk (KeepBut.blk hk (g' := gb363) (o := .cells #[.int .i64 0, .int .i64 0] 25 (0, 0)) (bf BK363.out) NB363_0.out (by simp)); have n1_ := Aside0.mk (KeepBut.blk hk (g' := gb364) (o := .cells #[.int .i64 0, .int .i64 0] 25 (0, 0)) (bf BK364.out) NB364_0.out (by simp)); have n2_ := Aside0.mk (KeepBut.blk hk (g' := gb365) (o := .cells #[.int .i64 0, .int .i64 0] 25 (0, 0)) (bf BK365.out) NB365_0.out (by simp)); have n3_ := Aside0.mk (KeepBut.blk hk (g' := gb366) (o := .cells #[.int .i64 0, .int .i64 0] 25 (0, 0)) (bf BK366.out) NB366_0.out (by simp)); have n4_ := Aside0.mk (KeepBut.blk hk (g' := gb370) (o := .cells #[.int .i64 t367, .int .i64 t368] 25 (0, 0)) (bf BK370.out) NB370_0.out (by simp)); have n5_ := Aside0.mk (KeepBut.blk hk (g' := gb374) (o := .cells #[.int .i64 t371, .int .i64 t372] 25 (0, 0)) (by (with_reducible repeat (first | refine blk_drewN ?_ _ | refine blk_drew ?_ | refine blk_alloc ?_ _)); refine blk_put (cs := #[.int .i64 t371, .int .i64 0]) ?_ 1 _ rfl; (with_reducible repeat (first | refine blk_drewN ?_ _ | refine blk_drew ?_ | refine blk_alloc ?_ _)); refine blk_put (cs := #[.int .i64 0, .int .i64 0]) ?_ 0 _ rfl; (with_reducible repeat (first | refine blk_drewN ?_ _ | refine blk_drew ?_ | refine blk_alloc ?_ _)); exact BK374.out) NB374_0.out (by simp)); have n6_ := Aside0.mk (KeepBut.trans (by repeat (first | (with_reducible first | exact HK.out | apply KeepBut.set_ | apply keep_drewN | apply keep_drew | apply keep_alloc | refine keep_far ?_ GW363.out _ | refine keep_far ?_ GW364.out _ | refine keep_far ?_ GW365.out _ | refine keep_far ?_ GW366.out _ | refine keep_far ?_ GW370.out _ | refine keep_far ?_ GW374.out _) | exact HK.out)) hk (.inl rfl)); have n7_ := Aside0.mk (hb); have n8_ := Aside0.mk (hi); clear BK363; clear BK364; clear BK365; clear BK366; clear BK370; clear BK374; clear HK; clear HB; clear HI0; have BK363 := n0_; have BK364 := n1_; have BK365 := n2_; have BK366 := n3_; have BK370 := n4_; have BK374 := n5_; have HK := n6_; have HB := n7_; have HI0 := n8_; clear n0_ n1_ n2_ n3_ n4_ n5_ n6_ n7_ n8_; (try clear hb); (try clear hb2); (try clear hk); (try clear hi)) | ((with_reducible refine gate_dst (N := 8) rfl ?_); refine box_event ?hg (N := 8) ?hd (cs := #[.int .i64 0, .int .i64 0]) (t := 25) ?hr ?_; (case hd => rfl); (case hg => rfl); (case hr => first | (go_simp; done) | (go_simp; rfl)); intro gb378 hg w30 hbox hb; have n0_ := Aside0.mk (IsS96.below (by repeat (first | (with_reducible first | exact HI0.out | apply IsS96.alloc | apply IsS96.drewN | apply IsS96.drew | apply IsS96.set_1 | refine IsS96.far ?_ NB0_363.out _ | refine IsS96.far ?_ NB0_364.out _ | refine IsS96.far ?_ NB0_365.out _ | refine IsS96.far ?_ NB0_366.out _ | refine IsS96.far ?_ NB0_370.out _ | refine IsS96.far ?_ NB0_374.out _) | exact HI0.out)) hb); have n1_ := Aside0.mk (blk_below (bf BK363.out) hb); have n2_ := Aside0.mk (blk_below (bf BK364.out) hb); have n3_ := Aside0.mk (blk_below (bf BK365.out) hb); have n4_ := Aside0.mk (blk_below (bf BK366.out) hb); have n5_ := Aside0.mk (blk_below (bf BK370.out) hb); have n6_ := Aside0.mk (blk_below (bf BK374.out) hb); have n7_ := Aside0.mk (KeepBut.trans (by repeat (first | (with_reducible first | exact HK.out | apply KeepBut.set_ | apply keep_drewN | apply keep_drew | apply keep_alloc | refine keep_far ?_ GW363.out _ | refine keep_far ?_ GW364.out _ | refine keep_far ?_ GW365.out _ | refine keep_far ?_ GW366.out _ | refine keep_far ?_ GW370.out _ | refine keep_far ?_ GW374.out _) | exact HK.out)) (KeepBut.of_below hb g none) (.inl rfl)); have n8_ := Aside0.mk (below_step (by repeat (first | (with_reducible first | exact HB.out | apply below_alloc | apply pw_below_drewN | apply below_drew1 | refine below_set ?_ (IsS96.ge HI0.out) | refine below_set ?_ GE363.out | refine below_set ?_ GE364.out | refine below_set ?_ GE365.out | refine below_set ?_ GE366.out | refine below_set ?_ GE370.out | refine below_set ?_ GE374.out) | exact HB.out)) hb); have n9_ := Aside0.mk (hbox); have n10_ := Aside0.mk ((by rw [hg]; exact (keep_size (w := w) (g := g) (row := none) (by repeat (first | (with_reducible first | exact HK.out | apply KeepBut.set_ | apply keep_drewN | apply keep_drew | apply keep_alloc | refine keep_far ?_ GW363.out _ | refine keep_far ?_ GW364.out _ | refine keep_far ?_ GW365.out _ | refine keep_far ?_ GW366.out _ | refine keep_far ?_ GW370.out _ | refine keep_far ?_ GW374.out _) | exact HK.out))) : w.heap.size ≤ gb378)); have n11_ := Aside0.mk ((Nat.le_trans HW0.out (by rw [hg]; exact (keep_size (w := w) (g := g) (row := none) (by repeat (first | (with_reducible first | exact HK.out | apply KeepBut.set_ | apply keep_drewN | apply keep_drew | apply keep_alloc | refine keep_far ?_ GW363.out _ | refine keep_far ?_ GW364.out _ | refine keep_far ?_ GW365.out _ | refine keep_far ?_ GW366.out _ | refine keep_far ?_ GW370.out _ | refine keep_far ?_ GW374.out _) | exact HK.out))) : w.heap.size ≤ gb378) : w0.heap.size ≤ gb378)); have n12_ := Aside0.mk ((by rw [hg]; exact Nat.ne_of_lt (blk_lt (bf BK363.out)) : gb363 ≠ gb378)); have n13_ := Aside0.mk ((by rw [hg]; exact Nat.ne_of_gt (blk_lt (bf BK363.out)) : gb378 ≠ gb363)); have n14_ := Aside0.mk ((by rw [hg]; exact Nat.ne_of_lt (blk_lt (bf BK364.out)) : gb364 ≠ gb378)); have n15_ := Aside0.mk ((by rw [hg]; exact Nat.ne_of_gt (blk_lt (bf BK364.out)) : gb378 ≠ gb364)); have n16_ := Aside0.mk ((by rw [hg]; exact Nat.ne_of_lt (blk_lt (bf BK365.out)) : gb365 ≠ gb378)); have n17_ := Aside0.mk ((by rw [hg]; exact Nat.ne_of_gt (blk_lt (bf BK365.out)) : gb378 ≠ gb365)); have n18_ := Aside0.mk ((by rw [hg]; exact Nat.ne_of_lt (blk_lt (bf BK366.out)) : gb366 ≠ gb378)); have n19_ := Aside0.mk ((by rw [hg]; exact Nat.ne_of_gt (blk_lt (bf BK366.out)) : gb378 ≠ gb366)); have n20_ := Aside0.mk ((by rw [hg]; exact Nat.ne_of_lt (blk_lt (bf BK370.out)) : gb370 ≠ gb378)); have n21_ := Aside0.mk ((by rw [hg]; exact Nat.ne_of_gt (blk_lt (bf BK370.out)) : gb378 ≠ gb370)); have n22_ := Aside0.mk ((by rw [hg]; exact Nat.ne_of_lt (blk_lt (bf BK374.out)) : gb374 ≠ gb378)); have n23_ := Aside0.mk ((by rw [hg]; exact Nat.ne_of_gt (blk_lt (bf BK374.out)) : gb378 ≠ gb374)); have n24_ := Aside0.mk ((by rw [hg]; exact Nat.ne_of_lt (IsS96.lt (show IsS96 w0 _ g s0_0 t377 from by repeat (first | (with_reducible first | exact HI0.out | apply IsS96.alloc | apply IsS96.drewN | apply IsS96.drew | apply IsS96.set_1 | refine IsS96.far ?_ NB0_363.out _ | refine IsS96.far ?_ NB0_364.out _ | refine IsS96.far ?_ NB0_365.out _ | refine IsS96.far ?_ NB0_366.out _ | refine IsS96.far ?_ NB0_370.out _ | refine IsS96.far ?_ NB0_374.out _) | exact HI0.out))) : g ≠ gb378)); have n25_ := Aside0.mk ((by rw [hg]; exact Nat.ne_of_gt (IsS96.lt (show IsS96 w0 _ g s0_0 t377 from by repeat (first | (with_reducible first | exact HI0.out | apply IsS96.alloc | apply IsS96.drewN | apply IsS96.drew | apply IsS96.set_1 | refine IsS96.far ?_ NB0_363.out _ | refine IsS96.far ?_ NB0_364.out _ | refine IsS96.far ?_ NB0_365.out _ | refine IsS96.far ?_ NB0_366.out _ | refine IsS96.far ?_ NB0_370.out _ | refine IsS96.far ?_ NB0_374.out _) | exact HI0.out))) : gb378 ≠ g)); clear HI0; clear BK363; clear BK364; clear BK365; clear BK366; clear BK370; clear BK374; clear HK; clear HB; have HI0 := n0_; have BK363 := n1_; have BK364 := n2_; have BK365 := n3_; have BK366 := n4_; have BK370 := n5_; have BK374 := n6_; have HK := n7_; have HB := n8_; have BK378 := n9_; have GW378 := n10_; have GE378 := n11_; have NB363_378 := n12_; have NB378_363 := n13_; have NB364_378 := n14_; have NB378_364 := n15_; have NB365_378 := n16_; have NB378_365 := n17_; have NB366_378 := n18_; have NB378_366 := n19_; have NB370_378 := n20_; have NB378_370 := n21_; have NB374_378 := n22_; have NB378_374 := n23_; have NB0_378 := n24_; have NB378_0 := n25_; clear n0_ n1_ n2_ n3_ n4_ n5_ n6_ n7_ n8_ n9_ n10_ n11_ n12_ n13_ n14_ n15_ n16_ n17_ n18_ n19_ n20_ n21_ n22_ n23_ n24_ n25_; clear hb hbox hg; have hnb31 := NB378_363.out; have hnc31 := NB363_378.out; have hnb32 := NB378_364.out; have hnc32 := NB364_378.out; have hnb33 := NB378_365.out; have hnc33 := NB365_378.out; have hnb34 := NB378_366.out; have hnc34 := NB366_378.out; have hnb35 := NB378_370.out; have hnc35 := NB370_378.out; have hnb36 := NB378_374.out; have hnc36 := NB374_378.out; have hnb37 := NB378_0.out; have hnc37 := NB0_378.out; have hcz38_0 : w30.cell? ⟨gb378, 0, none⟩ = some (.int .i64 0) := (blk_cell BK378.out 0).trans rfl; have hcz38_1 : w30.cell? ⟨gb378, 1, none⟩ = some (.int .i64 0) := (blk_cell BK378.out 1).trans rfl; have hfz38_0 := blk_frozen BK378.out 0; have hfz38_1 := blk_frozen BK378.out 1) | ((with_reducible refine gate_callee (f := 75) rfl ?_); refine goesL_ (some 17) rfl rfl Try.func75 (by kernel_rfl) rfl #[.pointer (some ⟨g, 0, none⟩)] rfl al ?_; (with_reducible refine (spec_l91Point.calls k g s0_0 t377 t379 t380 t381 w0 _ ?side1 ?side2 A5.out).mono ?_); (case side1 => repeat (first | (with_reducible first | exact HI0.out | apply IsS96.alloc | apply IsS96.drewN | apply IsS96.drew | apply IsS96.set_1 | refine IsS96.far ?_ NB0_363.out _ | refine IsS96.far ?_ NB0_364.out _ | refine IsS96.far ?_ NB0_365.out _ | refine IsS96.far ?_ NB0_366.out _ | refine IsS96.far ?_ NB0_370.out _ | refine IsS96.far ?_ NB0_374.out _ | refine IsS96.far ?_ NB0_378.out _) | exact HI0.out)); (case side2 => repeat (first | (with_reducible first | exact HB.out | apply below_alloc | apply pw_below_drewN | apply below_drew1 | refine below_set ?_ (IsS96.ge HI0.out) | refine below_set ?_ GE363.out | refine below_set ?_ GE364.out | refine below_set ?_ GE365.out | refine below_set ?_ GE366.out | refine below_set ?_ GE370.out | refine below_set ?_ GE374.out | refine below_set ?_ GE378.out) | exact HB.out)); rintro e w39 ⟨rfl, hi, hb, hk⟩; refine ⟨_, rfl, ?_⟩; have n0_ := Aside0.mk (KeepBut.blk hk (g' := gb363) (o := .cells #[.int .i64 0, .int .i64 0] 25 (0, 0)) (bf BK363.out) NB363_0.out (by simp)); have n1_ := Aside0.mk (KeepBut.blk hk (g' := gb364) (o := .cells #[.int .i64 0, .int .i64 0] 25 (0, 0)) (bf BK364.out) NB364_0.out (by simp)); have n2_ := Aside0.mk (KeepBut.blk hk (g' := gb365) (o := .cells #[.int .i64 0, .int .i64 0] 25 (0, 0)) (bf BK365.out) NB365_0.out (by simp)); have n3_ := Aside0.mk (KeepBut.blk hk (g' := gb366) (o := .cells #[.int .i64 0, .int .i64 0] 25 (0, 0)) (bf BK366.out) NB366_0.out (by simp)); have n4_ := Aside0.mk (KeepBut.blk hk (g' := gb370) (o := .cells #[.int .i64 t367, .int .i64 t368] 25 (0, 0)) (bf BK370.out) NB370_0.out (by simp)); have n5_ := Aside0.mk (KeepBut.blk hk (g' := gb374) (o := .cells #[.int .i64 t371, .int .i64 t372] 25 (0, 0)) (bf BK374.out) NB374_0.out (by simp)); have n6_ := Aside0.mk (KeepBut.blk hk (g' := gb378) (o := .cells #[.int .i64 t375, .int .i64 t376] 25 (0, 0)) (by (with_reducible repeat (first | refine blk_drewN ?_ _ | refine blk_drew ?_ | refine blk_alloc ?_ _)); refine blk_put (cs := #[.int .i64 t375, .int .i64 0]) ?_ 1 _ rfl; (with_reducible repeat (first | refine blk_drewN ?_ _ | refine blk_drew ?_ | refine blk_alloc ?_ _)); refine blk_put (cs := #[.int .i64 0, .int .i64 0]) ?_ 0 _ rfl; (with_reducible repeat (first | refine blk_drewN ?_ _ | refine blk_drew ?_ | refine blk_alloc ?_ _)); exact BK378.out) NB378_0.out (by simp)); have n7_ := Aside0.mk (KeepBut.trans (by repeat (first | (with_reducible first | exact HK.out | apply KeepBut.set_ | apply keep_drewN | apply keep_drew | apply keep_alloc | refine keep_far ?_ GW363.out _ | refine keep_far ?_ GW364.out _ | refine keep_far ?_ GW365.out _ | refine keep_far ?_ GW366.out _ | refine keep_far ?_ GW370.out _ | refine keep_far ?_ GW374.out _ | refine keep_far ?_ GW378.out _) | exact HK.out)) hk (.inl rfl)); have n8_ := Aside0.mk (hb); have n9_ := Aside0.mk (hi); clear BK363; clear BK364; clear BK365; clear BK366; clear BK370; clear BK374; clear BK378; clear HK; clear HB; clear HI0; have BK363 := n0_; have BK364 := n1_; have BK365 := n2_; have BK366 := n3_; have BK370 := n4_; have BK374 := n5_; have BK378 := n6_; have HK := n7_; have HB := n8_; have HI0 := n9_; clear n0_ n1_ n2_ n3_ n4_ n5_ n6_ n7_ n8_ n9_; (try clear hb); (try clear hb2); (try clear hk); (try clear hi)) | ((with_reducible refine gate_dst (N := 9) rfl ?_); refine box_event ?hg (N := 9) ?hd (cs := #[.int .i64 0, .int .i64 0]) (t := 25) ?hr ?_; (case hd => rfl); (case hg => rfl); (case hr => first | (go_simp; done) | (go_simp; rfl)); intro gb382 hg w40 hbox hb; have n0_ := Aside0.mk (IsS96.below (by repeat (first | (with_reducible first | exact HI0.out | apply IsS96.alloc | apply IsS96.drewN | apply IsS96.drew | apply IsS96.set_1 | refine IsS96.far ?_ NB0_363.out _ | refine IsS96.far ?_ NB0_364.out _ | refine IsS96.far ?_ NB0_365.out _ | refine IsS96.far ?_ NB0_366.out _ | refine IsS96.far ?_ NB0_370.out _ | refine IsS96.far ?_ NB0_374.out _ | refine IsS96.far ?_ NB0_378.out _) | exact HI0.out)) hb); have n1_ := Aside0.mk (blk_below (bf BK363.out) hb); have n2_ := Aside0.mk (blk_below (bf BK364.out) hb); have n3_ := Aside0.mk (blk_below (bf BK365.out) hb); have n4_ := Aside0.mk (blk_below (bf BK366.out) hb); have n5_ := Aside0.mk (blk_below (bf BK370.out) hb); have n6_ := Aside0.mk (blk_below (bf BK374.out) hb); have n7_ := Aside0.mk (blk_below (bf BK378.out) hb); have n8_ := Aside0.mk (KeepBut.trans (by repeat (first | (with_reducible first | exact HK.out | apply KeepBut.set_ | apply keep_drewN | apply keep_drew | apply keep_alloc | refine keep_far ?_ GW363.out _ | refine keep_far ?_ GW364.out _ | refine keep_far ?_ GW365.out _ | refine keep_far ?_ GW366.out _ | refine keep_far ?_ GW370.out _ | refine keep_far ?_ GW374.out _ | refine keep_far ?_ GW378.out _) | exact HK.out)) (KeepBut.of_below hb g none) (.inl rfl)); have n9_ := Aside0.mk (below_step (by repeat (first | (with_reducible first | exact HB.out | apply below_alloc | apply pw_below_drewN | apply below_drew1 | refine below_set ?_ (IsS96.ge HI0.out) | refine below_set ?_ GE363.out | refine below_set ?_ GE364.out | refine below_set ?_ GE365.out | refine below_set ?_ GE366.out | refine below_set ?_ GE370.out | refine below_set ?_ GE374.out | refine below_set ?_ GE378.out) | exact HB.out)) hb); have n10_ := Aside0.mk (hbox); have n11_ := Aside0.mk ((by rw [hg]; exact (keep_size (w := w) (g := g) (row := none) (by repeat (first | (with_reducible first | exact HK.out | apply KeepBut.set_ | apply keep_drewN | apply keep_drew | apply keep_alloc | refine keep_far ?_ GW363.out _ | refine keep_far ?_ GW364.out _ | refine keep_far ?_ GW365.out _ | refine keep_far ?_ GW366.out _ | refine keep_far ?_ GW370.out _ | refine keep_far ?_ GW374.out _ | refine keep_far ?_ GW378.out _) | exact HK.out))) : w.heap.size ≤ gb382)); have n12_ := Aside0.mk ((Nat.le_trans HW0.out (by rw [hg]; exact (keep_size (w := w) (g := g) (row := none) (by repeat (first | (with_reducible first | exact HK.out | apply KeepBut.set_ | apply keep_drewN | apply keep_drew | apply keep_alloc | refine keep_far ?_ GW363.out _ | refine keep_far ?_ GW364.out _ | refine keep_far ?_ GW365.out _ | refine keep_far ?_ GW366.out _ | refine keep_far ?_ GW370.out _ | refine keep_far ?_ GW374.out _ | refine keep_far ?_ GW378.out _) | exact HK.out))) : w.heap.size ≤ gb382) : w0.heap.size ≤ gb382)); have n13_ := Aside0.mk ((by rw [hg]; exact Nat.ne_of_lt (blk_lt (bf BK363.out)) : gb363 ≠ gb382)); have n14_ := Aside0.mk ((by rw [hg]; exact Nat.ne_of_gt (blk_lt (bf BK363.out)) : gb382 ≠ gb363)); have n15_ := Aside0.mk ((by rw [hg]; exact Nat.ne_of_lt (blk_lt (bf BK364.out)) : gb364 ≠ gb382)); have n16_ := Aside0.mk ((by rw [hg]; exact Nat.ne_of_gt (blk_lt (bf BK364.out)) : gb382 ≠ gb364)); have n17_ := Aside0.mk ((by rw [hg]; exact Nat.ne_of_lt (blk_lt (bf BK365.out)) : gb365 ≠ gb382)); have n18_ := Aside0.mk ((by rw [hg]; exact Nat.ne_of_gt (blk_lt (bf BK365.out)) : gb382 ≠ gb365)); have n19_ := Aside0.mk ((by rw [hg]; exact Nat.ne_of_lt (blk_lt (bf BK366.out)) : gb366 ≠ gb382)); have n20_ := Aside0.mk ((by rw [hg]; exact Nat.ne_of_gt (blk_lt (bf BK366.out)) : gb382 ≠ gb366)); have n21_ := Aside0.mk ((by rw [hg]; exact Nat.ne_of_lt (blk_lt (bf BK370.out)) : gb370 ≠ gb382)); have n22_ := Aside0.mk ((by rw [hg]; exact Nat.ne_of_gt (blk_lt (bf BK370.out)) : gb382 ≠ gb370)); have n23_ := Aside0.mk ((by rw [hg]; exact Nat.ne_of_lt (blk_lt (bf BK374.out)) : gb374 ≠ gb382)); have n24_ := Aside0.mk ((by rw [hg]; exact Nat.ne_of_gt (blk_lt (bf BK374.out)) : gb382 ≠ gb374)); have n25_ := Aside0.mk ((by rw [hg]; exact Nat.ne_of_lt (blk_lt (bf BK378.out)) : gb378 ≠ gb382)); have n26_ := Aside0.mk ((by rw [hg]; exact Nat.ne_of_gt (blk_lt (bf BK378.out)) : gb382 ≠ gb378)); have n27_ := Aside0.mk ((by rw [hg]; exact Nat.ne_of_lt (IsS96.lt (show IsS96 w0 _ g s0_0 t381 from by repeat (first | (with_reducible first | exact HI0.out | apply IsS96.alloc | apply IsS96.drewN | apply IsS96.drew | apply IsS96.set_1 | refine IsS96.far ?_ NB0_363.out _ | refine IsS96.far ?_ NB0_364.out _ | refine IsS96.far ?_ NB0_365.out _ | refine IsS96.far ?_ NB0_366.out _ | refine IsS96.far ?_ NB0_370.out _ | refine IsS96.far ?_ NB0_374.out _ | refine IsS96.far ?_ NB0_378.out _) | exact HI0.out))) : g ≠ gb382)); have n28_ := Aside0.mk ((by rw [hg]; exact Nat.ne_of_gt (IsS96.lt (show IsS96 w0 _ g s0_0 t381 from by repeat (first | (with_reducible first | exact HI0.out | apply IsS96.alloc | apply IsS96.drewN | apply IsS96.drew | apply IsS96.set_1 | refine IsS96.far ?_ NB0_363.out _ | refine IsS96.far ?_ NB0_364.out _ | refine IsS96.far ?_ NB0_365.out _ | refine IsS96.far ?_ NB0_366.out _ | refine IsS96.far ?_ NB0_370.out _ | refine IsS96.far ?_ NB0_374.out _ | refine IsS96.far ?_ NB0_378.out _) | exact HI0.out))) : gb382 ≠ g)); clear HI0; clear BK363; clear BK364; clear BK365; clear BK366; clear BK370; clear BK374; clear BK378; clear HK; clear HB; have HI0 := n0_; have BK363 := n1_; have BK364 := n2_; have BK365 := n3_; have BK366 := n4_; have BK370 := n5_; have BK374 := n6_; have BK378 := n7_; have HK := n8_; have HB := n9_; have BK382 := n10_; have GW382 := n11_; have GE382 := n12_; have NB363_382 := n13_; have NB382_363 := n14_; have NB364_382 := n15_; have NB382_364 := n16_; have NB365_382 := n17_; have NB382_365 := n18_; have NB366_382 := n19_; have NB382_366 := n20_; have NB370_382 := n21_; have NB382_370 := n22_; have NB374_382 := n23_; have NB382_374 := n24_; have NB378_382 := n25_; have NB382_378 := n26_; have NB0_382 := n27_; have NB382_0 := n28_; clear n0_ n1_ n2_ n3_ n4_ n5_ n6_ n7_ n8_ n9_ n10_ n11_ n12_ n13_ n14_ n15_ n16_ n17_ n18_ n19_ n20_ n21_ n22_ n23_ n24_ n25_ n26_ n27_ n28_; clear hb hbox hg; have hnb41 := NB382_363.out; have hnc41 := NB363_382.out; have hnb42 := NB382_364.out; have hnc42 := NB364_382.out; have hnb43 := NB382_365.out; have hnc43 := NB365_382.out; have hnb44 := NB382_366.out; have hnc44 := NB366_382.out; have hnb45 := NB382_370.out; have hnc45 := NB370_382.out; have hnb46 := NB382_374.out; have hnc46 := NB374_382.out; have hnb47 := NB382_378.out; have hnc47 := NB378_382.out; have hnb48 := NB382_0.out; have hnc48 := NB0_382.out; have hcz49_0 : w40.cell? ⟨gb382, 0, none⟩ = some (.int .i64 0) := (blk_cell BK382.out 0).trans rfl; have hcz49_1 : w40.cell? ⟨gb382, 1, none⟩ = some (.int .i64 0) := (blk_cell BK382.out 1).trans rfl; have hfz49_0 := blk_frozen BK382.out 0; have hfz49_1 := blk_frozen BK382.out 1) | ((with_reducible refine gate_callee (f := 50) rfl ?_); refine goesL_ (some 19) rfl rfl Try.func50 (by kernel_rfl) rfl #[.pointer (some ⟨g, 0, none⟩), .int .i64 6] rfl al ?_; (with_reducible refine (spec_l6Rd_pick.calls k g s0_0 t381 6 t383 t384 w0 _ ?side1 ?side2 A6.out).mono ?_); (case side1 => repeat (first | (with_reducible first | exact HI0.out | apply IsS96.alloc | apply IsS96.drewN | apply IsS96.drew | apply IsS96.set_1 | refine IsS96.far ?_ NB0_363.out _ | refine IsS96.far ?_ NB0_364.out _ | refine IsS96.far ?_ NB0_365.out _ | refine IsS96.far ?_ NB0_366.out _ | refine IsS96.far ?_ NB0_370.out _ | refine IsS96.far ?_ NB0_374.out _ | refine IsS96.far ?_ NB0_378.out _ | refine IsS96.far ?_ NB0_382.out _) | exact HI0.out)); (case side2 => repeat (first | (with_reducible first | exact HB.out | apply below_alloc | apply pw_below_drewN | apply below_drew1 | refine below_set ?_ (IsS96.ge HI0.out) | refine below_set ?_ GE363.out | refine below_set ?_ GE364.out | refine below_set ?_ GE365.out | refine below_set ?_ GE366.out | refine below_set ?_ GE370.out | refine below_set ?_ GE374.out | refine below_set ?_ GE378.out | refine below_set ?_ GE382.out) | exact HB.out)); rintro e w50 ⟨rfl, hi, hb, hk⟩; refine ⟨_, rfl, ?_⟩; have n0_ := Aside0.mk (KeepBut.blk hk (g' := gb363) (o := .cells #[.int .i64 0, .int .i64 0] 25 (0, 0)) (bf BK363.out) NB363_0.out (by simp)); have n1_ := Aside0.mk (KeepBut.blk hk (g' := gb364) (o := .cells #[.int .i64 0, .int .i64 0] 25 (0, 0)) (bf BK364.out) NB364_0.out (by simp)); have n2_ := Aside0.mk (KeepBut.blk hk (g' := gb365) (o := .cells #[.int .i64 0, .int .i64 0] 25 (0, 0)) (bf BK365.out) NB365_0.out (by simp)); have n3_ := Aside0.mk (KeepBut.blk hk (g' := gb366) (o := .cells #[.int .i64 0, .int .i64 0] 25 (0, 0)) (bf BK366.out) NB366_0.out (by simp)); have n4_ := Aside0.mk (KeepBut.blk hk (g' := gb370) (o := .cells #[.int .i64 t367, .int .i64 t368] 25 (0, 0)) (bf BK370.out) NB370_0.out (by simp)); have n5_ := Aside0.mk (KeepBut.blk hk (g' := gb374) (o := .cells #[.int .i64 t371, .int .i64 t372] 25 (0, 0)) (bf BK374.out) NB374_0.out (by simp)); have n6_ := Aside0.mk (KeepBut.blk hk (g' := gb378) (o := .cells #[.int .i64 t375, .int .i64 t376] 25 (0, 0)) (bf BK378.out) NB378_0.out (by simp)); have n7_ := Aside0.mk (KeepBut.blk hk (g' := gb382) (o := .cells #[.int .i64 t379, .int .i64 t380] 25 (0, 0)) (by (with_reducible repeat (first | refine blk_drewN ?_ _ | refine blk_drew ?_ | refine blk_alloc ?_ _)); refine blk_put (cs := #[.int .i64 t379, .int .i64 0]) ?_ 1 _ rfl; (with_reducible repeat (first | refine blk_drewN ?_ _ | refine blk_drew ?_ | refine blk_alloc ?_ _)); refine blk_put (cs := #[.int .i64 0, .int .i64 0]) ?_ 0 _ rfl; (with_reducible repeat (first | refine blk_drewN ?_ _ | refine blk_drew ?_ | refine blk_alloc ?_ _)); exact BK382.out) NB382_0.out (by simp)); have n8_ := Aside0.mk (KeepBut.trans (by repeat (first | (with_reducible first | exact HK.out | apply KeepBut.set_ | apply keep_drewN | apply keep_drew | apply keep_alloc | refine keep_far ?_ GW363.out _ | refine keep_far ?_ GW364.out _ | refine keep_far ?_ GW365.out _ | refine keep_far ?_ GW366.out _ | refine keep_far ?_ GW370.out _ | refine keep_far ?_ GW374.out _ | refine keep_far ?_ GW378.out _ | refine keep_far ?_ GW382.out _) | exact HK.out)) hk (.inl rfl)); have n9_ := Aside0.mk (hb); have n10_ := Aside0.mk (hi); clear BK363; clear BK364; clear BK365; clear BK366; clear BK370; clear BK374; clear BK378; clear BK382; clear HK; clear HB; clear HI0; have BK363 := n0_; have BK364 := n1_; have BK365 := n2_; have BK366 := n3_; have BK370 := n4_; have BK374 := n5_; have BK378 := n6_; have BK382 := n7_; have HK := n8_; have HB := n9_; have HI0 := n10_; clear n0_ n1_ n2_ n3_ n4_ n5_ n6_ n7_ n8_ n9_ n10_; (try clear hb); (try clear hb2); (try clear hk); (try clear hi)))
  by_cases c7 : t383 = 0
  · rw [if_pos c7] at H
    have c7b0 : (t383 == 0) = true := beq_iff_eq.mpr c7
    have c7b1 : (t383 != 0) = false := bne_eq_false_iff_eq.mpr c7
    clear c7
    simp only [Option.some.injEq, Prod.mk.injEq] at H
    obtain ⟨rfl, rfl, rfl, rfl, rfl, rfl, rfl, rfl, rfl⟩ := H
    try go_wp2_with fail
    have n0_ := Aside0.mk (blk_drew BK363.out)
    have n1_ := Aside0.mk (blk_drew BK364.out)
    have n2_ := Aside0.mk (blk_drew BK365.out)
    have n3_ := Aside0.mk (blk_drew BK366.out)
    have n4_ := Aside0.mk (blk_drew BK370.out)
    have n5_ := Aside0.mk (blk_drew BK374.out)
    have n6_ := Aside0.mk (blk_drew BK378.out)
    have n7_ := Aside0.mk (blk_drew BK382.out)
    have n8_ := Aside0.mk (IsS96.drew HI0.out)
    have n9_ := Aside0.mk (keep_drew HK.out)
    have n10_ := Aside0.mk (below_drew1 HB.out)
    clear BK363
    clear BK364
    clear BK365
    clear BK366
    clear BK370
    clear BK374
    clear BK378
    clear BK382
    clear HI0
    clear HK
    clear HB
    have BK363 := n0_
    have BK364 := n1_
    have BK365 := n2_
    have BK366 := n3_
    have BK370 := n4_
    have BK374 := n5_
    have BK378 := n6_
    have BK382 := n7_
    have HI0 := n8_
    have HK := n9_
    have HB := n10_
    clear n0_ n1_ n2_ n3_ n4_ n5_ n6_ n7_ n8_ n9_ n10_
    refine start_ (n := 24) (S := fun w' => w'.cell? ⟨gb370, 0, none⟩ = some (.int .i64 t367) ∧ w'.cell? ⟨gb370, 1, none⟩ = some (.int .i64 t368) ∧ w'.cell? ⟨gb374, 0, none⟩ = some (.int .i64 t371) ∧ w'.cell? ⟨gb374, 1, none⟩ = some (.int .i64 t372) ∧ w'.cell? ⟨gb378, 0, none⟩ = some (.int .i64 t375) ∧ w'.cell? ⟨gb378, 1, none⟩ = some (.int .i64 t376)) (ds := []) #[false, false, false, false, false, false, false, false, false, false, false, false, false, false, false, false, false, false, false, false, false, false, false, false] (by kernel_rfl) rfl rfl ⟨(blk_cell BK370.out 0).trans rfl, (blk_cell BK370.out 1).trans rfl, (blk_cell BK374.out 0).trans rfl, (blk_cell BK374.out 1).trans rfl, (blk_cell BK378.out 0).trans rfl, (blk_cell BK378.out 1).trans rfl⟩ (fun hHeld => ?_); refine with_tabW spec_l92Lines.tab7 spec_l92Lines.bits7 (fun HT_ HW_ => ?_)
    generalize w50.drew = w51 at BK363 BK364 BK365 BK366 BK370 BK374 BK378 BK382 HI0 HK HB hHeld ⊢
    refine pure_ (i := 3) (N := some 25) (v := ?_) (a' := ?_) #[false, false, false, true, false, false, false, false, false, false, false, false, false, false, false, false, false, false, false, false, false, false, false, false] rfl rfl (any_of HT_.out (by kernel_rfl)) (fun _ _ _ h => h) (Or.inl ⟨by rfl, ?_⟩) ?_ ?_
    rotate_left
    · intro w'
      go_simp
      with_reducible rfl
    rotate_left
    · simp only [Act.put, List.setIfInBounds_toArray, List.set_cons_zero, List.set_cons_succ, i64_w, i32_w]
      rfl
    refine pure_ (i := 5) (N := some 27) (v := ?_) (a' := ?_) #[false, false, false, true, false, true, false, false, false, false, false, false, false, false, false, false, false, false, false, false, false, false, false, false] rfl rfl (any_of HT_.out (by kernel_rfl)) (fun _ _ _ h => h) (Or.inl ⟨by rfl, ?_⟩) ?_ ?_
    rotate_left
    · intro w'
      go_simp
      with_reducible rfl
    rotate_left
    · simp only [Act.put, List.setIfInBounds_toArray, List.set_cons_zero, List.set_cons_succ, i64_w, i32_w]
      rfl
    refine pure_ (i := 8) (N := some 30) (v := ?_) (a' := ?_) #[false, false, false, true, false, true, false, false, true, false, false, false, false, false, false, false, false, false, false, false, false, false, false, false] rfl rfl (any_of HT_.out (by kernel_rfl)) (fun _ _ _ h => h) (Or.inl ⟨by rfl, ?_⟩) ?_ ?_
    rotate_left
    · intro w'
      go_simp
      with_reducible rfl
    rotate_left
    · simp only [Act.put, List.setIfInBounds_toArray, List.set_cons_zero, List.set_cons_succ, i64_w, i32_w]
      rfl
    refine pure_ (i := 11) (N := some 33) (v := ?_) (a' := ?_) #[false, false, false, true, false, true, false, false, true, false, false, true, false, false, false, false, false, false, false, false, false, false, false, false] rfl rfl (any_of HT_.out (by kernel_rfl)) (fun _ _ _ h => h) (Or.inl ⟨by rfl, ?_⟩) ?_ ?_
    rotate_left
    · intro w'
      go_simp
      with_reducible rfl
    rotate_left
    · simp only [Act.put, List.setIfInBounds_toArray, List.set_cons_zero, List.set_cons_succ, i64_w, i32_w]
      rfl
    refine pure_ (i := 13) (N := some 35) (v := ?_) (a' := ?_) #[false, false, false, true, false, true, false, false, true, false, false, true, false, true, false, false, false, false, false, false, false, false, false, false] rfl rfl (any_of HT_.out (by kernel_rfl)) (fun _ _ _ h => h) (Or.inl ⟨by rfl, ?_⟩) ?_ ?_
    rotate_left
    · intro w'
      go_simp
      with_reducible rfl
    rotate_left
    · simp only [Act.put, List.setIfInBounds_toArray, List.set_cons_zero, List.set_cons_succ, i64_w, i32_w]
      rfl
    refine pure_ (i := 16) (N := some 38) (v := ?_) (a' := ?_) #[false, false, false, true, false, true, false, false, true, false, false, true, false, true, false, false, true, false, false, false, false, false, false, false] rfl rfl (any_of HT_.out (by kernel_rfl)) (fun _ _ _ h => h) (Or.inl ⟨by rfl, ?_⟩) ?_ ?_
    rotate_left
    · intro w'
      go_simp
      with_reducible rfl
    rotate_left
    · simp only [Act.put, List.setIfInBounds_toArray, List.set_cons_zero, List.set_cons_succ, i64_w, i32_w]
      rfl
    refine take_ (i := 0) (N := some 22) (v := ?_) (a' := ?_) #[true, false, false, true, false, true, false, false, true, false, false, true, false, true, false, false, true, false, false, false, false, false, false, false] rfl rfl (take_ofW HT_.out HW_.out (by kernel_rfl)) (fun _ _ _ h => h) (Or.inl ⟨by rfl, ?_⟩) hHeld ?_ ?_
    rotate_left
    · rintro w' ⟨s0, s1, s2, s3, s4, s5⟩
      go_simp
      with_reducible rfl
    rotate_left
    · simp only [Act.put, List.setIfInBounds_toArray, List.set_cons_zero, List.set_cons_succ, i64_w, i32_w]
      rfl
    refine take_ (i := 1) (N := some 23) (v := ?_) (a' := ?_) #[true, true, false, true, false, true, false, false, true, false, false, true, false, true, false, false, true, false, false, false, false, false, false, false] rfl rfl (take_ofW HT_.out HW_.out (by kernel_rfl)) (fun _ _ _ h => h) (Or.inl ⟨by rfl, ?_⟩) hHeld ?_ ?_
    rotate_left
    · rintro w' ⟨s0, s1, s2, s3, s4, s5⟩
      go_simp
      with_reducible rfl
    rotate_left
    · simp only [Act.put, List.setIfInBounds_toArray, List.set_cons_zero, List.set_cons_succ, i64_w, i32_w]
      rfl
    refine take_ (i := 2) (N := some 24) (v := ?_) (a' := ?_) #[true, true, true, true, false, true, false, false, true, false, false, true, false, true, false, false, true, false, false, false, false, false, false, false] rfl rfl (take_ofW HT_.out HW_.out (by kernel_rfl)) (fun _ _ _ h => h) (Or.inl ⟨by rfl, ?_⟩) hHeld ?_ ?_
    rotate_left
    · rintro w' ⟨s0, s1, s2, s3, s4, s5⟩
      go_simp
      with_reducible rfl
    rotate_left
    · simp only [Act.put, List.setIfInBounds_toArray, List.set_cons_zero, List.set_cons_succ, i64_w, i32_w]
      rfl
    refine take_ (i := 4) (N := some 26) (v := ?_) (a' := ?_) #[true, true, true, true, true, true, false, false, true, false, false, true, false, true, false, false, true, false, false, false, false, false, false, false] rfl rfl (take_ofW HT_.out HW_.out (by kernel_rfl)) (fun _ _ _ h => h) (Or.inl ⟨by rfl, ?_⟩) hHeld ?_ ?_
    rotate_left
    · rintro w' ⟨s0, s1, s2, s3, s4, s5⟩
      go_simp
      with_reducible rfl
    rotate_left
    · simp only [Act.put, List.setIfInBounds_toArray, List.set_cons_zero, List.set_cons_succ, i64_w, i32_w]
      rfl
    refine take_ (i := 6) (N := some 28) (v := ?_) (a' := ?_) #[true, true, true, true, true, true, true, false, true, false, false, true, false, true, false, false, true, false, false, false, false, false, false, false] rfl rfl (take_ofW HT_.out HW_.out (by kernel_rfl)) (fun _ _ _ h => h) (Or.inl ⟨by rfl, ?_⟩) hHeld ?_ ?_
    rotate_left
    · rintro w' ⟨s0, s1, s2, s3, s4, s5⟩
      go_simp
      with_reducible rfl
    rotate_left
    · simp only [Act.put, List.setIfInBounds_toArray, List.set_cons_zero, List.set_cons_succ, i64_w, i32_w]
      rfl
    refine pure_ (i := 7) (N := some 29) (v := ?_) (a' := ?_) #[true, true, true, true, true, true, true, true, true, false, false, true, false, true, false, false, true, false, false, false, false, false, false, false] rfl rfl (any_of HT_.out (by kernel_rfl)) (fun _ _ _ h => h) (Or.inl ⟨by rfl, ?_⟩) ?_ ?_
    rotate_left
    · intro w'
      go_simp
      with_reducible rfl
    rotate_left
    · simp only [Act.put, List.setIfInBounds_toArray, List.set_cons_zero, List.set_cons_succ, i64_w, i32_w]
      rfl
    refine take_ (i := 9) (N := some 31) (v := ?_) (a' := ?_) #[true, true, true, true, true, true, true, true, true, true, false, true, false, true, false, false, true, false, false, false, false, false, false, false] rfl rfl (take_ofW HT_.out HW_.out (by kernel_rfl)) (fun _ _ _ h => h) (Or.inl ⟨by rfl, ?_⟩) hHeld ?_ ?_
    rotate_left
    · rintro w' ⟨s0, s1, s2, s3, s4, s5⟩
      go_simp
      with_reducible rfl
    rotate_left
    · simp only [Act.put, List.setIfInBounds_toArray, List.set_cons_zero, List.set_cons_succ, i64_w, i32_w]
      rfl
    refine pure_ (i := 10) (N := some 32) (v := ?_) (a' := ?_) #[true, true, true, true, true, true, true, true, true, true, true, true, false, true, false, false, true, false, false, false, false, false, false, false] rfl rfl (any_of HT_.out (by kernel_rfl)) (fun _ _ _ h => h) (Or.inl ⟨by rfl, ?_⟩) ?_ ?_
    rotate_left
    · intro w'
      go_simp
      with_reducible rfl
    rotate_left
    · simp only [Act.put, List.setIfInBounds_toArray, List.set_cons_zero, List.set_cons_succ, i64_w, i32_w]
      rfl
    refine take_ (i := 12) (N := some 34) (v := ?_) (a' := ?_) #[true, true, true, true, true, true, true, true, true, true, true, true, true, true, false, false, true, false, false, false, false, false, false, false] rfl rfl (take_ofW HT_.out HW_.out (by kernel_rfl)) (fun _ _ _ h => h) (Or.inl ⟨by rfl, ?_⟩) hHeld ?_ ?_
    rotate_left
    · rintro w' ⟨s0, s1, s2, s3, s4, s5⟩
      go_simp
      with_reducible rfl
    rotate_left
    · simp only [Act.put, List.setIfInBounds_toArray, List.set_cons_zero, List.set_cons_succ, i64_w, i32_w]
      rfl
    refine take_ (i := 14) (N := some 36) (v := ?_) (a' := ?_) #[true, true, true, true, true, true, true, true, true, true, true, true, true, true, true, false, true, false, false, false, false, false, false, false] rfl rfl (take_ofW HT_.out HW_.out (by kernel_rfl)) (fun _ _ _ h => h) (Or.inl ⟨by rfl, ?_⟩) hHeld ?_ ?_
    rotate_left
    · rintro w' ⟨s0, s1, s2, s3, s4, s5⟩
      go_simp
      with_reducible rfl
    rotate_left
    · simp only [Act.put, List.setIfInBounds_toArray, List.set_cons_zero, List.set_cons_succ, i64_w, i32_w]
      rfl
    refine pure_ (i := 15) (N := some 37) (v := ?_) (a' := ?_) #[true, true, true, true, true, true, true, true, true, true, true, true, true, true, true, true, true, false, false, false, false, false, false, false] rfl rfl (any_of HT_.out (by kernel_rfl)) (fun _ _ _ h => h) (Or.inl ⟨by rfl, ?_⟩) ?_ ?_
    rotate_left
    · intro w'
      go_simp
      with_reducible rfl
    rotate_left
    · simp only [Act.put, List.setIfInBounds_toArray, List.set_cons_zero, List.set_cons_succ, i64_w, i32_w]
      rfl
    refine take_ (i := 17) (N := some 39) (v := ?_) (a' := ?_) #[true, true, true, true, true, true, true, true, true, true, true, true, true, true, true, true, true, true, false, false, false, false, false, false] rfl rfl (take_ofW HT_.out HW_.out (by kernel_rfl)) (fun _ _ _ h => h) (Or.inl ⟨by rfl, ?_⟩) hHeld ?_ ?_
    rotate_left
    · rintro w' ⟨s0, s1, s2, s3, s4, s5⟩
      go_simp
      with_reducible rfl
    rotate_left
    · simp only [Act.put, List.setIfInBounds_toArray, List.set_cons_zero, List.set_cons_succ, i64_w, i32_w]
      rfl
    refine pure_ (i := 18) (N := some 40) (v := ?_) (a' := ?_) #[true, true, true, true, true, true, true, true, true, true, true, true, true, true, true, true, true, true, true, false, false, false, false, false] rfl rfl (any_of HT_.out (by kernel_rfl)) (fun _ _ _ h => h) (Or.inl ⟨by rfl, ?_⟩) ?_ ?_
    rotate_left
    · intro w'
      go_simp
      with_reducible rfl
    rotate_left
    · simp only [Act.put, List.setIfInBounds_toArray, List.set_cons_zero, List.set_cons_succ, i64_w, i32_w]
      rfl
    refine pure_ (i := 19) (N := some 41) (v := ?_) (a' := ?_) #[true, true, true, true, true, true, true, true, true, true, true, true, true, true, true, true, true, true, true, true, false, false, false, false] rfl rfl (any_of HT_.out (by kernel_rfl)) (fun _ _ _ h => h) (Or.inl ⟨by rfl, ?_⟩) ?_ ?_
    rotate_left
    · intro w'
      go_simp
      with_reducible rfl
    rotate_left
    · simp only [Act.put, List.setIfInBounds_toArray, List.set_cons_zero, List.set_cons_succ, i64_w, i32_w]
      rfl
    refine one_ (i := 20) (N := none) #[true, true, true, true, true, true, true, true, true, true, true, true, true, true, true, true, true, true, true, true, true, false, false, false] rfl rfl (one_of HT_.out (by kernel_rfl)) (by decide) (fun K hK => ?_)
    have hs52 : w51.cell? ⟨gb363, 0, none⟩ = some (.int .i64 0) := (blk_cell BK363.out 0).trans rfl
    have hfs52 := blk_frozen BK363.out 0
    have hns52_1 := NB364_363.out
    have hns52_2 := NB365_363.out
    have hns52_3 := NB366_363.out
    have hns52_4 := NB370_363.out
    have hns52_5 := NB374_363.out
    have hns52_6 := NB378_363.out
    have hns52_7 := NB382_363.out
    have hms52_1 := NB363_364.out
    have hms52_2 := NB363_365.out
    have hms52_3 := NB363_366.out
    have hms52_4 := NB363_370.out
    have hms52_5 := NB363_374.out
    have hms52_6 := NB363_378.out
    have hms52_7 := NB363_382.out
    have hs53 : w51.cell? ⟨gb363, 1, none⟩ = some (.int .i64 0) := (blk_cell BK363.out 1).trans rfl
    have hfs53 := blk_frozen BK363.out 1
    have hns53_1 := NB364_363.out
    have hns53_2 := NB365_363.out
    have hns53_3 := NB366_363.out
    have hns53_4 := NB370_363.out
    have hns53_5 := NB374_363.out
    have hns53_6 := NB378_363.out
    have hns53_7 := NB382_363.out
    have hms53_1 := NB363_364.out
    have hms53_2 := NB363_365.out
    have hms53_3 := NB363_366.out
    have hms53_4 := NB363_370.out
    have hms53_5 := NB363_374.out
    have hms53_6 := NB363_378.out
    have hms53_7 := NB363_382.out
    refine skip_ (w1 := ?_) (by rfl) rfl ?_ ?_
    rotate_left
    · go_simp
      rfl
    refine hK.out _ _ ⟨((cell_far (p := ⟨gb363, _, none⟩) NB370_363.out _).trans (((cell_far (p := ⟨gb363, _, none⟩) NB370_363.out _).trans (hHeld.1)))), ((cell_far (p := ⟨gb363, _, none⟩) NB370_363.out _).trans (((cell_far (p := ⟨gb363, _, none⟩) NB370_363.out _).trans (hHeld.2.1)))), ((cell_far (p := ⟨gb363, _, none⟩) NB374_363.out _).trans (((cell_far (p := ⟨gb363, _, none⟩) NB374_363.out _).trans (hHeld.2.2.1)))), ((cell_far (p := ⟨gb363, _, none⟩) NB374_363.out _).trans (((cell_far (p := ⟨gb363, _, none⟩) NB374_363.out _).trans (hHeld.2.2.2.1)))), ((cell_far (p := ⟨gb363, _, none⟩) NB378_363.out _).trans (((cell_far (p := ⟨gb363, _, none⟩) NB378_363.out _).trans (hHeld.2.2.2.2.1)))), ((cell_far (p := ⟨gb363, _, none⟩) NB378_363.out _).trans (((cell_far (p := ⟨gb363, _, none⟩) NB378_363.out _).trans (hHeld.2.2.2.2.2))))⟩ (fun hHeld => ?_)
    clear hK K
    refine one_ (i := 21) (N := none) #[true, true, true, true, true, true, true, true, true, true, true, true, true, true, true, true, true, true, true, true, true, true, false, false] rfl rfl (one_of HT_.out (by kernel_rfl)) (by decide) (fun K hK => ?_)
    have hs54 : w51.cell? ⟨gb364, 0, none⟩ = some (.int .i64 0) := (blk_cell BK364.out 0).trans rfl
    have hfs54 := blk_frozen BK364.out 0
    have hns54_0 := NB363_364.out
    have hns54_2 := NB365_364.out
    have hns54_3 := NB366_364.out
    have hns54_4 := NB370_364.out
    have hns54_5 := NB374_364.out
    have hns54_6 := NB378_364.out
    have hns54_7 := NB382_364.out
    have hms54_0 := NB364_363.out
    have hms54_2 := NB364_365.out
    have hms54_3 := NB364_366.out
    have hms54_4 := NB364_370.out
    have hms54_5 := NB364_374.out
    have hms54_6 := NB364_378.out
    have hms54_7 := NB364_382.out
    have hs55 : w51.cell? ⟨gb364, 1, none⟩ = some (.int .i64 0) := (blk_cell BK364.out 1).trans rfl
    have hfs55 := blk_frozen BK364.out 1
    have hns55_0 := NB363_364.out
    have hns55_2 := NB365_364.out
    have hns55_3 := NB366_364.out
    have hns55_4 := NB370_364.out
    have hns55_5 := NB374_364.out
    have hns55_6 := NB378_364.out
    have hns55_7 := NB382_364.out
    have hms55_0 := NB364_363.out
    have hms55_2 := NB364_365.out
    have hms55_3 := NB364_366.out
    have hms55_4 := NB364_370.out
    have hms55_5 := NB364_374.out
    have hms55_6 := NB364_378.out
    have hms55_7 := NB364_382.out
    refine skip_ (w1 := ?_) (by rfl) rfl ?_ ?_
    rotate_left
    · go_simp
      rfl
    refine hK.out _ _ ⟨((cell_far (p := ⟨gb364, _, none⟩) NB370_364.out _).trans (((cell_far (p := ⟨gb364, _, none⟩) NB370_364.out _).trans (hHeld.1)))), ((cell_far (p := ⟨gb364, _, none⟩) NB370_364.out _).trans (((cell_far (p := ⟨gb364, _, none⟩) NB370_364.out _).trans (hHeld.2.1)))), ((cell_far (p := ⟨gb364, _, none⟩) NB374_364.out _).trans (((cell_far (p := ⟨gb364, _, none⟩) NB374_364.out _).trans (hHeld.2.2.1)))), ((cell_far (p := ⟨gb364, _, none⟩) NB374_364.out _).trans (((cell_far (p := ⟨gb364, _, none⟩) NB374_364.out _).trans (hHeld.2.2.2.1)))), ((cell_far (p := ⟨gb364, _, none⟩) NB378_364.out _).trans (((cell_far (p := ⟨gb364, _, none⟩) NB378_364.out _).trans (hHeld.2.2.2.2.1)))), ((cell_far (p := ⟨gb364, _, none⟩) NB378_364.out _).trans (((cell_far (p := ⟨gb364, _, none⟩) NB378_364.out _).trans (hHeld.2.2.2.2.2))))⟩ (fun hHeld => ?_)
    clear hK K
    refine one_ (i := 22) (N := none) #[true, true, true, true, true, true, true, true, true, true, true, true, true, true, true, true, true, true, true, true, true, true, true, false] rfl rfl (one_of HT_.out (by kernel_rfl)) (by decide) (fun K hK => ?_)
    have hs56 : w51.cell? ⟨gb365, 0, none⟩ = some (.int .i64 0) := (blk_cell BK365.out 0).trans rfl
    have hfs56 := blk_frozen BK365.out 0
    have hns56_0 := NB363_365.out
    have hns56_1 := NB364_365.out
    have hns56_3 := NB366_365.out
    have hns56_4 := NB370_365.out
    have hns56_5 := NB374_365.out
    have hns56_6 := NB378_365.out
    have hns56_7 := NB382_365.out
    have hms56_0 := NB365_363.out
    have hms56_1 := NB365_364.out
    have hms56_3 := NB365_366.out
    have hms56_4 := NB365_370.out
    have hms56_5 := NB365_374.out
    have hms56_6 := NB365_378.out
    have hms56_7 := NB365_382.out
    have hs57 : w51.cell? ⟨gb365, 1, none⟩ = some (.int .i64 0) := (blk_cell BK365.out 1).trans rfl
    have hfs57 := blk_frozen BK365.out 1
    have hns57_0 := NB363_365.out
    have hns57_1 := NB364_365.out
    have hns57_3 := NB366_365.out
    have hns57_4 := NB370_365.out
    have hns57_5 := NB374_365.out
    have hns57_6 := NB378_365.out
    have hns57_7 := NB382_365.out
    have hms57_0 := NB365_363.out
    have hms57_1 := NB365_364.out
    have hms57_3 := NB365_366.out
    have hms57_4 := NB365_370.out
    have hms57_5 := NB365_374.out
    have hms57_6 := NB365_378.out
    have hms57_7 := NB365_382.out
    refine skip_ (w1 := ?_) (by rfl) rfl ?_ ?_
    rotate_left
    · go_simp
      rfl
    refine hK.out _ _ ⟨((cell_far (p := ⟨gb365, _, none⟩) NB370_365.out _).trans (((cell_far (p := ⟨gb365, _, none⟩) NB370_365.out _).trans (hHeld.1)))), ((cell_far (p := ⟨gb365, _, none⟩) NB370_365.out _).trans (((cell_far (p := ⟨gb365, _, none⟩) NB370_365.out _).trans (hHeld.2.1)))), ((cell_far (p := ⟨gb365, _, none⟩) NB374_365.out _).trans (((cell_far (p := ⟨gb365, _, none⟩) NB374_365.out _).trans (hHeld.2.2.1)))), ((cell_far (p := ⟨gb365, _, none⟩) NB374_365.out _).trans (((cell_far (p := ⟨gb365, _, none⟩) NB374_365.out _).trans (hHeld.2.2.2.1)))), ((cell_far (p := ⟨gb365, _, none⟩) NB378_365.out _).trans (((cell_far (p := ⟨gb365, _, none⟩) NB378_365.out _).trans (hHeld.2.2.2.2.1)))), ((cell_far (p := ⟨gb365, _, none⟩) NB378_365.out _).trans (((cell_far (p := ⟨gb365, _, none⟩) NB378_365.out _).trans (hHeld.2.2.2.2.2))))⟩ (fun hHeld => ?_)
    clear hK K
    refine one_ (i := 23) (N := none) #[true, true, true, true, true, true, true, true, true, true, true, true, true, true, true, true, true, true, true, true, true, true, true, true] rfl rfl (one_of HT_.out (by kernel_rfl)) (by decide) (fun K hK => ?_)
    have hs58 : w51.cell? ⟨gb366, 0, none⟩ = some (.int .i64 0) := (blk_cell BK366.out 0).trans rfl
    have hfs58 := blk_frozen BK366.out 0
    have hns58_0 := NB363_366.out
    have hns58_1 := NB364_366.out
    have hns58_2 := NB365_366.out
    have hns58_4 := NB370_366.out
    have hns58_5 := NB374_366.out
    have hns58_6 := NB378_366.out
    have hns58_7 := NB382_366.out
    have hms58_0 := NB366_363.out
    have hms58_1 := NB366_364.out
    have hms58_2 := NB366_365.out
    have hms58_4 := NB366_370.out
    have hms58_5 := NB366_374.out
    have hms58_6 := NB366_378.out
    have hms58_7 := NB366_382.out
    have hs59 : w51.cell? ⟨gb366, 1, none⟩ = some (.int .i64 0) := (blk_cell BK366.out 1).trans rfl
    have hfs59 := blk_frozen BK366.out 1
    have hns59_0 := NB363_366.out
    have hns59_1 := NB364_366.out
    have hns59_2 := NB365_366.out
    have hns59_4 := NB370_366.out
    have hns59_5 := NB374_366.out
    have hns59_6 := NB378_366.out
    have hns59_7 := NB382_366.out
    have hms59_0 := NB366_363.out
    have hms59_1 := NB366_364.out
    have hms59_2 := NB366_365.out
    have hms59_4 := NB366_370.out
    have hms59_5 := NB366_374.out
    have hms59_6 := NB366_378.out
    have hms59_7 := NB366_382.out
    refine skip_ (w1 := ?_) (by rfl) rfl ?_ ?_
    rotate_left
    · go_simp
      rfl
    refine hK.out _ _ ⟨((cell_far (p := ⟨gb366, _, none⟩) NB370_366.out _).trans (((cell_far (p := ⟨gb366, _, none⟩) NB370_366.out _).trans (hHeld.1)))), ((cell_far (p := ⟨gb366, _, none⟩) NB370_366.out _).trans (((cell_far (p := ⟨gb366, _, none⟩) NB370_366.out _).trans (hHeld.2.1)))), ((cell_far (p := ⟨gb366, _, none⟩) NB374_366.out _).trans (((cell_far (p := ⟨gb366, _, none⟩) NB374_366.out _).trans (hHeld.2.2.1)))), ((cell_far (p := ⟨gb366, _, none⟩) NB374_366.out _).trans (((cell_far (p := ⟨gb366, _, none⟩) NB374_366.out _).trans (hHeld.2.2.2.1)))), ((cell_far (p := ⟨gb366, _, none⟩) NB378_366.out _).trans (((cell_far (p := ⟨gb366, _, none⟩) NB378_366.out _).trans (hHeld.2.2.2.2.1)))), ((cell_far (p := ⟨gb366, _, none⟩) NB378_366.out _).trans (((cell_far (p := ⟨gb366, _, none⟩) NB378_366.out _).trans (hHeld.2.2.2.2.2))))⟩ (fun hHeld => ?_)
    clear hK K
    refine done_ (done_of HT_.out (by kernel_rfl)) ?_
    try go_wp2
    refine bodyPost_ret (results_list (rs := [.cell 2 25, .cell 3 25, .cell 4 25, .cell 5 25]) rfl (by simp) (.cell gb363 25 #[.int .i64 t367, .int .i64 t368] (0, 0) _ rfl (by (with_reducible repeat (first | refine blk_drewN ?_ _ | refine blk_drew ?_ | refine blk_alloc ?_ _)); refine blk_far ?_ NB363_366.out _; (with_reducible repeat (first | refine blk_drewN ?_ _ | refine blk_drew ?_ | refine blk_alloc ?_ _)); refine blk_far ?_ NB363_366.out _; (with_reducible repeat (first | refine blk_drewN ?_ _ | refine blk_drew ?_ | refine blk_alloc ?_ _)); refine blk_far ?_ NB363_365.out _; (with_reducible repeat (first | refine blk_drewN ?_ _ | refine blk_drew ?_ | refine blk_alloc ?_ _)); refine blk_far ?_ NB363_365.out _; (with_reducible repeat (first | refine blk_drewN ?_ _ | refine blk_drew ?_ | refine blk_alloc ?_ _)); refine blk_far ?_ NB363_364.out _; (with_reducible repeat (first | refine blk_drewN ?_ _ | refine blk_drew ?_ | refine blk_alloc ?_ _)); refine blk_far ?_ NB363_364.out _; (with_reducible repeat (first | refine blk_drewN ?_ _ | refine blk_drew ?_ | refine blk_alloc ?_ _)); refine blk_put (cs := #[.int .i64 t367, .int .i64 0]) ?_ 1 _ rfl; (with_reducible repeat (first | refine blk_drewN ?_ _ | refine blk_drew ?_ | refine blk_alloc ?_ _)); refine blk_put (cs := #[.int .i64 0, .int .i64 0]) ?_ 0 _ rfl; (with_reducible repeat (first | refine blk_drewN ?_ _ | refine blk_drew ?_ | refine blk_alloc ?_ _)); exact BK363.out) Try.underlying25 rfl (by kernel_rfl) (.cell gb364 25 #[.int .i64 t371, .int .i64 t372] (0, 0) _ rfl (by (with_reducible repeat (first | refine blk_drewN ?_ _ | refine blk_drew ?_ | refine blk_alloc ?_ _)); refine blk_far ?_ NB364_366.out _; (with_reducible repeat (first | refine blk_drewN ?_ _ | refine blk_drew ?_ | refine blk_alloc ?_ _)); refine blk_far ?_ NB364_366.out _; (with_reducible repeat (first | refine blk_drewN ?_ _ | refine blk_drew ?_ | refine blk_alloc ?_ _)); refine blk_far ?_ NB364_365.out _; (with_reducible repeat (first | refine blk_drewN ?_ _ | refine blk_drew ?_ | refine blk_alloc ?_ _)); refine blk_far ?_ NB364_365.out _; (with_reducible repeat (first | refine blk_drewN ?_ _ | refine blk_drew ?_ | refine blk_alloc ?_ _)); refine blk_put (cs := #[.int .i64 t371, .int .i64 0]) ?_ 1 _ rfl; (with_reducible repeat (first | refine blk_drewN ?_ _ | refine blk_drew ?_ | refine blk_alloc ?_ _)); refine blk_put (cs := #[.int .i64 0, .int .i64 0]) ?_ 0 _ rfl; (with_reducible repeat (first | refine blk_drewN ?_ _ | refine blk_drew ?_ | refine blk_alloc ?_ _)); refine blk_far ?_ NB364_363.out _; (with_reducible repeat (first | refine blk_drewN ?_ _ | refine blk_drew ?_ | refine blk_alloc ?_ _)); refine blk_far ?_ NB364_363.out _; (with_reducible repeat (first | refine blk_drewN ?_ _ | refine blk_drew ?_ | refine blk_alloc ?_ _)); exact BK364.out) Try.underlying25 rfl (by kernel_rfl) (.cell gb365 25 #[.int .i64 t375, .int .i64 t376] (0, 0) _ rfl (by (with_reducible repeat (first | refine blk_drewN ?_ _ | refine blk_drew ?_ | refine blk_alloc ?_ _)); refine blk_far ?_ NB365_366.out _; (with_reducible repeat (first | refine blk_drewN ?_ _ | refine blk_drew ?_ | refine blk_alloc ?_ _)); refine blk_far ?_ NB365_366.out _; (with_reducible repeat (first | refine blk_drewN ?_ _ | refine blk_drew ?_ | refine blk_alloc ?_ _)); refine blk_put (cs := #[.int .i64 t375, .int .i64 0]) ?_ 1 _ rfl; (with_reducible repeat (first | refine blk_drewN ?_ _ | refine blk_drew ?_ | refine blk_alloc ?_ _)); refine blk_put (cs := #[.int .i64 0, .int .i64 0]) ?_ 0 _ rfl; (with_reducible repeat (first | refine blk_drewN ?_ _ | refine blk_drew ?_ | refine blk_alloc ?_ _)); refine blk_far ?_ NB365_364.out _; (with_reducible repeat (first | refine blk_drewN ?_ _ | refine blk_drew ?_ | refine blk_alloc ?_ _)); refine blk_far ?_ NB365_364.out _; (with_reducible repeat (first | refine blk_drewN ?_ _ | refine blk_drew ?_ | refine blk_alloc ?_ _)); refine blk_far ?_ NB365_363.out _; (with_reducible repeat (first | refine blk_drewN ?_ _ | refine blk_drew ?_ | refine blk_alloc ?_ _)); refine blk_far ?_ NB365_363.out _; (with_reducible repeat (first | refine blk_drewN ?_ _ | refine blk_drew ?_ | refine blk_alloc ?_ _)); exact BK365.out) Try.underlying25 rfl (by kernel_rfl) (.cell gb366 25 #[.int .i64 (wrap64 ((wrap64 (t375 + t371)) - t367)), .int .i64 (wrap64 ((wrap64 (t376 + t372)) - t368))] (0, 0) _ rfl (by (with_reducible repeat (first | refine blk_drewN ?_ _ | refine blk_drew ?_ | refine blk_alloc ?_ _)); refine blk_put (cs := #[.int .i64 (wrap64 ((wrap64 (t375 + t371)) - t367)), .int .i64 0]) ?_ 1 _ rfl; (with_reducible repeat (first | refine blk_drewN ?_ _ | refine blk_drew ?_ | refine blk_alloc ?_ _)); refine blk_put (cs := #[.int .i64 0, .int .i64 0]) ?_ 0 _ rfl; (with_reducible repeat (first | refine blk_drewN ?_ _ | refine blk_drew ?_ | refine blk_alloc ?_ _)); refine blk_far ?_ NB366_365.out _; (with_reducible repeat (first | refine blk_drewN ?_ _ | refine blk_drew ?_ | refine blk_alloc ?_ _)); refine blk_far ?_ NB366_365.out _; (with_reducible repeat (first | refine blk_drewN ?_ _ | refine blk_drew ?_ | refine blk_alloc ?_ _)); refine blk_far ?_ NB366_364.out _; (with_reducible repeat (first | refine blk_drewN ?_ _ | refine blk_drew ?_ | refine blk_alloc ?_ _)); refine blk_far ?_ NB366_364.out _; (with_reducible repeat (first | refine blk_drewN ?_ _ | refine blk_drew ?_ | refine blk_alloc ?_ _)); refine blk_far ?_ NB366_363.out _; (with_reducible repeat (first | refine blk_drewN ?_ _ | refine blk_drew ?_ | refine blk_alloc ?_ _)); refine blk_far ?_ NB366_363.out _; (with_reducible repeat (first | refine blk_drewN ?_ _ | refine blk_drew ?_ | refine blk_alloc ?_ _)); exact BK366.out) Try.underlying25 rfl (by kernel_rfl) .nil))))) rfl ?_
    exact ⟨er, by repeat (first | (with_reducible first | exact HI0.out | apply IsS96.alloc | apply IsS96.drewN | apply IsS96.drew | apply IsS96.set_1 | refine IsS96.far ?_ NB0_363.out _ | refine IsS96.far ?_ NB0_364.out _ | refine IsS96.far ?_ NB0_365.out _ | refine IsS96.far ?_ NB0_366.out _ | refine IsS96.far ?_ NB0_370.out _ | refine IsS96.far ?_ NB0_374.out _ | refine IsS96.far ?_ NB0_378.out _ | refine IsS96.far ?_ NB0_382.out _) | exact HI0.out), by repeat (first | (with_reducible first | exact HB.out | apply below_alloc | apply pw_below_drewN | apply below_drew1 | refine below_set ?_ (IsS96.ge HI0.out) | refine below_set ?_ GE363.out | refine below_set ?_ GE364.out | refine below_set ?_ GE365.out | refine below_set ?_ GE366.out | refine below_set ?_ GE370.out | refine below_set ?_ GE374.out | refine below_set ?_ GE378.out | refine below_set ?_ GE382.out) | exact HB.out), by repeat (first | (with_reducible first | exact HK.out | apply KeepBut.set_ | apply keep_drewN | apply keep_drew | apply keep_alloc | refine keep_far ?_ GW363.out _ | refine keep_far ?_ GW364.out _ | refine keep_far ?_ GW365.out _ | refine keep_far ?_ GW366.out _ | refine keep_far ?_ GW370.out _ | refine keep_far ?_ GW374.out _ | refine keep_far ?_ GW378.out _ | refine keep_far ?_ GW382.out _) | exact HK.out)⟩
  · rw [if_neg c7] at H
    have c7b0 : (t383 == 0) = false := beq_eq_false_iff_ne.mpr c7
    have c7b1 : (t383 != 0) = true := bne_iff_ne.mpr c7
    by_cases c60 : t383 = 1
    · rw [if_pos c60] at H
      have c60b0 : (t383 == 1) = true := beq_iff_eq.mpr c60
      have c60b1 : (t383 != 1) = false := bne_eq_false_iff_eq.mpr c60
      clear c60
      simp only [Option.some.injEq, Prod.mk.injEq] at H
      obtain ⟨rfl, rfl, rfl, rfl, rfl, rfl, rfl, rfl, rfl⟩ := H
      try go_wp2_with fail
      have n0_ := Aside0.mk (blk_drew BK363.out)
      have n1_ := Aside0.mk (blk_drew BK364.out)
      have n2_ := Aside0.mk (blk_drew BK365.out)
      have n3_ := Aside0.mk (blk_drew BK366.out)
      have n4_ := Aside0.mk (blk_drew BK370.out)
      have n5_ := Aside0.mk (blk_drew BK374.out)
      have n6_ := Aside0.mk (blk_drew BK378.out)
      have n7_ := Aside0.mk (blk_drew BK382.out)
      have n8_ := Aside0.mk (IsS96.drew HI0.out)
      have n9_ := Aside0.mk (keep_drew HK.out)
      have n10_ := Aside0.mk (below_drew1 HB.out)
      clear BK363
      clear BK364
      clear BK365
      clear BK366
      clear BK370
      clear BK374
      clear BK378
      clear BK382
      clear HI0
      clear HK
      clear HB
      have BK363 := n0_
      have BK364 := n1_
      have BK365 := n2_
      have BK366 := n3_
      have BK370 := n4_
      have BK374 := n5_
      have BK378 := n6_
      have BK382 := n7_
      have HI0 := n8_
      have HK := n9_
      have HB := n10_
      clear n0_ n1_ n2_ n3_ n4_ n5_ n6_ n7_ n8_ n9_ n10_
      refine start_ (n := 34) (S := fun w' => w'.cell? ⟨gb370, 0, none⟩ = some (.int .i64 t367) ∧ w'.cell? ⟨gb370, 1, none⟩ = some (.int .i64 t368) ∧ w'.cell? ⟨gb374, 0, none⟩ = some (.int .i64 t371) ∧ w'.cell? ⟨gb374, 1, none⟩ = some (.int .i64 t372)) (ds := []) #[false, false, false, false, false, false, false, false, false, false, false, false, false, false, false, false, false, false, false, false, false, false, false, false, false, false, false, false, false, false, false, false, false, false] (by kernel_rfl) rfl rfl ⟨(blk_cell BK370.out 0).trans rfl, (blk_cell BK370.out 1).trans rfl, (blk_cell BK374.out 0).trans rfl, (blk_cell BK374.out 1).trans rfl⟩ (fun hHeld => ?_); refine with_tabW spec_l92Lines.tab9 spec_l92Lines.bits9 (fun HT_ HW_ => ?_)
      generalize w50.drew = w104 at BK363 BK364 BK365 BK366 BK370 BK374 BK378 BK382 HI0 HK HB hHeld ⊢
      refine pure_ (i := 2) (N := some 46) (v := ?_) (a' := ?_) #[false, false, true, false, false, false, false, false, false, false, false, false, false, false, false, false, false, false, false, false, false, false, false, false, false, false, false, false, false, false, false, false, false, false] rfl rfl (any_of HT_.out (by kernel_rfl)) (fun _ _ _ h => h) (Or.inl ⟨by rfl, ?_⟩) ?_ ?_
      rotate_left
      · intro w'
        go_simp
        with_reducible rfl
      rotate_left
      · simp only [Act.put, List.setIfInBounds_toArray, List.set_cons_zero, List.set_cons_succ, i64_w, i32_w]
        rfl
      refine pure_ (i := 5) (N := some 49) (v := ?_) (a' := ?_) #[false, false, true, false, false, true, false, false, false, false, false, false, false, false, false, false, false, false, false, false, false, false, false, false, false, false, false, false, false, false, false, false, false, false] rfl rfl (any_of HT_.out (by kernel_rfl)) (fun _ _ _ h => h) (Or.inl ⟨by rfl, ?_⟩) ?_ ?_
      rotate_left
      · intro w'
        go_simp
        with_reducible rfl
      rotate_left
      · simp only [Act.put, List.setIfInBounds_toArray, List.set_cons_zero, List.set_cons_succ, i64_w, i32_w]
        rfl
      refine pure_ (i := 8) (N := some 52) (v := ?_) (a' := ?_) #[false, false, true, false, false, true, false, false, true, false, false, false, false, false, false, false, false, false, false, false, false, false, false, false, false, false, false, false, false, false, false, false, false, false] rfl rfl (any_of HT_.out (by kernel_rfl)) (fun _ _ _ h => h) (Or.inl ⟨by rfl, ?_⟩) ?_ ?_
      rotate_left
      · intro w'
        go_simp
        with_reducible rfl
      rotate_left
      · simp only [Act.put, List.setIfInBounds_toArray, List.set_cons_zero, List.set_cons_succ, i64_w, i32_w]
        rfl
      refine pure_ (i := 11) (N := some 55) (v := ?_) (a' := ?_) #[false, false, true, false, false, true, false, false, true, false, false, true, false, false, false, false, false, false, false, false, false, false, false, false, false, false, false, false, false, false, false, false, false, false] rfl rfl (any_of HT_.out (by kernel_rfl)) (fun _ _ _ h => h) (Or.inl ⟨by rfl, ?_⟩) ?_ ?_
      rotate_left
      · intro w'
        go_simp
        with_reducible rfl
      rotate_left
      · simp only [Act.put, List.setIfInBounds_toArray, List.set_cons_zero, List.set_cons_succ, i64_w, i32_w]
        rfl
      refine pure_ (i := 15) (N := some 59) (v := ?_) (a' := ?_) #[false, false, true, false, false, true, false, false, true, false, false, true, false, false, false, true, false, false, false, false, false, false, false, false, false, false, false, false, false, false, false, false, false, false] rfl rfl (any_of HT_.out (by kernel_rfl)) (fun _ _ _ h => h) (Or.inl ⟨by rfl, ?_⟩) ?_ ?_
      rotate_left
      · intro w'
        go_simp
        with_reducible rfl
      rotate_left
      · simp only [Act.put, List.setIfInBounds_toArray, List.set_cons_zero, List.set_cons_succ, i64_w, i32_w]
        rfl
      refine pure_ (i := 18) (N := some 62) (v := ?_) (a' := ?_) #[false, false, true, false, false, true, false, false, true, false, false, true, false, false, false, true, false, false, true, false, false, false, false, false, false, false, false, false, false, false, false, false, false, false] rfl rfl (any_of HT_.out (by kernel_rfl)) (fun _ _ _ h => h) (Or.inl ⟨by rfl, ?_⟩) ?_ ?_
      rotate_left
      · intro w'
        go_simp
        with_reducible rfl
      rotate_left
      · simp only [Act.put, List.setIfInBounds_toArray, List.set_cons_zero, List.set_cons_succ, i64_w, i32_w]
        rfl
      refine pure_ (i := 22) (N := some 66) (v := ?_) (a' := ?_) #[false, false, true, false, false, true, false, false, true, false, false, true, false, false, false, true, false, false, true, false, false, false, true, false, false, false, false, false, false, false, false, false, false, false] rfl rfl (any_of HT_.out (by kernel_rfl)) (fun _ _ _ h => h) (Or.inl ⟨by rfl, ?_⟩) ?_ ?_
      rotate_left
      · intro w'
        go_simp
        with_reducible rfl
      rotate_left
      · simp only [Act.put, List.setIfInBounds_toArray, List.set_cons_zero, List.set_cons_succ, i64_w, i32_w]
        rfl
      refine pure_ (i := 25) (N := some 69) (v := ?_) (a' := ?_) #[false, false, true, false, false, true, false, false, true, false, false, true, false, false, false, true, false, false, true, false, false, false, true, false, false, true, false, false, false, false, false, false, false, false] rfl rfl (any_of HT_.out (by kernel_rfl)) (fun _ _ _ h => h) (Or.inl ⟨by rfl, ?_⟩) ?_ ?_
      rotate_left
      · intro w'
        go_simp
        with_reducible rfl
      rotate_left
      · simp only [Act.put, List.setIfInBounds_toArray, List.set_cons_zero, List.set_cons_succ, i64_w, i32_w]
        rfl
      refine take_ (i := 0) (N := some 44) (v := ?_) (a' := ?_) #[true, false, true, false, false, true, false, false, true, false, false, true, false, false, false, true, false, false, true, false, false, false, true, false, false, true, false, false, false, false, false, false, false, false] rfl rfl (take_ofW HT_.out HW_.out (by kernel_rfl)) (fun _ _ _ h => h) (Or.inl ⟨by rfl, ?_⟩) hHeld ?_ ?_
      rotate_left
      · rintro w' ⟨s0, s1, s2, s3⟩
        go_simp
        with_reducible rfl
      rotate_left
      · simp only [Act.put, List.setIfInBounds_toArray, List.set_cons_zero, List.set_cons_succ, i64_w, i32_w]
        rfl
      refine take_ (i := 1) (N := some 45) (v := ?_) (a' := ?_) #[true, true, true, false, false, true, false, false, true, false, false, true, false, false, false, true, false, false, true, false, false, false, true, false, false, true, false, false, false, false, false, false, false, false] rfl rfl (take_ofW HT_.out HW_.out (by kernel_rfl)) (fun _ _ _ h => h) (Or.inl ⟨by rfl, ?_⟩) hHeld ?_ ?_
      rotate_left
      · rintro w' ⟨s0, s1, s2, s3⟩
        go_simp
        with_reducible rfl
      rotate_left
      · simp only [Act.put, List.setIfInBounds_toArray, List.set_cons_zero, List.set_cons_succ, i64_w, i32_w]
        rfl
      refine take_ (i := 3) (N := some 47) (v := ?_) (a' := ?_) #[true, true, true, true, false, true, false, false, true, false, false, true, false, false, false, true, false, false, true, false, false, false, true, false, false, true, false, false, false, false, false, false, false, false] rfl rfl (take_ofW HT_.out HW_.out (by kernel_rfl)) (fun _ _ _ h => h) (Or.inl ⟨by rfl, ?_⟩) hHeld ?_ ?_
      rotate_left
      · rintro w' ⟨s0, s1, s2, s3⟩
        go_simp
        with_reducible rfl
      rotate_left
      · simp only [Act.put, List.setIfInBounds_toArray, List.set_cons_zero, List.set_cons_succ, i64_w, i32_w]
        rfl
      refine pure_ (i := 4) (N := some 48) (v := ?_) (a' := ?_) #[true, true, true, true, true, true, false, false, true, false, false, true, false, false, false, true, false, false, true, false, false, false, true, false, false, true, false, false, false, false, false, false, false, false] rfl rfl (any_of HT_.out (by kernel_rfl)) (fun _ _ _ h => h) (Or.inl ⟨by rfl, ?_⟩) ?_ ?_
      rotate_left
      · intro w'
        go_simp
        with_reducible rfl
      rotate_left
      · simp only [Act.put, List.setIfInBounds_toArray, List.set_cons_zero, List.set_cons_succ, i64_w, i32_w]
        rfl
      refine take_ (i := 6) (N := some 50) (v := ?_) (a' := ?_) #[true, true, true, true, true, true, true, false, true, false, false, true, false, false, false, true, false, false, true, false, false, false, true, false, false, true, false, false, false, false, false, false, false, false] rfl rfl (take_ofW HT_.out HW_.out (by kernel_rfl)) (fun _ _ _ h => h) (Or.inl ⟨by rfl, ?_⟩) hHeld ?_ ?_
      rotate_left
      · rintro w' ⟨s0, s1, s2, s3⟩
        go_simp
        with_reducible rfl
      rotate_left
      · simp only [Act.put, List.setIfInBounds_toArray, List.set_cons_zero, List.set_cons_succ, i64_w, i32_w]
        rfl
      refine pure_ (i := 7) (N := some 51) (v := ?_) (a' := ?_) #[true, true, true, true, true, true, true, true, true, false, false, true, false, false, false, true, false, false, true, false, false, false, true, false, false, true, false, false, false, false, false, false, false, false] rfl rfl (any_of HT_.out (by kernel_rfl)) (fun _ _ _ h => h) (Or.inl ⟨by rfl, ?_⟩) ?_ ?_
      rotate_left
      · intro w'
        go_simp
        with_reducible rfl
      rotate_left
      · simp only [Act.put, List.setIfInBounds_toArray, List.set_cons_zero, List.set_cons_succ, i64_w, i32_w]
        rfl
      refine take_ (i := 9) (N := some 53) (v := ?_) (a' := ?_) #[true, true, true, true, true, true, true, true, true, true, false, true, false, false, false, true, false, false, true, false, false, false, true, false, false, true, false, false, false, false, false, false, false, false] rfl rfl (take_ofW HT_.out HW_.out (by kernel_rfl)) (fun _ _ _ h => h) (Or.inl ⟨by rfl, ?_⟩) hHeld ?_ ?_
      rotate_left
      · rintro w' ⟨s0, s1, s2, s3⟩
        go_simp
        with_reducible rfl
      rotate_left
      · simp only [Act.put, List.setIfInBounds_toArray, List.set_cons_zero, List.set_cons_succ, i64_w, i32_w]
        rfl
      refine pure_ (i := 10) (N := some 54) (v := ?_) (a' := ?_) #[true, true, true, true, true, true, true, true, true, true, true, true, false, false, false, true, false, false, true, false, false, false, true, false, false, true, false, false, false, false, false, false, false, false] rfl rfl (any_of HT_.out (by kernel_rfl)) (fun _ _ _ h => h) (Or.inl ⟨by rfl, ?_⟩) ?_ ?_
      rotate_left
      · intro w'
        go_simp
        with_reducible rfl
      rotate_left
      · simp only [Act.put, List.setIfInBounds_toArray, List.set_cons_zero, List.set_cons_succ, i64_w, i32_w]
        rfl
      refine take_ (i := 12) (N := some 56) (v := ?_) (a' := ?_) #[true, true, true, true, true, true, true, true, true, true, true, true, true, false, false, true, false, false, true, false, false, false, true, false, false, true, false, false, false, false, false, false, false, false] rfl rfl (take_ofW HT_.out HW_.out (by kernel_rfl)) (fun _ _ _ h => h) (Or.inl ⟨by rfl, ?_⟩) hHeld ?_ ?_
      rotate_left
      · rintro w' ⟨s0, s1, s2, s3⟩
        go_simp
        with_reducible rfl
      rotate_left
      · simp only [Act.put, List.setIfInBounds_toArray, List.set_cons_zero, List.set_cons_succ, i64_w, i32_w]
        rfl
      refine pure_ (i := 13) (N := some 57) (v := ?_) (a' := ?_) #[true, true, true, true, true, true, true, true, true, true, true, true, true, true, false, true, false, false, true, false, false, false, true, false, false, true, false, false, false, false, false, false, false, false] rfl rfl (any_of HT_.out (by kernel_rfl)) (fun _ _ _ h => h) (Or.inl ⟨by rfl, ?_⟩) ?_ ?_
      rotate_left
      · intro w'
        go_simp
        with_reducible rfl
      rotate_left
      · simp only [Act.put, List.setIfInBounds_toArray, List.set_cons_zero, List.set_cons_succ, i64_w, i32_w]
        rfl
      refine pure_ (i := 14) (N := some 58) (v := ?_) (a' := ?_) #[true, true, true, true, true, true, true, true, true, true, true, true, true, true, true, true, false, false, true, false, false, false, true, false, false, true, false, false, false, false, false, false, false, false] rfl rfl (any_of HT_.out (by kernel_rfl)) (fun _ _ _ h => h) (Or.inl ⟨by rfl, ?_⟩) ?_ ?_
      rotate_left
      · intro w'
        go_simp
        with_reducible rfl
      rotate_left
      · simp only [Act.put, List.setIfInBounds_toArray, List.set_cons_zero, List.set_cons_succ, i64_w, i32_w]
        rfl
      refine take_ (i := 16) (N := some 60) (v := ?_) (a' := ?_) #[true, true, true, true, true, true, true, true, true, true, true, true, true, true, true, true, true, false, true, false, false, false, true, false, false, true, false, false, false, false, false, false, false, false] rfl rfl (take_ofW HT_.out HW_.out (by kernel_rfl)) (fun _ _ _ h => h) (Or.inl ⟨by rfl, ?_⟩) hHeld ?_ ?_
      rotate_left
      · rintro w' ⟨s0, s1, s2, s3⟩
        go_simp
        with_reducible rfl
      rotate_left
      · simp only [Act.put, List.setIfInBounds_toArray, List.set_cons_zero, List.set_cons_succ, i64_w, i32_w]
        rfl
      refine pure_ (i := 17) (N := some 61) (v := ?_) (a' := ?_) #[true, true, true, true, true, true, true, true, true, true, true, true, true, true, true, true, true, true, true, false, false, false, true, false, false, true, false, false, false, false, false, false, false, false] rfl rfl (any_of HT_.out (by kernel_rfl)) (fun _ _ _ h => h) (Or.inl ⟨by rfl, ?_⟩) ?_ ?_
      rotate_left
      · intro w'
        go_simp
        with_reducible rfl
      rotate_left
      · simp only [Act.put, List.setIfInBounds_toArray, List.set_cons_zero, List.set_cons_succ, i64_w, i32_w]
        rfl
      refine take_ (i := 19) (N := some 63) (v := ?_) (a' := ?_) #[true, true, true, true, true, true, true, true, true, true, true, true, true, true, true, true, true, true, true, true, false, false, true, false, false, true, false, false, false, false, false, false, false, false] rfl rfl (take_ofW HT_.out HW_.out (by kernel_rfl)) (fun _ _ _ h => h) (Or.inl ⟨by rfl, ?_⟩) hHeld ?_ ?_
      rotate_left
      · rintro w' ⟨s0, s1, s2, s3⟩
        go_simp
        with_reducible rfl
      rotate_left
      · simp only [Act.put, List.setIfInBounds_toArray, List.set_cons_zero, List.set_cons_succ, i64_w, i32_w]
        rfl
      refine pure_ (i := 20) (N := some 64) (v := ?_) (a' := ?_) #[true, true, true, true, true, true, true, true, true, true, true, true, true, true, true, true, true, true, true, true, true, false, true, false, false, true, false, false, false, false, false, false, false, false] rfl rfl (any_of HT_.out (by kernel_rfl)) (fun _ _ _ h => h) (Or.inl ⟨by rfl, ?_⟩) ?_ ?_
      rotate_left
      · intro w'
        go_simp
        with_reducible rfl
      rotate_left
      · simp only [Act.put, List.setIfInBounds_toArray, List.set_cons_zero, List.set_cons_succ, i64_w, i32_w]
        rfl
      refine pure_ (i := 21) (N := some 65) (v := ?_) (a' := ?_) #[true, true, true, true, true, true, true, true, true, true, true, true, true, true, true, true, true, true, true, true, true, true, true, false, false, true, false, false, false, false, false, false, false, false] rfl rfl (any_of HT_.out (by kernel_rfl)) (fun _ _ _ h => h) (Or.inl ⟨by rfl, ?_⟩) ?_ ?_
      rotate_left
      · intro w'
        go_simp
        with_reducible rfl
      rotate_left
      · simp only [Act.put, List.setIfInBounds_toArray, List.set_cons_zero, List.set_cons_succ, i64_w, i32_w]
        rfl
      refine take_ (i := 23) (N := some 67) (v := ?_) (a' := ?_) #[true, true, true, true, true, true, true, true, true, true, true, true, true, true, true, true, true, true, true, true, true, true, true, true, false, true, false, false, false, false, false, false, false, false] rfl rfl (take_ofW HT_.out HW_.out (by kernel_rfl)) (fun _ _ _ h => h) (Or.inl ⟨by rfl, ?_⟩) hHeld ?_ ?_
      rotate_left
      · rintro w' ⟨s0, s1, s2, s3⟩
        go_simp
        with_reducible rfl
      rotate_left
      · simp only [Act.put, List.setIfInBounds_toArray, List.set_cons_zero, List.set_cons_succ, i64_w, i32_w]
        rfl
      refine pure_ (i := 24) (N := some 68) (v := ?_) (a' := ?_) #[true, true, true, true, true, true, true, true, true, true, true, true, true, true, true, true, true, true, true, true, true, true, true, true, true, true, false, false, false, false, false, false, false, false] rfl rfl (any_of HT_.out (by kernel_rfl)) (fun _ _ _ h => h) (Or.inl ⟨by rfl, ?_⟩) ?_ ?_
      rotate_left
      · intro w'
        go_simp
        with_reducible rfl
      rotate_left
      · simp only [Act.put, List.setIfInBounds_toArray, List.set_cons_zero, List.set_cons_succ, i64_w, i32_w]
        rfl
      refine take_ (i := 26) (N := some 70) (v := ?_) (a' := ?_) #[true, true, true, true, true, true, true, true, true, true, true, true, true, true, true, true, true, true, true, true, true, true, true, true, true, true, true, false, false, false, false, false, false, false] rfl rfl (take_ofW HT_.out HW_.out (by kernel_rfl)) (fun _ _ _ h => h) (Or.inl ⟨by rfl, ?_⟩) hHeld ?_ ?_
      rotate_left
      · rintro w' ⟨s0, s1, s2, s3⟩
        go_simp
        with_reducible rfl
      rotate_left
      · simp only [Act.put, List.setIfInBounds_toArray, List.set_cons_zero, List.set_cons_succ, i64_w, i32_w]
        rfl
      refine pure_ (i := 27) (N := some 71) (v := ?_) (a' := ?_) #[true, true, true, true, true, true, true, true, true, true, true, true, true, true, true, true, true, true, true, true, true, true, true, true, true, true, true, true, false, false, false, false, false, false] rfl rfl (any_of HT_.out (by kernel_rfl)) (fun _ _ _ h => h) (Or.inl ⟨by rfl, ?_⟩) ?_ ?_
      rotate_left
      · intro w'
        go_simp
        with_reducible rfl
      rotate_left
      · simp only [Act.put, List.setIfInBounds_toArray, List.set_cons_zero, List.set_cons_succ, i64_w, i32_w]
        rfl
      refine pure_ (i := 28) (N := some 72) (v := ?_) (a' := ?_) #[true, true, true, true, true, true, true, true, true, true, true, true, true, true, true, true, true, true, true, true, true, true, true, true, true, true, true, true, true, false, false, false, false, false] rfl rfl (any_of HT_.out (by kernel_rfl)) (fun _ _ _ h => h) (Or.inl ⟨by rfl, ?_⟩) ?_ ?_
      rotate_left
      · intro w'
        go_simp
        with_reducible rfl
      rotate_left
      · simp only [Act.put, List.setIfInBounds_toArray, List.set_cons_zero, List.set_cons_succ, i64_w, i32_w]
        rfl
      refine pure_ (i := 29) (N := some 73) (v := ?_) (a' := ?_) #[true, true, true, true, true, true, true, true, true, true, true, true, true, true, true, true, true, true, true, true, true, true, true, true, true, true, true, true, true, true, false, false, false, false] rfl rfl (any_of HT_.out (by kernel_rfl)) (fun _ _ _ h => h) (Or.inl ⟨by rfl, ?_⟩) ?_ ?_
      rotate_left
      · intro w'
        go_simp
        with_reducible rfl
      rotate_left
      · simp only [Act.put, List.setIfInBounds_toArray, List.set_cons_zero, List.set_cons_succ, i64_w, i32_w]
        rfl
      refine one_ (i := 30) (N := none) #[true, true, true, true, true, true, true, true, true, true, true, true, true, true, true, true, true, true, true, true, true, true, true, true, true, true, true, true, true, true, true, false, false, false] rfl rfl (one_of HT_.out (by kernel_rfl)) (by decide) (fun K hK => ?_)
      have hs105 : w104.cell? ⟨gb363, 0, none⟩ = some (.int .i64 0) := (blk_cell BK363.out 0).trans rfl
      have hfs105 := blk_frozen BK363.out 0
      have hns105_1 := NB364_363.out
      have hns105_2 := NB365_363.out
      have hns105_3 := NB366_363.out
      have hns105_4 := NB370_363.out
      have hns105_5 := NB374_363.out
      have hns105_6 := NB378_363.out
      have hns105_7 := NB382_363.out
      have hms105_1 := NB363_364.out
      have hms105_2 := NB363_365.out
      have hms105_3 := NB363_366.out
      have hms105_4 := NB363_370.out
      have hms105_5 := NB363_374.out
      have hms105_6 := NB363_378.out
      have hms105_7 := NB363_382.out
      have hs106 : w104.cell? ⟨gb363, 1, none⟩ = some (.int .i64 0) := (blk_cell BK363.out 1).trans rfl
      have hfs106 := blk_frozen BK363.out 1
      have hns106_1 := NB364_363.out
      have hns106_2 := NB365_363.out
      have hns106_3 := NB366_363.out
      have hns106_4 := NB370_363.out
      have hns106_5 := NB374_363.out
      have hns106_6 := NB378_363.out
      have hns106_7 := NB382_363.out
      have hms106_1 := NB363_364.out
      have hms106_2 := NB363_365.out
      have hms106_3 := NB363_366.out
      have hms106_4 := NB363_370.out
      have hms106_5 := NB363_374.out
      have hms106_6 := NB363_378.out
      have hms106_7 := NB363_382.out
      refine skip_ (w1 := ?_) (by rfl) rfl ?_ ?_
      rotate_left
      · go_simp
        rfl
      refine hK.out _ _ ⟨((cell_far (p := ⟨gb363, _, none⟩) NB370_363.out _).trans (((cell_far (p := ⟨gb363, _, none⟩) NB370_363.out _).trans (hHeld.1)))), ((cell_far (p := ⟨gb363, _, none⟩) NB370_363.out _).trans (((cell_far (p := ⟨gb363, _, none⟩) NB370_363.out _).trans (hHeld.2.1)))), ((cell_far (p := ⟨gb363, _, none⟩) NB374_363.out _).trans (((cell_far (p := ⟨gb363, _, none⟩) NB374_363.out _).trans (hHeld.2.2.1)))), ((cell_far (p := ⟨gb363, _, none⟩) NB374_363.out _).trans (((cell_far (p := ⟨gb363, _, none⟩) NB374_363.out _).trans (hHeld.2.2.2))))⟩ (fun hHeld => ?_)
      clear hK K
      refine one_ (i := 31) (N := none) #[true, true, true, true, true, true, true, true, true, true, true, true, true, true, true, true, true, true, true, true, true, true, true, true, true, true, true, true, true, true, true, true, false, false] rfl rfl (one_of HT_.out (by kernel_rfl)) (by decide) (fun K hK => ?_)
      have hs107 : w104.cell? ⟨gb364, 0, none⟩ = some (.int .i64 0) := (blk_cell BK364.out 0).trans rfl
      have hfs107 := blk_frozen BK364.out 0
      have hns107_0 := NB363_364.out
      have hns107_2 := NB365_364.out
      have hns107_3 := NB366_364.out
      have hns107_4 := NB370_364.out
      have hns107_5 := NB374_364.out
      have hns107_6 := NB378_364.out
      have hns107_7 := NB382_364.out
      have hms107_0 := NB364_363.out
      have hms107_2 := NB364_365.out
      have hms107_3 := NB364_366.out
      have hms107_4 := NB364_370.out
      have hms107_5 := NB364_374.out
      have hms107_6 := NB364_378.out
      have hms107_7 := NB364_382.out
      have hs108 : w104.cell? ⟨gb364, 1, none⟩ = some (.int .i64 0) := (blk_cell BK364.out 1).trans rfl
      have hfs108 := blk_frozen BK364.out 1
      have hns108_0 := NB363_364.out
      have hns108_2 := NB365_364.out
      have hns108_3 := NB366_364.out
      have hns108_4 := NB370_364.out
      have hns108_5 := NB374_364.out
      have hns108_6 := NB378_364.out
      have hns108_7 := NB382_364.out
      have hms108_0 := NB364_363.out
      have hms108_2 := NB364_365.out
      have hms108_3 := NB364_366.out
      have hms108_4 := NB364_370.out
      have hms108_5 := NB364_374.out
      have hms108_6 := NB364_378.out
      have hms108_7 := NB364_382.out
      refine skip_ (w1 := ?_) (by rfl) rfl ?_ ?_
      rotate_left
      · go_simp
        rfl
      refine hK.out _ _ ⟨((cell_far (p := ⟨gb364, _, none⟩) NB370_364.out _).trans (((cell_far (p := ⟨gb364, _, none⟩) NB370_364.out _).trans (hHeld.1)))), ((cell_far (p := ⟨gb364, _, none⟩) NB370_364.out _).trans (((cell_far (p := ⟨gb364, _, none⟩) NB370_364.out _).trans (hHeld.2.1)))), ((cell_far (p := ⟨gb364, _, none⟩) NB374_364.out _).trans (((cell_far (p := ⟨gb364, _, none⟩) NB374_364.out _).trans (hHeld.2.2.1)))), ((cell_far (p := ⟨gb364, _, none⟩) NB374_364.out _).trans (((cell_far (p := ⟨gb364, _, none⟩) NB374_364.out _).trans (hHeld.2.2.2))))⟩ (fun hHeld => ?_)
      clear hK K
      refine one_ (i := 32) (N := none) #[true, true, true, true, true, true, true, true, true, true, true, true, true, true, true, true, true, true, true, true, true, true, true, true, true, true, true, true, true, true, true, true, true, false] rfl rfl (one_of HT_.out (by kernel_rfl)) (by decide) (fun K hK => ?_)
      have hs109 : w104.cell? ⟨gb365, 0, none⟩ = some (.int .i64 0) := (blk_cell BK365.out 0).trans rfl
      have hfs109 := blk_frozen BK365.out 0
      have hns109_0 := NB363_365.out
      have hns109_1 := NB364_365.out
      have hns109_3 := NB366_365.out
      have hns109_4 := NB370_365.out
      have hns109_5 := NB374_365.out
      have hns109_6 := NB378_365.out
      have hns109_7 := NB382_365.out
      have hms109_0 := NB365_363.out
      have hms109_1 := NB365_364.out
      have hms109_3 := NB365_366.out
      have hms109_4 := NB365_370.out
      have hms109_5 := NB365_374.out
      have hms109_6 := NB365_378.out
      have hms109_7 := NB365_382.out
      have hs110 : w104.cell? ⟨gb365, 1, none⟩ = some (.int .i64 0) := (blk_cell BK365.out 1).trans rfl
      have hfs110 := blk_frozen BK365.out 1
      have hns110_0 := NB363_365.out
      have hns110_1 := NB364_365.out
      have hns110_3 := NB366_365.out
      have hns110_4 := NB370_365.out
      have hns110_5 := NB374_365.out
      have hns110_6 := NB378_365.out
      have hns110_7 := NB382_365.out
      have hms110_0 := NB365_363.out
      have hms110_1 := NB365_364.out
      have hms110_3 := NB365_366.out
      have hms110_4 := NB365_370.out
      have hms110_5 := NB365_374.out
      have hms110_6 := NB365_378.out
      have hms110_7 := NB365_382.out
      refine skip_ (w1 := ?_) (by rfl) rfl ?_ ?_
      rotate_left
      · go_simp
        rfl
      refine hK.out _ _ ⟨((cell_far (p := ⟨gb365, _, none⟩) NB370_365.out _).trans (((cell_far (p := ⟨gb365, _, none⟩) NB370_365.out _).trans (hHeld.1)))), ((cell_far (p := ⟨gb365, _, none⟩) NB370_365.out _).trans (((cell_far (p := ⟨gb365, _, none⟩) NB370_365.out _).trans (hHeld.2.1)))), ((cell_far (p := ⟨gb365, _, none⟩) NB374_365.out _).trans (((cell_far (p := ⟨gb365, _, none⟩) NB374_365.out _).trans (hHeld.2.2.1)))), ((cell_far (p := ⟨gb365, _, none⟩) NB374_365.out _).trans (((cell_far (p := ⟨gb365, _, none⟩) NB374_365.out _).trans (hHeld.2.2.2))))⟩ (fun hHeld => ?_)
      clear hK K
      refine one_ (i := 33) (N := none) #[true, true, true, true, true, true, true, true, true, true, true, true, true, true, true, true, true, true, true, true, true, true, true, true, true, true, true, true, true, true, true, true, true, true] rfl rfl (one_of HT_.out (by kernel_rfl)) (by decide) (fun K hK => ?_)
      have hs111 : w104.cell? ⟨gb366, 0, none⟩ = some (.int .i64 0) := (blk_cell BK366.out 0).trans rfl
      have hfs111 := blk_frozen BK366.out 0
      have hns111_0 := NB363_366.out
      have hns111_1 := NB364_366.out
      have hns111_2 := NB365_366.out
      have hns111_4 := NB370_366.out
      have hns111_5 := NB374_366.out
      have hns111_6 := NB378_366.out
      have hns111_7 := NB382_366.out
      have hms111_0 := NB366_363.out
      have hms111_1 := NB366_364.out
      have hms111_2 := NB366_365.out
      have hms111_4 := NB366_370.out
      have hms111_5 := NB366_374.out
      have hms111_6 := NB366_378.out
      have hms111_7 := NB366_382.out
      have hs112 : w104.cell? ⟨gb366, 1, none⟩ = some (.int .i64 0) := (blk_cell BK366.out 1).trans rfl
      have hfs112 := blk_frozen BK366.out 1
      have hns112_0 := NB363_366.out
      have hns112_1 := NB364_366.out
      have hns112_2 := NB365_366.out
      have hns112_4 := NB370_366.out
      have hns112_5 := NB374_366.out
      have hns112_6 := NB378_366.out
      have hns112_7 := NB382_366.out
      have hms112_0 := NB366_363.out
      have hms112_1 := NB366_364.out
      have hms112_2 := NB366_365.out
      have hms112_4 := NB366_370.out
      have hms112_5 := NB366_374.out
      have hms112_6 := NB366_378.out
      have hms112_7 := NB366_382.out
      refine skip_ (w1 := ?_) (by rfl) rfl ?_ ?_
      rotate_left
      · go_simp
        rfl
      refine hK.out _ _ ⟨((cell_far (p := ⟨gb366, _, none⟩) NB370_366.out _).trans (((cell_far (p := ⟨gb366, _, none⟩) NB370_366.out _).trans (hHeld.1)))), ((cell_far (p := ⟨gb366, _, none⟩) NB370_366.out _).trans (((cell_far (p := ⟨gb366, _, none⟩) NB370_366.out _).trans (hHeld.2.1)))), ((cell_far (p := ⟨gb366, _, none⟩) NB374_366.out _).trans (((cell_far (p := ⟨gb366, _, none⟩) NB374_366.out _).trans (hHeld.2.2.1)))), ((cell_far (p := ⟨gb366, _, none⟩) NB374_366.out _).trans (((cell_far (p := ⟨gb366, _, none⟩) NB374_366.out _).trans (hHeld.2.2.2))))⟩ (fun hHeld => ?_)
      clear hK K
      refine done_ (done_of HT_.out (by kernel_rfl)) ?_
      try go_wp2
      refine bodyPost_ret (results_list (rs := [.cell 2 25, .cell 3 25, .cell 4 25, .cell 5 25]) rfl (by simp) (.cell gb363 25 #[.int .i64 t367, .int .i64 t368] (0, 0) _ rfl (by (with_reducible repeat (first | refine blk_drewN ?_ _ | refine blk_drew ?_ | refine blk_alloc ?_ _)); refine blk_far ?_ NB363_366.out _; (with_reducible repeat (first | refine blk_drewN ?_ _ | refine blk_drew ?_ | refine blk_alloc ?_ _)); refine blk_far ?_ NB363_366.out _; (with_reducible repeat (first | refine blk_drewN ?_ _ | refine blk_drew ?_ | refine blk_alloc ?_ _)); refine blk_far ?_ NB363_365.out _; (with_reducible repeat (first | refine blk_drewN ?_ _ | refine blk_drew ?_ | refine blk_alloc ?_ _)); refine blk_far ?_ NB363_365.out _; (with_reducible repeat (first | refine blk_drewN ?_ _ | refine blk_drew ?_ | refine blk_alloc ?_ _)); refine blk_far ?_ NB363_364.out _; (with_reducible repeat (first | refine blk_drewN ?_ _ | refine blk_drew ?_ | refine blk_alloc ?_ _)); refine blk_far ?_ NB363_364.out _; (with_reducible repeat (first | refine blk_drewN ?_ _ | refine blk_drew ?_ | refine blk_alloc ?_ _)); refine blk_put (cs := #[.int .i64 t367, .int .i64 0]) ?_ 1 _ rfl; (with_reducible repeat (first | refine blk_drewN ?_ _ | refine blk_drew ?_ | refine blk_alloc ?_ _)); refine blk_put (cs := #[.int .i64 0, .int .i64 0]) ?_ 0 _ rfl; (with_reducible repeat (first | refine blk_drewN ?_ _ | refine blk_drew ?_ | refine blk_alloc ?_ _)); exact BK363.out) Try.underlying25 rfl (by kernel_rfl) (.cell gb364 25 #[.int .i64 t371, .int .i64 t372] (0, 0) _ rfl (by (with_reducible repeat (first | refine blk_drewN ?_ _ | refine blk_drew ?_ | refine blk_alloc ?_ _)); refine blk_far ?_ NB364_366.out _; (with_reducible repeat (first | refine blk_drewN ?_ _ | refine blk_drew ?_ | refine blk_alloc ?_ _)); refine blk_far ?_ NB364_366.out _; (with_reducible repeat (first | refine blk_drewN ?_ _ | refine blk_drew ?_ | refine blk_alloc ?_ _)); refine blk_far ?_ NB364_365.out _; (with_reducible repeat (first | refine blk_drewN ?_ _ | refine blk_drew ?_ | refine blk_alloc ?_ _)); refine blk_far ?_ NB364_365.out _; (with_reducible repeat (first | refine blk_drewN ?_ _ | refine blk_drew ?_ | refine blk_alloc ?_ _)); refine blk_put (cs := #[.int .i64 t371, .int .i64 0]) ?_ 1 _ rfl; (with_reducible repeat (first | refine blk_drewN ?_ _ | refine blk_drew ?_ | refine blk_alloc ?_ _)); refine blk_put (cs := #[.int .i64 0, .int .i64 0]) ?_ 0 _ rfl; (with_reducible repeat (first | refine blk_drewN ?_ _ | refine blk_drew ?_ | refine blk_alloc ?_ _)); refine blk_far ?_ NB364_363.out _; (with_reducible repeat (first | refine blk_drewN ?_ _ | refine blk_drew ?_ | refine blk_alloc ?_ _)); refine blk_far ?_ NB364_363.out _; (with_reducible repeat (first | refine blk_drewN ?_ _ | refine blk_drew ?_ | refine blk_alloc ?_ _)); exact BK364.out) Try.underlying25 rfl (by kernel_rfl) (.cell gb365 25 #[.int .i64 (wrap64 ((wrap64 (2 * t367)) - t371)), .int .i64 (wrap64 ((wrap64 (2 * t368)) - t372))] (0, 0) _ rfl (by (with_reducible repeat (first | refine blk_drewN ?_ _ | refine blk_drew ?_ | refine blk_alloc ?_ _)); refine blk_far ?_ NB365_366.out _; (with_reducible repeat (first | refine blk_drewN ?_ _ | refine blk_drew ?_ | refine blk_alloc ?_ _)); refine blk_far ?_ NB365_366.out _; (with_reducible repeat (first | refine blk_drewN ?_ _ | refine blk_drew ?_ | refine blk_alloc ?_ _)); refine blk_put (cs := #[.int .i64 (wrap64 ((wrap64 (2 * t367)) - t371)), .int .i64 0]) ?_ 1 _ rfl; (with_reducible repeat (first | refine blk_drewN ?_ _ | refine blk_drew ?_ | refine blk_alloc ?_ _)); refine blk_put (cs := #[.int .i64 0, .int .i64 0]) ?_ 0 _ rfl; (with_reducible repeat (first | refine blk_drewN ?_ _ | refine blk_drew ?_ | refine blk_alloc ?_ _)); refine blk_far ?_ NB365_364.out _; (with_reducible repeat (first | refine blk_drewN ?_ _ | refine blk_drew ?_ | refine blk_alloc ?_ _)); refine blk_far ?_ NB365_364.out _; (with_reducible repeat (first | refine blk_drewN ?_ _ | refine blk_drew ?_ | refine blk_alloc ?_ _)); refine blk_far ?_ NB365_363.out _; (with_reducible repeat (first | refine blk_drewN ?_ _ | refine blk_drew ?_ | refine blk_alloc ?_ _)); refine blk_far ?_ NB365_363.out _; (with_reducible repeat (first | refine blk_drewN ?_ _ | refine blk_drew ?_ | refine blk_alloc ?_ _)); exact BK365.out) Try.underlying25 rfl (by kernel_rfl) (.cell gb366 25 #[.int .i64 (wrap64 ((wrap64 (3 * t371)) - (wrap64 (2 * t367)))), .int .i64 (wrap64 ((wrap64 (3 * t372)) - (wrap64 (2 * t368))))] (0, 0) _ rfl (by (with_reducible repeat (first | refine blk_drewN ?_ _ | refine blk_drew ?_ | refine blk_alloc ?_ _)); refine blk_put (cs := #[.int .i64 (wrap64 ((wrap64 (3 * t371)) - (wrap64 (2 * t367)))), .int .i64 0]) ?_ 1 _ rfl; (with_reducible repeat (first | refine blk_drewN ?_ _ | refine blk_drew ?_ | refine blk_alloc ?_ _)); refine blk_put (cs := #[.int .i64 0, .int .i64 0]) ?_ 0 _ rfl; (with_reducible repeat (first | refine blk_drewN ?_ _ | refine blk_drew ?_ | refine blk_alloc ?_ _)); refine blk_far ?_ NB366_365.out _; (with_reducible repeat (first | refine blk_drewN ?_ _ | refine blk_drew ?_ | refine blk_alloc ?_ _)); refine blk_far ?_ NB366_365.out _; (with_reducible repeat (first | refine blk_drewN ?_ _ | refine blk_drew ?_ | refine blk_alloc ?_ _)); refine blk_far ?_ NB366_364.out _; (with_reducible repeat (first | refine blk_drewN ?_ _ | refine blk_drew ?_ | refine blk_alloc ?_ _)); refine blk_far ?_ NB366_364.out _; (with_reducible repeat (first | refine blk_drewN ?_ _ | refine blk_drew ?_ | refine blk_alloc ?_ _)); refine blk_far ?_ NB366_363.out _; (with_reducible repeat (first | refine blk_drewN ?_ _ | refine blk_drew ?_ | refine blk_alloc ?_ _)); refine blk_far ?_ NB366_363.out _; (with_reducible repeat (first | refine blk_drewN ?_ _ | refine blk_drew ?_ | refine blk_alloc ?_ _)); exact BK366.out) Try.underlying25 rfl (by kernel_rfl) .nil))))) rfl ?_
      exact ⟨er, by repeat (first | (with_reducible first | exact HI0.out | apply IsS96.alloc | apply IsS96.drewN | apply IsS96.drew | apply IsS96.set_1 | refine IsS96.far ?_ NB0_363.out _ | refine IsS96.far ?_ NB0_364.out _ | refine IsS96.far ?_ NB0_365.out _ | refine IsS96.far ?_ NB0_366.out _ | refine IsS96.far ?_ NB0_370.out _ | refine IsS96.far ?_ NB0_374.out _ | refine IsS96.far ?_ NB0_378.out _ | refine IsS96.far ?_ NB0_382.out _) | exact HI0.out), by repeat (first | (with_reducible first | exact HB.out | apply below_alloc | apply pw_below_drewN | apply below_drew1 | refine below_set ?_ (IsS96.ge HI0.out) | refine below_set ?_ GE363.out | refine below_set ?_ GE364.out | refine below_set ?_ GE365.out | refine below_set ?_ GE366.out | refine below_set ?_ GE370.out | refine below_set ?_ GE374.out | refine below_set ?_ GE378.out | refine below_set ?_ GE382.out) | exact HB.out), by repeat (first | (with_reducible first | exact HK.out | apply KeepBut.set_ | apply keep_drewN | apply keep_drew | apply keep_alloc | refine keep_far ?_ GW363.out _ | refine keep_far ?_ GW364.out _ | refine keep_far ?_ GW365.out _ | refine keep_far ?_ GW366.out _ | refine keep_far ?_ GW370.out _ | refine keep_far ?_ GW374.out _ | refine keep_far ?_ GW378.out _ | refine keep_far ?_ GW382.out _) | exact HK.out)⟩
    · rw [if_neg c60] at H
      have c60b0 : (t383 == 1) = false := beq_eq_false_iff_ne.mpr c60
      have c60b1 : (t383 != 1) = true := bne_iff_ne.mpr c60
      by_cases c113 : t383 = 2
      · rw [if_pos c113] at H
        have c113b0 : (t383 == 2) = true := beq_iff_eq.mpr c113
        have c113b1 : (t383 != 2) = false := bne_eq_false_iff_eq.mpr c113
        clear c113
        simp only [Option.some.injEq, Prod.mk.injEq] at H
        obtain ⟨rfl, rfl, rfl, rfl, rfl, rfl, rfl, rfl, rfl⟩ := H
        try go_wp2_with fail
        have n0_ := Aside0.mk (blk_drew BK363.out)
        have n1_ := Aside0.mk (blk_drew BK364.out)
        have n2_ := Aside0.mk (blk_drew BK365.out)
        have n3_ := Aside0.mk (blk_drew BK366.out)
        have n4_ := Aside0.mk (blk_drew BK370.out)
        have n5_ := Aside0.mk (blk_drew BK374.out)
        have n6_ := Aside0.mk (blk_drew BK378.out)
        have n7_ := Aside0.mk (blk_drew BK382.out)
        have n8_ := Aside0.mk (IsS96.drew HI0.out)
        have n9_ := Aside0.mk (keep_drew HK.out)
        have n10_ := Aside0.mk (below_drew1 HB.out)
        clear BK363
        clear BK364
        clear BK365
        clear BK366
        clear BK370
        clear BK374
        clear BK378
        clear BK382
        clear HI0
        clear HK
        clear HB
        have BK363 := n0_
        have BK364 := n1_
        have BK365 := n2_
        have BK366 := n3_
        have BK370 := n4_
        have BK374 := n5_
        have BK378 := n6_
        have BK382 := n7_
        have HI0 := n8_
        have HK := n9_
        have HB := n10_
        clear n0_ n1_ n2_ n3_ n4_ n5_ n6_ n7_ n8_ n9_ n10_
        refine start_ (n := 8) (S := fun w' => w'.cell? ⟨gb370, 0, none⟩ = some (.int .i64 t367) ∧ w'.cell? ⟨gb370, 1, none⟩ = some (.int .i64 t368) ∧ w'.cell? ⟨gb374, 0, none⟩ = some (.int .i64 t371) ∧ w'.cell? ⟨gb374, 1, none⟩ = some (.int .i64 t372) ∧ w'.cell? ⟨gb382, 0, none⟩ = some (.int .i64 t379) ∧ w'.cell? ⟨gb382, 1, none⟩ = some (.int .i64 t380)) (ds := []) #[false, false, false, false, false, false, false, false] (by kernel_rfl) rfl rfl ⟨(blk_cell BK370.out 0).trans rfl, (blk_cell BK370.out 1).trans rfl, (blk_cell BK374.out 0).trans rfl, (blk_cell BK374.out 1).trans rfl, (blk_cell BK382.out 0).trans rfl, (blk_cell BK382.out 1).trans rfl⟩ (fun hHeld => ?_); refine with_tabW spec_l92Lines.tab11 spec_l92Lines.bits11 (fun HT_ HW_ => ?_)
        generalize w50.drew = w157 at BK363 BK364 BK365 BK366 BK370 BK374 BK378 BK382 HI0 HK HB hHeld ⊢
        refine take_ (i := 0) (N := some 76) (v := ?_) (a' := ?_) #[true, false, false, false, false, false, false, false] rfl rfl (take_ofW HT_.out HW_.out (by kernel_rfl)) (fun _ _ _ h => h) (Or.inl ⟨by rfl, ?_⟩) hHeld ?_ ?_
        rotate_left
        · rintro w' ⟨s0, s1, s2, s3, s4, s5⟩
          go_simp
          with_reducible rfl
        rotate_left
        · simp only [Act.put, List.setIfInBounds_toArray, List.set_cons_zero, List.set_cons_succ, i64_w, i32_w]
          rfl
        refine take_ (i := 1) (N := some 77) (v := ?_) (a' := ?_) #[true, true, false, false, false, false, false, false] rfl rfl (take_ofW HT_.out HW_.out (by kernel_rfl)) (fun _ _ _ h => h) (Or.inl ⟨by rfl, ?_⟩) hHeld ?_ ?_
        rotate_left
        · rintro w' ⟨s0, s1, s2, s3, s4, s5⟩
          go_simp
          with_reducible rfl
        rotate_left
        · simp only [Act.put, List.setIfInBounds_toArray, List.set_cons_zero, List.set_cons_succ, i64_w, i32_w]
          rfl
        refine take_ (i := 2) (N := some 78) (v := ?_) (a' := ?_) #[true, true, true, false, false, false, false, false] rfl rfl (take_ofW HT_.out HW_.out (by kernel_rfl)) (fun _ _ _ h => h) (Or.inl ⟨by rfl, ?_⟩) hHeld ?_ ?_
        rotate_left
        · rintro w' ⟨s0, s1, s2, s3, s4, s5⟩
          go_simp
          with_reducible rfl
        rotate_left
        · simp only [Act.put, List.setIfInBounds_toArray, List.set_cons_zero, List.set_cons_succ, i64_w, i32_w]
          rfl
        refine take_ (i := 3) (N := some 79) (v := ?_) (a' := ?_) #[true, true, true, true, false, false, false, false] rfl rfl (take_ofW HT_.out HW_.out (by kernel_rfl)) (fun _ _ _ h => h) (Or.inl ⟨by rfl, ?_⟩) hHeld ?_ ?_
        rotate_left
        · rintro w' ⟨s0, s1, s2, s3, s4, s5⟩
          go_simp
          with_reducible rfl
        rotate_left
        · simp only [Act.put, List.setIfInBounds_toArray, List.set_cons_zero, List.set_cons_succ, i64_w, i32_w]
          rfl
        refine one_ (i := 4) (N := none) #[true, true, true, true, true, false, false, false] rfl rfl (one_of HT_.out (by kernel_rfl)) (by decide) (fun K hK => ?_)
        have hs158 : w157.cell? ⟨gb363, 0, none⟩ = some (.int .i64 0) := (blk_cell BK363.out 0).trans rfl
        have hfs158 := blk_frozen BK363.out 0
        have hns158_1 := NB364_363.out
        have hns158_2 := NB365_363.out
        have hns158_3 := NB366_363.out
        have hns158_4 := NB370_363.out
        have hns158_5 := NB374_363.out
        have hns158_6 := NB378_363.out
        have hns158_7 := NB382_363.out
        have hms158_1 := NB363_364.out
        have hms158_2 := NB363_365.out
        have hms158_3 := NB363_366.out
        have hms158_4 := NB363_370.out
        have hms158_5 := NB363_374.out
        have hms158_6 := NB363_378.out
        have hms158_7 := NB363_382.out
        have hs159 : w157.cell? ⟨gb363, 1, none⟩ = some (.int .i64 0) := (blk_cell BK363.out 1).trans rfl
        have hfs159 := blk_frozen BK363.out 1
        have hns159_1 := NB364_363.out
        have hns159_2 := NB365_363.out
        have hns159_3 := NB366_363.out
        have hns159_4 := NB370_363.out
        have hns159_5 := NB374_363.out
        have hns159_6 := NB378_363.out
        have hns159_7 := NB382_363.out
        have hms159_1 := NB363_364.out
        have hms159_2 := NB363_365.out
        have hms159_3 := NB363_366.out
        have hms159_4 := NB363_370.out
        have hms159_5 := NB363_374.out
        have hms159_6 := NB363_378.out
        have hms159_7 := NB363_382.out
        refine skip_ (w1 := ?_) (by rfl) rfl ?_ ?_
        rotate_left
        · go_simp
          rfl
        refine hK.out _ _ ⟨((cell_far (p := ⟨gb363, _, none⟩) NB370_363.out _).trans (((cell_far (p := ⟨gb363, _, none⟩) NB370_363.out _).trans (hHeld.1)))), ((cell_far (p := ⟨gb363, _, none⟩) NB370_363.out _).trans (((cell_far (p := ⟨gb363, _, none⟩) NB370_363.out _).trans (hHeld.2.1)))), ((cell_far (p := ⟨gb363, _, none⟩) NB374_363.out _).trans (((cell_far (p := ⟨gb363, _, none⟩) NB374_363.out _).trans (hHeld.2.2.1)))), ((cell_far (p := ⟨gb363, _, none⟩) NB374_363.out _).trans (((cell_far (p := ⟨gb363, _, none⟩) NB374_363.out _).trans (hHeld.2.2.2.1)))), ((cell_far (p := ⟨gb363, _, none⟩) NB382_363.out _).trans (((cell_far (p := ⟨gb363, _, none⟩) NB382_363.out _).trans (hHeld.2.2.2.2.1)))), ((cell_far (p := ⟨gb363, _, none⟩) NB382_363.out _).trans (((cell_far (p := ⟨gb363, _, none⟩) NB382_363.out _).trans (hHeld.2.2.2.2.2))))⟩ (fun hHeld => ?_)
        clear hK K
        refine one_ (i := 5) (N := none) #[true, true, true, true, true, true, false, false] rfl rfl (one_of HT_.out (by kernel_rfl)) (by decide) (fun K hK => ?_)
        have hs160 : w157.cell? ⟨gb364, 0, none⟩ = some (.int .i64 0) := (blk_cell BK364.out 0).trans rfl
        have hfs160 := blk_frozen BK364.out 0
        have hns160_0 := NB363_364.out
        have hns160_2 := NB365_364.out
        have hns160_3 := NB366_364.out
        have hns160_4 := NB370_364.out
        have hns160_5 := NB374_364.out
        have hns160_6 := NB378_364.out
        have hns160_7 := NB382_364.out
        have hms160_0 := NB364_363.out
        have hms160_2 := NB364_365.out
        have hms160_3 := NB364_366.out
        have hms160_4 := NB364_370.out
        have hms160_5 := NB364_374.out
        have hms160_6 := NB364_378.out
        have hms160_7 := NB364_382.out
        have hs161 : w157.cell? ⟨gb364, 1, none⟩ = some (.int .i64 0) := (blk_cell BK364.out 1).trans rfl
        have hfs161 := blk_frozen BK364.out 1
        have hns161_0 := NB363_364.out
        have hns161_2 := NB365_364.out
        have hns161_3 := NB366_364.out
        have hns161_4 := NB370_364.out
        have hns161_5 := NB374_364.out
        have hns161_6 := NB378_364.out
        have hns161_7 := NB382_364.out
        have hms161_0 := NB364_363.out
        have hms161_2 := NB364_365.out
        have hms161_3 := NB364_366.out
        have hms161_4 := NB364_370.out
        have hms161_5 := NB364_374.out
        have hms161_6 := NB364_378.out
        have hms161_7 := NB364_382.out
        refine skip_ (w1 := ?_) (by rfl) rfl ?_ ?_
        rotate_left
        · go_simp
          rfl
        refine hK.out _ _ ⟨((cell_far (p := ⟨gb364, _, none⟩) NB370_364.out _).trans (((cell_far (p := ⟨gb364, _, none⟩) NB370_364.out _).trans (hHeld.1)))), ((cell_far (p := ⟨gb364, _, none⟩) NB370_364.out _).trans (((cell_far (p := ⟨gb364, _, none⟩) NB370_364.out _).trans (hHeld.2.1)))), ((cell_far (p := ⟨gb364, _, none⟩) NB374_364.out _).trans (((cell_far (p := ⟨gb364, _, none⟩) NB374_364.out _).trans (hHeld.2.2.1)))), ((cell_far (p := ⟨gb364, _, none⟩) NB374_364.out _).trans (((cell_far (p := ⟨gb364, _, none⟩) NB374_364.out _).trans (hHeld.2.2.2.1)))), ((cell_far (p := ⟨gb364, _, none⟩) NB382_364.out _).trans (((cell_far (p := ⟨gb364, _, none⟩) NB382_364.out _).trans (hHeld.2.2.2.2.1)))), ((cell_far (p := ⟨gb364, _, none⟩) NB382_364.out _).trans (((cell_far (p := ⟨gb364, _, none⟩) NB382_364.out _).trans (hHeld.2.2.2.2.2))))⟩ (fun hHeld => ?_)
        clear hK K
        refine one_ (i := 6) (N := none) #[true, true, true, true, true, true, true, false] rfl rfl (one_of HT_.out (by kernel_rfl)) (by decide) (fun K hK => ?_)
        have hs162 : w157.cell? ⟨gb365, 0, none⟩ = some (.int .i64 0) := (blk_cell BK365.out 0).trans rfl
        have hfs162 := blk_frozen BK365.out 0
        have hns162_0 := NB363_365.out
        have hns162_1 := NB364_365.out
        have hns162_3 := NB366_365.out
        have hns162_4 := NB370_365.out
        have hns162_5 := NB374_365.out
        have hns162_6 := NB378_365.out
        have hns162_7 := NB382_365.out
        have hms162_0 := NB365_363.out
        have hms162_1 := NB365_364.out
        have hms162_3 := NB365_366.out
        have hms162_4 := NB365_370.out
        have hms162_5 := NB365_374.out
        have hms162_6 := NB365_378.out
        have hms162_7 := NB365_382.out
        have hs163 : w157.cell? ⟨gb365, 1, none⟩ = some (.int .i64 0) := (blk_cell BK365.out 1).trans rfl
        have hfs163 := blk_frozen BK365.out 1
        have hns163_0 := NB363_365.out
        have hns163_1 := NB364_365.out
        have hns163_3 := NB366_365.out
        have hns163_4 := NB370_365.out
        have hns163_5 := NB374_365.out
        have hns163_6 := NB378_365.out
        have hns163_7 := NB382_365.out
        have hms163_0 := NB365_363.out
        have hms163_1 := NB365_364.out
        have hms163_3 := NB365_366.out
        have hms163_4 := NB365_370.out
        have hms163_5 := NB365_374.out
        have hms163_6 := NB365_378.out
        have hms163_7 := NB365_382.out
        refine skip_ (w1 := ?_) (by rfl) rfl ?_ ?_
        rotate_left
        · go_simp
          rfl
        refine hK.out _ _ ⟨((cell_far (p := ⟨gb365, _, none⟩) NB370_365.out _).trans (((cell_far (p := ⟨gb365, _, none⟩) NB370_365.out _).trans (hHeld.1)))), ((cell_far (p := ⟨gb365, _, none⟩) NB370_365.out _).trans (((cell_far (p := ⟨gb365, _, none⟩) NB370_365.out _).trans (hHeld.2.1)))), ((cell_far (p := ⟨gb365, _, none⟩) NB374_365.out _).trans (((cell_far (p := ⟨gb365, _, none⟩) NB374_365.out _).trans (hHeld.2.2.1)))), ((cell_far (p := ⟨gb365, _, none⟩) NB374_365.out _).trans (((cell_far (p := ⟨gb365, _, none⟩) NB374_365.out _).trans (hHeld.2.2.2.1)))), ((cell_far (p := ⟨gb365, _, none⟩) NB382_365.out _).trans (((cell_far (p := ⟨gb365, _, none⟩) NB382_365.out _).trans (hHeld.2.2.2.2.1)))), ((cell_far (p := ⟨gb365, _, none⟩) NB382_365.out _).trans (((cell_far (p := ⟨gb365, _, none⟩) NB382_365.out _).trans (hHeld.2.2.2.2.2))))⟩ (fun hHeld => ?_)
        clear hK K
        refine one_ (i := 7) (N := none) #[true, true, true, true, true, true, true, true] rfl rfl (one_of HT_.out (by kernel_rfl)) (by decide) (fun K hK => ?_)
        have hs164 : w157.cell? ⟨gb366, 0, none⟩ = some (.int .i64 0) := (blk_cell BK366.out 0).trans rfl
        have hfs164 := blk_frozen BK366.out 0
        have hns164_0 := NB363_366.out
        have hns164_1 := NB364_366.out
        have hns164_2 := NB365_366.out
        have hns164_4 := NB370_366.out
        have hns164_5 := NB374_366.out
        have hns164_6 := NB378_366.out
        have hns164_7 := NB382_366.out
        have hms164_0 := NB366_363.out
        have hms164_1 := NB366_364.out
        have hms164_2 := NB366_365.out
        have hms164_4 := NB366_370.out
        have hms164_5 := NB366_374.out
        have hms164_6 := NB366_378.out
        have hms164_7 := NB366_382.out
        have hs165 : w157.cell? ⟨gb366, 1, none⟩ = some (.int .i64 0) := (blk_cell BK366.out 1).trans rfl
        have hfs165 := blk_frozen BK366.out 1
        have hns165_0 := NB363_366.out
        have hns165_1 := NB364_366.out
        have hns165_2 := NB365_366.out
        have hns165_4 := NB370_366.out
        have hns165_5 := NB374_366.out
        have hns165_6 := NB378_366.out
        have hns165_7 := NB382_366.out
        have hms165_0 := NB366_363.out
        have hms165_1 := NB366_364.out
        have hms165_2 := NB366_365.out
        have hms165_4 := NB366_370.out
        have hms165_5 := NB366_374.out
        have hms165_6 := NB366_378.out
        have hms165_7 := NB366_382.out
        refine skip_ (w1 := ?_) (by rfl) rfl ?_ ?_
        rotate_left
        · go_simp
          rfl
        refine hK.out _ _ ⟨((cell_far (p := ⟨gb366, _, none⟩) NB370_366.out _).trans (((cell_far (p := ⟨gb366, _, none⟩) NB370_366.out _).trans (hHeld.1)))), ((cell_far (p := ⟨gb366, _, none⟩) NB370_366.out _).trans (((cell_far (p := ⟨gb366, _, none⟩) NB370_366.out _).trans (hHeld.2.1)))), ((cell_far (p := ⟨gb366, _, none⟩) NB374_366.out _).trans (((cell_far (p := ⟨gb366, _, none⟩) NB374_366.out _).trans (hHeld.2.2.1)))), ((cell_far (p := ⟨gb366, _, none⟩) NB374_366.out _).trans (((cell_far (p := ⟨gb366, _, none⟩) NB374_366.out _).trans (hHeld.2.2.2.1)))), ((cell_far (p := ⟨gb366, _, none⟩) NB382_366.out _).trans (((cell_far (p := ⟨gb366, _, none⟩) NB382_366.out _).trans (hHeld.2.2.2.2.1)))), ((cell_far (p := ⟨gb366, _, none⟩) NB382_366.out _).trans (((cell_far (p := ⟨gb366, _, none⟩) NB382_366.out _).trans (hHeld.2.2.2.2.2))))⟩ (fun hHeld => ?_)
        clear hK K
        refine done_ (done_of HT_.out (by kernel_rfl)) ?_
        try go_wp2
        refine bodyPost_ret (results_list (rs := [.cell 2 25, .cell 3 25, .cell 4 25, .cell 5 25]) rfl (by simp) (.cell gb363 25 #[.int .i64 t367, .int .i64 t368] (0, 0) _ rfl (by (with_reducible repeat (first | refine blk_drewN ?_ _ | refine blk_drew ?_ | refine blk_alloc ?_ _)); refine blk_far ?_ NB363_366.out _; (with_reducible repeat (first | refine blk_drewN ?_ _ | refine blk_drew ?_ | refine blk_alloc ?_ _)); refine blk_far ?_ NB363_366.out _; (with_reducible repeat (first | refine blk_drewN ?_ _ | refine blk_drew ?_ | refine blk_alloc ?_ _)); refine blk_far ?_ NB363_365.out _; (with_reducible repeat (first | refine blk_drewN ?_ _ | refine blk_drew ?_ | refine blk_alloc ?_ _)); refine blk_far ?_ NB363_365.out _; (with_reducible repeat (first | refine blk_drewN ?_ _ | refine blk_drew ?_ | refine blk_alloc ?_ _)); refine blk_far ?_ NB363_364.out _; (with_reducible repeat (first | refine blk_drewN ?_ _ | refine blk_drew ?_ | refine blk_alloc ?_ _)); refine blk_far ?_ NB363_364.out _; (with_reducible repeat (first | refine blk_drewN ?_ _ | refine blk_drew ?_ | refine blk_alloc ?_ _)); refine blk_put (cs := #[.int .i64 t367, .int .i64 0]) ?_ 1 _ rfl; (with_reducible repeat (first | refine blk_drewN ?_ _ | refine blk_drew ?_ | refine blk_alloc ?_ _)); refine blk_put (cs := #[.int .i64 0, .int .i64 0]) ?_ 0 _ rfl; (with_reducible repeat (first | refine blk_drewN ?_ _ | refine blk_drew ?_ | refine blk_alloc ?_ _)); exact BK363.out) Try.underlying25 rfl (by kernel_rfl) (.cell gb364 25 #[.int .i64 t371, .int .i64 t372] (0, 0) _ rfl (by (with_reducible repeat (first | refine blk_drewN ?_ _ | refine blk_drew ?_ | refine blk_alloc ?_ _)); refine blk_far ?_ NB364_366.out _; (with_reducible repeat (first | refine blk_drewN ?_ _ | refine blk_drew ?_ | refine blk_alloc ?_ _)); refine blk_far ?_ NB364_366.out _; (with_reducible repeat (first | refine blk_drewN ?_ _ | refine blk_drew ?_ | refine blk_alloc ?_ _)); refine blk_far ?_ NB364_365.out _; (with_reducible repeat (first | refine blk_drewN ?_ _ | refine blk_drew ?_ | refine blk_alloc ?_ _)); refine blk_far ?_ NB364_365.out _; (with_reducible repeat (first | refine blk_drewN ?_ _ | refine blk_drew ?_ | refine blk_alloc ?_ _)); refine blk_put (cs := #[.int .i64 t371, .int .i64 0]) ?_ 1 _ rfl; (with_reducible repeat (first | refine blk_drewN ?_ _ | refine blk_drew ?_ | refine blk_alloc ?_ _)); refine blk_put (cs := #[.int .i64 0, .int .i64 0]) ?_ 0 _ rfl; (with_reducible repeat (first | refine blk_drewN ?_ _ | refine blk_drew ?_ | refine blk_alloc ?_ _)); refine blk_far ?_ NB364_363.out _; (with_reducible repeat (first | refine blk_drewN ?_ _ | refine blk_drew ?_ | refine blk_alloc ?_ _)); refine blk_far ?_ NB364_363.out _; (with_reducible repeat (first | refine blk_drewN ?_ _ | refine blk_drew ?_ | refine blk_alloc ?_ _)); exact BK364.out) Try.underlying25 rfl (by kernel_rfl) (.cell gb365 25 #[.int .i64 t371, .int .i64 t372] (0, 0) _ rfl (by (with_reducible repeat (first | refine blk_drewN ?_ _ | refine blk_drew ?_ | refine blk_alloc ?_ _)); refine blk_far ?_ NB365_366.out _; (with_reducible repeat (first | refine blk_drewN ?_ _ | refine blk_drew ?_ | refine blk_alloc ?_ _)); refine blk_far ?_ NB365_366.out _; (with_reducible repeat (first | refine blk_drewN ?_ _ | refine blk_drew ?_ | refine blk_alloc ?_ _)); refine blk_put (cs := #[.int .i64 t371, .int .i64 0]) ?_ 1 _ rfl; (with_reducible repeat (first | refine blk_drewN ?_ _ | refine blk_drew ?_ | refine blk_alloc ?_ _)); refine blk_put (cs := #[.int .i64 0, .int .i64 0]) ?_ 0 _ rfl; (with_reducible repeat (first | refine blk_drewN ?_ _ | refine blk_drew ?_ | refine blk_alloc ?_ _)); refine blk_far ?_ NB365_364.out _; (with_reducible repeat (first | refine blk_drewN ?_ _ | refine blk_drew ?_ | refine blk_alloc ?_ _)); refine blk_far ?_ NB365_364.out _; (with_reducible repeat (first | refine blk_drewN ?_ _ | refine blk_drew ?_ | refine blk_alloc ?_ _)); refine blk_far ?_ NB365_363.out _; (with_reducible repeat (first | refine blk_drewN ?_ _ | refine blk_drew ?_ | refine blk_alloc ?_ _)); refine blk_far ?_ NB365_363.out _; (with_reducible repeat (first | refine blk_drewN ?_ _ | refine blk_drew ?_ | refine blk_alloc ?_ _)); exact BK365.out) Try.underlying25 rfl (by kernel_rfl) (.cell gb366 25 #[.int .i64 t379, .int .i64 t380] (0, 0) _ rfl (by (with_reducible repeat (first | refine blk_drewN ?_ _ | refine blk_drew ?_ | refine blk_alloc ?_ _)); refine blk_put (cs := #[.int .i64 t379, .int .i64 0]) ?_ 1 _ rfl; (with_reducible repeat (first | refine blk_drewN ?_ _ | refine blk_drew ?_ | refine blk_alloc ?_ _)); refine blk_put (cs := #[.int .i64 0, .int .i64 0]) ?_ 0 _ rfl; (with_reducible repeat (first | refine blk_drewN ?_ _ | refine blk_drew ?_ | refine blk_alloc ?_ _)); refine blk_far ?_ NB366_365.out _; (with_reducible repeat (first | refine blk_drewN ?_ _ | refine blk_drew ?_ | refine blk_alloc ?_ _)); refine blk_far ?_ NB366_365.out _; (with_reducible repeat (first | refine blk_drewN ?_ _ | refine blk_drew ?_ | refine blk_alloc ?_ _)); refine blk_far ?_ NB366_364.out _; (with_reducible repeat (first | refine blk_drewN ?_ _ | refine blk_drew ?_ | refine blk_alloc ?_ _)); refine blk_far ?_ NB366_364.out _; (with_reducible repeat (first | refine blk_drewN ?_ _ | refine blk_drew ?_ | refine blk_alloc ?_ _)); refine blk_far ?_ NB366_363.out _; (with_reducible repeat (first | refine blk_drewN ?_ _ | refine blk_drew ?_ | refine blk_alloc ?_ _)); refine blk_far ?_ NB366_363.out _; (with_reducible repeat (first | refine blk_drewN ?_ _ | refine blk_drew ?_ | refine blk_alloc ?_ _)); exact BK366.out) Try.underlying25 rfl (by kernel_rfl) .nil))))) rfl ?_
        exact ⟨er, by repeat (first | (with_reducible first | exact HI0.out | apply IsS96.alloc | apply IsS96.drewN | apply IsS96.drew | apply IsS96.set_1 | refine IsS96.far ?_ NB0_363.out _ | refine IsS96.far ?_ NB0_364.out _ | refine IsS96.far ?_ NB0_365.out _ | refine IsS96.far ?_ NB0_366.out _ | refine IsS96.far ?_ NB0_370.out _ | refine IsS96.far ?_ NB0_374.out _ | refine IsS96.far ?_ NB0_378.out _ | refine IsS96.far ?_ NB0_382.out _) | exact HI0.out), by repeat (first | (with_reducible first | exact HB.out | apply below_alloc | apply pw_below_drewN | apply below_drew1 | refine below_set ?_ (IsS96.ge HI0.out) | refine below_set ?_ GE363.out | refine below_set ?_ GE364.out | refine below_set ?_ GE365.out | refine below_set ?_ GE366.out | refine below_set ?_ GE370.out | refine below_set ?_ GE374.out | refine below_set ?_ GE378.out | refine below_set ?_ GE382.out) | exact HB.out), by repeat (first | (with_reducible first | exact HK.out | apply KeepBut.set_ | apply keep_drewN | apply keep_drew | apply keep_alloc | refine keep_far ?_ GW363.out _ | refine keep_far ?_ GW364.out _ | refine keep_far ?_ GW365.out _ | refine keep_far ?_ GW366.out _ | refine keep_far ?_ GW370.out _ | refine keep_far ?_ GW374.out _ | refine keep_far ?_ GW378.out _ | refine keep_far ?_ GW382.out _) | exact HK.out)⟩
      · rw [if_neg c113] at H
        have c113b0 : (t383 == 2) = false := beq_eq_false_iff_ne.mpr c113
        have c113b1 : (t383 != 2) = true := bne_iff_ne.mpr c113
        simp only [Option.some.injEq, Prod.mk.injEq] at H
        obtain ⟨rfl, rfl, rfl, rfl, rfl, rfl, rfl, rfl, rfl⟩ := H
        try go_wp2_with fail
        have n0_ := Aside0.mk (blk_drew BK363.out)
        have n1_ := Aside0.mk (blk_drew BK364.out)
        have n2_ := Aside0.mk (blk_drew BK365.out)
        have n3_ := Aside0.mk (blk_drew BK366.out)
        have n4_ := Aside0.mk (blk_drew BK370.out)
        have n5_ := Aside0.mk (blk_drew BK374.out)
        have n6_ := Aside0.mk (blk_drew BK378.out)
        have n7_ := Aside0.mk (blk_drew BK382.out)
        have n8_ := Aside0.mk (IsS96.drew HI0.out)
        have n9_ := Aside0.mk (keep_drew HK.out)
        have n10_ := Aside0.mk (below_drew1 HB.out)
        clear BK363
        clear BK364
        clear BK365
        clear BK366
        clear BK370
        clear BK374
        clear BK378
        clear BK382
        clear HI0
        clear HK
        clear HB
        have BK363 := n0_
        have BK364 := n1_
        have BK365 := n2_
        have BK366 := n3_
        have BK370 := n4_
        have BK374 := n5_
        have BK378 := n6_
        have BK382 := n7_
        have HI0 := n8_
        have HK := n9_
        have HB := n10_
        clear n0_ n1_ n2_ n3_ n4_ n5_ n6_ n7_ n8_ n9_ n10_
        refine start_ (n := 8) (S := fun w' => w'.cell? ⟨gb370, 0, none⟩ = some (.int .i64 t367) ∧ w'.cell? ⟨gb370, 1, none⟩ = some (.int .i64 t368) ∧ w'.cell? ⟨gb374, 0, none⟩ = some (.int .i64 t371) ∧ w'.cell? ⟨gb374, 1, none⟩ = some (.int .i64 t372) ∧ w'.cell? ⟨gb378, 0, none⟩ = some (.int .i64 t375) ∧ w'.cell? ⟨gb378, 1, none⟩ = some (.int .i64 t376) ∧ w'.cell? ⟨gb382, 0, none⟩ = some (.int .i64 t379) ∧ w'.cell? ⟨gb382, 1, none⟩ = some (.int .i64 t380)) (ds := []) #[false, false, false, false, false, false, false, false] (by kernel_rfl) rfl rfl ⟨(blk_cell BK370.out 0).trans rfl, (blk_cell BK370.out 1).trans rfl, (blk_cell BK374.out 0).trans rfl, (blk_cell BK374.out 1).trans rfl, (blk_cell BK378.out 0).trans rfl, (blk_cell BK378.out 1).trans rfl, (blk_cell BK382.out 0).trans rfl, (blk_cell BK382.out 1).trans rfl⟩ (fun hHeld => ?_); refine with_tabW spec_l92Lines.tab12 spec_l92Lines.bits12 (fun HT_ HW_ => ?_)
        generalize w50.drew = w209 at BK363 BK364 BK365 BK366 BK370 BK374 BK378 BK382 HI0 HK HB hHeld ⊢
        refine take_ (i := 0) (N := some 80) (v := ?_) (a' := ?_) #[true, false, false, false, false, false, false, false] rfl rfl (take_ofW HT_.out HW_.out (by kernel_rfl)) (fun _ _ _ h => h) (Or.inl ⟨by rfl, ?_⟩) hHeld ?_ ?_
        rotate_left
        · rintro w' ⟨s0, s1, s2, s3, s4, s5, s6, s7⟩
          go_simp
          with_reducible rfl
        rotate_left
        · simp only [Act.put, List.setIfInBounds_toArray, List.set_cons_zero, List.set_cons_succ, i64_w, i32_w]
          rfl
        refine take_ (i := 1) (N := some 81) (v := ?_) (a' := ?_) #[true, true, false, false, false, false, false, false] rfl rfl (take_ofW HT_.out HW_.out (by kernel_rfl)) (fun _ _ _ h => h) (Or.inl ⟨by rfl, ?_⟩) hHeld ?_ ?_
        rotate_left
        · rintro w' ⟨s0, s1, s2, s3, s4, s5, s6, s7⟩
          go_simp
          with_reducible rfl
        rotate_left
        · simp only [Act.put, List.setIfInBounds_toArray, List.set_cons_zero, List.set_cons_succ, i64_w, i32_w]
          rfl
        refine take_ (i := 2) (N := some 82) (v := ?_) (a' := ?_) #[true, true, true, false, false, false, false, false] rfl rfl (take_ofW HT_.out HW_.out (by kernel_rfl)) (fun _ _ _ h => h) (Or.inl ⟨by rfl, ?_⟩) hHeld ?_ ?_
        rotate_left
        · rintro w' ⟨s0, s1, s2, s3, s4, s5, s6, s7⟩
          go_simp
          with_reducible rfl
        rotate_left
        · simp only [Act.put, List.setIfInBounds_toArray, List.set_cons_zero, List.set_cons_succ, i64_w, i32_w]
          rfl
        refine take_ (i := 3) (N := some 83) (v := ?_) (a' := ?_) #[true, true, true, true, false, false, false, false] rfl rfl (take_ofW HT_.out HW_.out (by kernel_rfl)) (fun _ _ _ h => h) (Or.inl ⟨by rfl, ?_⟩) hHeld ?_ ?_
        rotate_left
        · rintro w' ⟨s0, s1, s2, s3, s4, s5, s6, s7⟩
          go_simp
          with_reducible rfl
        rotate_left
        · simp only [Act.put, List.setIfInBounds_toArray, List.set_cons_zero, List.set_cons_succ, i64_w, i32_w]
          rfl
        refine one_ (i := 4) (N := none) #[true, true, true, true, true, false, false, false] rfl rfl (one_of HT_.out (by kernel_rfl)) (by decide) (fun K hK => ?_)
        have hs210 : w209.cell? ⟨gb363, 0, none⟩ = some (.int .i64 0) := (blk_cell BK363.out 0).trans rfl
        have hfs210 := blk_frozen BK363.out 0
        have hns210_1 := NB364_363.out
        have hns210_2 := NB365_363.out
        have hns210_3 := NB366_363.out
        have hns210_4 := NB370_363.out
        have hns210_5 := NB374_363.out
        have hns210_6 := NB378_363.out
        have hns210_7 := NB382_363.out
        have hms210_1 := NB363_364.out
        have hms210_2 := NB363_365.out
        have hms210_3 := NB363_366.out
        have hms210_4 := NB363_370.out
        have hms210_5 := NB363_374.out
        have hms210_6 := NB363_378.out
        have hms210_7 := NB363_382.out
        have hs211 : w209.cell? ⟨gb363, 1, none⟩ = some (.int .i64 0) := (blk_cell BK363.out 1).trans rfl
        have hfs211 := blk_frozen BK363.out 1
        have hns211_1 := NB364_363.out
        have hns211_2 := NB365_363.out
        have hns211_3 := NB366_363.out
        have hns211_4 := NB370_363.out
        have hns211_5 := NB374_363.out
        have hns211_6 := NB378_363.out
        have hns211_7 := NB382_363.out
        have hms211_1 := NB363_364.out
        have hms211_2 := NB363_365.out
        have hms211_3 := NB363_366.out
        have hms211_4 := NB363_370.out
        have hms211_5 := NB363_374.out
        have hms211_6 := NB363_378.out
        have hms211_7 := NB363_382.out
        refine skip_ (w1 := ?_) (by rfl) rfl ?_ ?_
        rotate_left
        · go_simp
          rfl
        refine hK.out _ _ ⟨((cell_far (p := ⟨gb363, _, none⟩) NB370_363.out _).trans (((cell_far (p := ⟨gb363, _, none⟩) NB370_363.out _).trans (hHeld.1)))), ((cell_far (p := ⟨gb363, _, none⟩) NB370_363.out _).trans (((cell_far (p := ⟨gb363, _, none⟩) NB370_363.out _).trans (hHeld.2.1)))), ((cell_far (p := ⟨gb363, _, none⟩) NB374_363.out _).trans (((cell_far (p := ⟨gb363, _, none⟩) NB374_363.out _).trans (hHeld.2.2.1)))), ((cell_far (p := ⟨gb363, _, none⟩) NB374_363.out _).trans (((cell_far (p := ⟨gb363, _, none⟩) NB374_363.out _).trans (hHeld.2.2.2.1)))), ((cell_far (p := ⟨gb363, _, none⟩) NB378_363.out _).trans (((cell_far (p := ⟨gb363, _, none⟩) NB378_363.out _).trans (hHeld.2.2.2.2.1)))), ((cell_far (p := ⟨gb363, _, none⟩) NB378_363.out _).trans (((cell_far (p := ⟨gb363, _, none⟩) NB378_363.out _).trans (hHeld.2.2.2.2.2.1)))), ((cell_far (p := ⟨gb363, _, none⟩) NB382_363.out _).trans (((cell_far (p := ⟨gb363, _, none⟩) NB382_363.out _).trans (hHeld.2.2.2.2.2.2.1)))), ((cell_far (p := ⟨gb363, _, none⟩) NB382_363.out _).trans (((cell_far (p := ⟨gb363, _, none⟩) NB382_363.out _).trans (hHeld.2.2.2.2.2.2.2))))⟩ (fun hHeld => ?_)
        clear hK K
        refine one_ (i := 5) (N := none) #[true, true, true, true, true, true, false, false] rfl rfl (one_of HT_.out (by kernel_rfl)) (by decide) (fun K hK => ?_)
        have hs212 : w209.cell? ⟨gb364, 0, none⟩ = some (.int .i64 0) := (blk_cell BK364.out 0).trans rfl
        have hfs212 := blk_frozen BK364.out 0
        have hns212_0 := NB363_364.out
        have hns212_2 := NB365_364.out
        have hns212_3 := NB366_364.out
        have hns212_4 := NB370_364.out
        have hns212_5 := NB374_364.out
        have hns212_6 := NB378_364.out
        have hns212_7 := NB382_364.out
        have hms212_0 := NB364_363.out
        have hms212_2 := NB364_365.out
        have hms212_3 := NB364_366.out
        have hms212_4 := NB364_370.out
        have hms212_5 := NB364_374.out
        have hms212_6 := NB364_378.out
        have hms212_7 := NB364_382.out
        have hs213 : w209.cell? ⟨gb364, 1, none⟩ = some (.int .i64 0) := (blk_cell BK364.out 1).trans rfl
        have hfs213 := blk_frozen BK364.out 1
        have hns213_0 := NB363_364.out
        have hns213_2 := NB365_364.out
        have hns213_3 := NB366_364.out
        have hns213_4 := NB370_364.out
        have hns213_5 := NB374_364.out
        have hns213_6 := NB378_364.out
        have hns213_7 := NB382_364.out
        have hms213_0 := NB364_363.out
        have hms213_2 := NB364_365.out
        have hms213_3 := NB364_366.out
        have hms213_4 := NB364_370.out
        have hms213_5 := NB364_374.out
        have hms213_6 := NB364_378.out
        have hms213_7 := NB364_382.out
        refine skip_ (w1 := ?_) (by rfl) rfl ?_ ?_
        rotate_left
        · go_simp
          rfl
        refine hK.out _ _ ⟨((cell_far (p := ⟨gb364, _, none⟩) NB370_364.out _).trans (((cell_far (p := ⟨gb364, _, none⟩) NB370_364.out _).trans (hHeld.1)))), ((cell_far (p := ⟨gb364, _, none⟩) NB370_364.out _).trans (((cell_far (p := ⟨gb364, _, none⟩) NB370_364.out _).trans (hHeld.2.1)))), ((cell_far (p := ⟨gb364, _, none⟩) NB374_364.out _).trans (((cell_far (p := ⟨gb364, _, none⟩) NB374_364.out _).trans (hHeld.2.2.1)))), ((cell_far (p := ⟨gb364, _, none⟩) NB374_364.out _).trans (((cell_far (p := ⟨gb364, _, none⟩) NB374_364.out _).trans (hHeld.2.2.2.1)))), ((cell_far (p := ⟨gb364, _, none⟩) NB378_364.out _).trans (((cell_far (p := ⟨gb364, _, none⟩) NB378_364.out _).trans (hHeld.2.2.2.2.1)))), ((cell_far (p := ⟨gb364, _, none⟩) NB378_364.out _).trans (((cell_far (p := ⟨gb364, _, none⟩) NB378_364.out _).trans (hHeld.2.2.2.2.2.1)))), ((cell_far (p := ⟨gb364, _, none⟩) NB382_364.out _).trans (((cell_far (p := ⟨gb364, _, none⟩) NB382_364.out _).trans (hHeld.2.2.2.2.2.2.1)))), ((cell_far (p := ⟨gb364, _, none⟩) NB382_364.out _).trans (((cell_far (p := ⟨gb364, _, none⟩) NB382_364.out _).trans (hHeld.2.2.2.2.2.2.2))))⟩ (fun hHeld => ?_)
        clear hK K
        refine one_ (i := 6) (N := none) #[true, true, true, true, true, true, true, false] rfl rfl (one_of HT_.out (by kernel_rfl)) (by decide) (fun K hK => ?_)
        have hs214 : w209.cell? ⟨gb365, 0, none⟩ = some (.int .i64 0) := (blk_cell BK365.out 0).trans rfl
        have hfs214 := blk_frozen BK365.out 0
        have hns214_0 := NB363_365.out
        have hns214_1 := NB364_365.out
        have hns214_3 := NB366_365.out
        have hns214_4 := NB370_365.out
        have hns214_5 := NB374_365.out
        have hns214_6 := NB378_365.out
        have hns214_7 := NB382_365.out
        have hms214_0 := NB365_363.out
        have hms214_1 := NB365_364.out
        have hms214_3 := NB365_366.out
        have hms214_4 := NB365_370.out
        have hms214_5 := NB365_374.out
        have hms214_6 := NB365_378.out
        have hms214_7 := NB365_382.out
        have hs215 : w209.cell? ⟨gb365, 1, none⟩ = some (.int .i64 0) := (blk_cell BK365.out 1).trans rfl
        have hfs215 := blk_frozen BK365.out 1
        have hns215_0 := NB363_365.out
        have hns215_1 := NB364_365.out
        have hns215_3 := NB366_365.out
        have hns215_4 := NB370_365.out
        have hns215_5 := NB374_365.out
        have hns215_6 := NB378_365.out
        have hns215_7 := NB382_365.out
        have hms215_0 := NB365_363.out
        have hms215_1 := NB365_364.out
        have hms215_3 := NB365_366.out
        have hms215_4 := NB365_370.out
        have hms215_5 := NB365_374.out
        have hms215_6 := NB365_378.out
        have hms215_7 := NB365_382.out
        refine skip_ (w1 := ?_) (by rfl) rfl ?_ ?_
        rotate_left
        · go_simp
          rfl
        refine hK.out _ _ ⟨((cell_far (p := ⟨gb365, _, none⟩) NB370_365.out _).trans (((cell_far (p := ⟨gb365, _, none⟩) NB370_365.out _).trans (hHeld.1)))), ((cell_far (p := ⟨gb365, _, none⟩) NB370_365.out _).trans (((cell_far (p := ⟨gb365, _, none⟩) NB370_365.out _).trans (hHeld.2.1)))), ((cell_far (p := ⟨gb365, _, none⟩) NB374_365.out _).trans (((cell_far (p := ⟨gb365, _, none⟩) NB374_365.out _).trans (hHeld.2.2.1)))), ((cell_far (p := ⟨gb365, _, none⟩) NB374_365.out _).trans (((cell_far (p := ⟨gb365, _, none⟩) NB374_365.out _).trans (hHeld.2.2.2.1)))), ((cell_far (p := ⟨gb365, _, none⟩) NB378_365.out _).trans (((cell_far (p := ⟨gb365, _, none⟩) NB378_365.out _).trans (hHeld.2.2.2.2.1)))), ((cell_far (p := ⟨gb365, _, none⟩) NB378_365.out _).trans (((cell_far (p := ⟨gb365, _, none⟩) NB378_365.out _).trans (hHeld.2.2.2.2.2.1)))), ((cell_far (p := ⟨gb365, _, none⟩) NB382_365.out _).trans (((cell_far (p := ⟨gb365, _, none⟩) NB382_365.out _).trans (hHeld.2.2.2.2.2.2.1)))), ((cell_far (p := ⟨gb365, _, none⟩) NB382_365.out _).trans (((cell_far (p := ⟨gb365, _, none⟩) NB382_365.out _).trans (hHeld.2.2.2.2.2.2.2))))⟩ (fun hHeld => ?_)
        clear hK K
        refine one_ (i := 7) (N := none) #[true, true, true, true, true, true, true, true] rfl rfl (one_of HT_.out (by kernel_rfl)) (by decide) (fun K hK => ?_)
        have hs216 : w209.cell? ⟨gb366, 0, none⟩ = some (.int .i64 0) := (blk_cell BK366.out 0).trans rfl
        have hfs216 := blk_frozen BK366.out 0
        have hns216_0 := NB363_366.out
        have hns216_1 := NB364_366.out
        have hns216_2 := NB365_366.out
        have hns216_4 := NB370_366.out
        have hns216_5 := NB374_366.out
        have hns216_6 := NB378_366.out
        have hns216_7 := NB382_366.out
        have hms216_0 := NB366_363.out
        have hms216_1 := NB366_364.out
        have hms216_2 := NB366_365.out
        have hms216_4 := NB366_370.out
        have hms216_5 := NB366_374.out
        have hms216_6 := NB366_378.out
        have hms216_7 := NB366_382.out
        have hs217 : w209.cell? ⟨gb366, 1, none⟩ = some (.int .i64 0) := (blk_cell BK366.out 1).trans rfl
        have hfs217 := blk_frozen BK366.out 1
        have hns217_0 := NB363_366.out
        have hns217_1 := NB364_366.out
        have hns217_2 := NB365_366.out
        have hns217_4 := NB370_366.out
        have hns217_5 := NB374_366.out
        have hns217_6 := NB378_366.out
        have hns217_7 := NB382_366.out
        have hms217_0 := NB366_363.out
        have hms217_1 := NB366_364.out
        have hms217_2 := NB366_365.out
        have hms217_4 := NB366_370.out
        have hms217_5 := NB366_374.out
        have hms217_6 := NB366_378.out
        have hms217_7 := NB366_382.out
        refine skip_ (w1 := ?_) (by rfl) rfl ?_ ?_
        rotate_left
        · go_simp
          rfl
        refine hK.out _ _ ⟨((cell_far (p := ⟨gb366, _, none⟩) NB370_366.out _).trans (((cell_far (p := ⟨gb366, _, none⟩) NB370_366.out _).trans (hHeld.1)))), ((cell_far (p := ⟨gb366, _, none⟩) NB370_366.out _).trans (((cell_far (p := ⟨gb366, _, none⟩) NB370_366.out _).trans (hHeld.2.1)))), ((cell_far (p := ⟨gb366, _, none⟩) NB374_366.out _).trans (((cell_far (p := ⟨gb366, _, none⟩) NB374_366.out _).trans (hHeld.2.2.1)))), ((cell_far (p := ⟨gb366, _, none⟩) NB374_366.out _).trans (((cell_far (p := ⟨gb366, _, none⟩) NB374_366.out _).trans (hHeld.2.2.2.1)))), ((cell_far (p := ⟨gb366, _, none⟩) NB378_366.out _).trans (((cell_far (p := ⟨gb366, _, none⟩) NB378_366.out _).trans (hHeld.2.2.2.2.1)))), ((cell_far (p := ⟨gb366, _, none⟩) NB378_366.out _).trans (((cell_far (p := ⟨gb366, _, none⟩) NB378_366.out _).trans (hHeld.2.2.2.2.2.1)))), ((cell_far (p := ⟨gb366, _, none⟩) NB382_366.out _).trans (((cell_far (p := ⟨gb366, _, none⟩) NB382_366.out _).trans (hHeld.2.2.2.2.2.2.1)))), ((cell_far (p := ⟨gb366, _, none⟩) NB382_366.out _).trans (((cell_far (p := ⟨gb366, _, none⟩) NB382_366.out _).trans (hHeld.2.2.2.2.2.2.2))))⟩ (fun hHeld => ?_)
        clear hK K
        refine done_ (done_of HT_.out (by kernel_rfl)) ?_
        try go_wp2
        refine bodyPost_ret (results_list (rs := [.cell 2 25, .cell 3 25, .cell 4 25, .cell 5 25]) rfl (by simp) (.cell gb363 25 #[.int .i64 t367, .int .i64 t368] (0, 0) _ rfl (by (with_reducible repeat (first | refine blk_drewN ?_ _ | refine blk_drew ?_ | refine blk_alloc ?_ _)); refine blk_far ?_ NB363_366.out _; (with_reducible repeat (first | refine blk_drewN ?_ _ | refine blk_drew ?_ | refine blk_alloc ?_ _)); refine blk_far ?_ NB363_366.out _; (with_reducible repeat (first | refine blk_drewN ?_ _ | refine blk_drew ?_ | refine blk_alloc ?_ _)); refine blk_far ?_ NB363_365.out _; (with_reducible repeat (first | refine blk_drewN ?_ _ | refine blk_drew ?_ | refine blk_alloc ?_ _)); refine blk_far ?_ NB363_365.out _; (with_reducible repeat (first | refine blk_drewN ?_ _ | refine blk_drew ?_ | refine blk_alloc ?_ _)); refine blk_far ?_ NB363_364.out _; (with_reducible repeat (first | refine blk_drewN ?_ _ | refine blk_drew ?_ | refine blk_alloc ?_ _)); refine blk_far ?_ NB363_364.out _; (with_reducible repeat (first | refine blk_drewN ?_ _ | refine blk_drew ?_ | refine blk_alloc ?_ _)); refine blk_put (cs := #[.int .i64 t367, .int .i64 0]) ?_ 1 _ rfl; (with_reducible repeat (first | refine blk_drewN ?_ _ | refine blk_drew ?_ | refine blk_alloc ?_ _)); refine blk_put (cs := #[.int .i64 0, .int .i64 0]) ?_ 0 _ rfl; (with_reducible repeat (first | refine blk_drewN ?_ _ | refine blk_drew ?_ | refine blk_alloc ?_ _)); exact BK363.out) Try.underlying25 rfl (by kernel_rfl) (.cell gb364 25 #[.int .i64 t371, .int .i64 t372] (0, 0) _ rfl (by (with_reducible repeat (first | refine blk_drewN ?_ _ | refine blk_drew ?_ | refine blk_alloc ?_ _)); refine blk_far ?_ NB364_366.out _; (with_reducible repeat (first | refine blk_drewN ?_ _ | refine blk_drew ?_ | refine blk_alloc ?_ _)); refine blk_far ?_ NB364_366.out _; (with_reducible repeat (first | refine blk_drewN ?_ _ | refine blk_drew ?_ | refine blk_alloc ?_ _)); refine blk_far ?_ NB364_365.out _; (with_reducible repeat (first | refine blk_drewN ?_ _ | refine blk_drew ?_ | refine blk_alloc ?_ _)); refine blk_far ?_ NB364_365.out _; (with_reducible repeat (first | refine blk_drewN ?_ _ | refine blk_drew ?_ | refine blk_alloc ?_ _)); refine blk_put (cs := #[.int .i64 t371, .int .i64 0]) ?_ 1 _ rfl; (with_reducible repeat (first | refine blk_drewN ?_ _ | refine blk_drew ?_ | refine blk_alloc ?_ _)); refine blk_put (cs := #[.int .i64 0, .int .i64 0]) ?_ 0 _ rfl; (with_reducible repeat (first | refine blk_drewN ?_ _ | refine blk_drew ?_ | refine blk_alloc ?_ _)); refine blk_far ?_ NB364_363.out _; (with_reducible repeat (first | refine blk_drewN ?_ _ | refine blk_drew ?_ | refine blk_alloc ?_ _)); refine blk_far ?_ NB364_363.out _; (with_reducible repeat (first | refine blk_drewN ?_ _ | refine blk_drew ?_ | refine blk_alloc ?_ _)); exact BK364.out) Try.underlying25 rfl (by kernel_rfl) (.cell gb365 25 #[.int .i64 t375, .int .i64 t376] (0, 0) _ rfl (by (with_reducible repeat (first | refine blk_drewN ?_ _ | refine blk_drew ?_ | refine blk_alloc ?_ _)); refine blk_far ?_ NB365_366.out _; (with_reducible repeat (first | refine blk_drewN ?_ _ | refine blk_drew ?_ | refine blk_alloc ?_ _)); refine blk_far ?_ NB365_366.out _; (with_reducible repeat (first | refine blk_drewN ?_ _ | refine blk_drew ?_ | refine blk_alloc ?_ _)); refine blk_put (cs := #[.int .i64 t375, .int .i64 0]) ?_ 1 _ rfl; (with_reducible repeat (first | refine blk_drewN ?_ _ | refine blk_drew ?_ | refine blk_alloc ?_ _)); refine blk_put (cs := #[.int .i64 0, .int .i64 0]) ?_ 0 _ rfl; (with_reducible repeat (first | refine blk_drewN ?_ _ | refine blk_drew ?_ | refine blk_alloc ?_ _)); refine blk_far ?_ NB365_364.out _; (with_reducible repeat (first | refine blk_drewN ?_ _ | refine blk_drew ?_ | refine blk_alloc ?_ _)); refine blk_far ?_ NB365_364.out _; (with_reducible repeat (first | refine blk_drewN ?_ _ | refine blk_drew ?_ | refine blk_alloc ?_ _)); refine blk_far ?_ NB365_363.out _; (with_reducible repeat (first | refine blk_drewN ?_ _ | refine blk_drew ?_ | refine blk_alloc ?_ _)); refine blk_far ?_ NB365_363.out _; (with_reducible repeat (first | refine blk_drewN ?_ _ | refine blk_drew ?_ | refine blk_alloc ?_ _)); exact BK365.out) Try.underlying25 rfl (by kernel_rfl) (.cell gb366 25 #[.int .i64 t379, .int .i64 t380] (0, 0) _ rfl (by (with_reducible repeat (first | refine blk_drewN ?_ _ | refine blk_drew ?_ | refine blk_alloc ?_ _)); refine blk_put (cs := #[.int .i64 t379, .int .i64 0]) ?_ 1 _ rfl; (with_reducible repeat (first | refine blk_drewN ?_ _ | refine blk_drew ?_ | refine blk_alloc ?_ _)); refine blk_put (cs := #[.int .i64 0, .int .i64 0]) ?_ 0 _ rfl; (with_reducible repeat (first | refine blk_drewN ?_ _ | refine blk_drew ?_ | refine blk_alloc ?_ _)); refine blk_far ?_ NB366_365.out _; (with_reducible repeat (first | refine blk_drewN ?_ _ | refine blk_drew ?_ | refine blk_alloc ?_ _)); refine blk_far ?_ NB366_365.out _; (with_reducible repeat (first | refine blk_drewN ?_ _ | refine blk_drew ?_ | refine blk_alloc ?_ _)); refine blk_far ?_ NB366_364.out _; (with_reducible repeat (first | refine blk_drewN ?_ _ | refine blk_drew ?_ | refine blk_alloc ?_ _)); refine blk_far ?_ NB366_364.out _; (with_reducible repeat (first | refine blk_drewN ?_ _ | refine blk_drew ?_ | refine blk_alloc ?_ _)); refine blk_far ?_ NB366_363.out _; (with_reducible repeat (first | refine blk_drewN ?_ _ | refine blk_drew ?_ | refine blk_alloc ?_ _)); refine blk_far ?_ NB366_363.out _; (with_reducible repeat (first | refine blk_drewN ?_ _ | refine blk_drew ?_ | refine blk_alloc ?_ _)); exact BK366.out) Try.underlying25 rfl (by kernel_rfl) .nil))))) rfl ?_
        exact ⟨er, by repeat (first | (with_reducible first | exact HI0.out | apply IsS96.alloc | apply IsS96.drewN | apply IsS96.drew | apply IsS96.set_1 | refine IsS96.far ?_ NB0_363.out _ | refine IsS96.far ?_ NB0_364.out _ | refine IsS96.far ?_ NB0_365.out _ | refine IsS96.far ?_ NB0_366.out _ | refine IsS96.far ?_ NB0_370.out _ | refine IsS96.far ?_ NB0_374.out _ | refine IsS96.far ?_ NB0_378.out _ | refine IsS96.far ?_ NB0_382.out _) | exact HI0.out), by repeat (first | (with_reducible first | exact HB.out | apply below_alloc | apply pw_below_drewN | apply below_drew1 | refine below_set ?_ (IsS96.ge HI0.out) | refine below_set ?_ GE363.out | refine below_set ?_ GE364.out | refine below_set ?_ GE365.out | refine below_set ?_ GE366.out | refine below_set ?_ GE370.out | refine below_set ?_ GE374.out | refine below_set ?_ GE378.out | refine below_set ?_ GE382.out) | exact HB.out), by repeat (first | (with_reducible first | exact HK.out | apply KeepBut.set_ | apply keep_drewN | apply keep_drew | apply keep_alloc | refine keep_far ?_ GW363.out _ | refine keep_far ?_ GW364.out _ | refine keep_far ?_ GW365.out _ | refine keep_far ?_ GW366.out _ | refine keep_far ?_ GW370.out _ | refine keep_far ?_ GW374.out _ | refine keep_far ?_ GW378.out _ | refine keep_far ?_ GW382.out _) | exact HK.out)⟩

end Go.Proofs.Ytgoejfdciejikaa.P

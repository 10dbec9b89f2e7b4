import Derived.Test.YtfonigbkoligmaaPx0
import Derived.Test.YtfonigbkoligmaaPx4
import Derived.Test.YtfonigbkoligmaaPx5
namespace Go.Proofs.Ytfonigbkoligmaa.P
open Go.RowKit Go.Proofs.YtfonigbkoligmaaW.PrintWords Go.Proofs.YtfonigbkoligmaaW.PrintLast Go.Proofs.YtfonigbkoligmaaW.PrintMore
attribute [local go_sem] max2_int min2_int max_two min_two max_three min_three max_four min_four
set_option linter.unusedVariables false
set_option linter.unusedSimpArgs false
def spec_l92Lines.f (k : Nat) (s0_0 : List Int) (s0_1 : Int) : Option (Int × Int × Int × Int × Int × Int × Int × Int × Int) := (spec_l91Point.f k s0_0 s0_1).bind fun bt229 => ((spec_l91Point.f k s0_0 bt229.2.2).bind fun bt233 => ((spec_l91Point.f k s0_0 bt233.2.2).bind fun bt237 => ((spec_l91Point.f k s0_0 bt237.2.2).bind fun bt241 => ((spec_l6Rd_pick.f k s0_0 bt241.2.2 6).bind fun bt245 => (if bt245.1 = 0 then (some (bt229.1, bt229.2.1, bt233.1, bt233.2.1, bt237.1, bt237.2.1, wrap64 ((wrap64 (bt237.1 + bt233.1)) - bt229.1), wrap64 ((wrap64 (bt237.2.1 + bt233.2.1)) - bt229.2.1), bt245.2)) else (if bt245.1 = 1 then (some (bt229.1, bt229.2.1, bt233.1, bt233.2.1, wrap64 ((wrap64 (2 * bt229.1)) - bt233.1), wrap64 ((wrap64 (2 * bt229.2.1)) - bt233.2.1), wrap64 ((wrap64 (3 * bt233.1)) - (wrap64 (2 * bt229.1))), wrap64 ((wrap64 (3 * bt233.2.1)) - (wrap64 (2 * bt229.2.1))), bt245.2)) else (if bt245.1 = 2 then (some (bt229.1, bt229.2.1, bt233.1, bt233.2.1, bt233.1, bt233.2.1, bt241.1, bt241.2.1, bt245.2)) else (some (bt229.1, bt229.2.1, bt233.1, bt233.2.1, bt237.1, bt237.2.1, bt241.1, bt241.2.1, bt245.2)))))))))
theorem spec_l92Lines.mono : ∀ a0 a1 k, LeO (spec_l92Lines.f k a0 a1) (spec_l92Lines.f (k + 1) a0 a1) := by
 intro a0 a1 k
 unfold spec_l92Lines.f
 repeat' first
   | (with_reducible exact spec_l6Rd_pick.mono _ _ _ _)
   | (with_reducible exact spec_l91Point.mono _ _ _)
   | (with_reducible exact LeO.refl _)
   | (with_reducible exact LeO.none _)
   | (with_reducible refine LeO.ite ?_ ?_)
   | (with_reducible refine LeO.bind ?_ (fun _ => ?_))
   | exact spec_l6Rd_pick.mono _ _ _ _
   | exact spec_l91Point.mono _ _ _
   | exact LeO.none _
   | refine LeO.ite ?_ ?_
   | refine LeO.bind ?_ (fun _ => ?_)
def spec_l92Lines.T7 : Bool × List (List Nat × List Nat) := (true,[([],[]),([],[]),([],[]),([],[]),([3],[3]),([],[]),([5],[5]),([4,6],[4,6]),([],[]),([8],[8]),([7,9],[7,9]),([],[]),([11],[11]),([],[]),([13],[13]),([12,14],[12,14]),([],[]),([16],[16]),([15,17],[15,17]),([10,18],[10,18]),([0,0],[0]),([1,20,0,1,20],[1]),([2,21,0,1,2,20,21],[2]),([19,22,0,1,2,3,4,5,6,7,8,9,10,11,12,13,14,15,16,17,18,19,20,21,22],[19])])
def spec_l92Lines.B7 : List Nat := [0,0,0,0,8,0,32,120,0,256,1016,0,2048,0,8192,30720,0,65536,260096,524280,1,1048579,3145735,8388607]
theorem spec_l92Lines.tab7 : rtab .any (opsOf Try.f57 7) = spec_l92Lines.T7 := by kernel_rfl
theorem spec_l92Lines.bits7 : waitsOk spec_l92Lines.T7.2 spec_l92Lines.B7 = true := by kernel_rfl
def spec_l92Lines.T9 : Bool × List (List Nat × List Nat) := (true,[([],[]),([],[]),([],[]),([2],[2]),([3],[3]),([],[]),([5],[5]),([4,6],[4,6]),([],[]),([8],[8]),([9],[9]),([],[]),([11],[11]),([10,12],[10,12]),([7,13],[7,13]),([],[]),([15],[15]),([16],[16]),([],[]),([18],[18]),([19],[19]),([17,20],[17,20]),([],[]),([22],[22]),([23],[23]),([],[]),([25],[25]),([26],[26]),([24,27],[24,27]),([21,28],[21,28]),([0,0],[0]),([1,30,0,1,30],[1]),([14,31,0,1,2,3,4,5,6,7,8,9,10,11,12,13,14,30,31],[14]),([29,32,0,1,2,3,4,5,6,7,8,9,10,11,12,13,14,15,16,17,18,19,20,21,22,23,24,25,26,27,28,29,30,31,32],[29])])
def spec_l92Lines.B9 : List Nat := [0,0,0,4,12,0,32,124,0,256,768,0,2048,7936,16380,0,32768,98304,0,262144,786432,2064384,0,4194304,12582912,0,33554432,100663296,264241152,536838144,1,1073741827,3221258239,8589934591]
theorem spec_l92Lines.tab9 : rtab .any (opsOf Try.f57 9) = spec_l92Lines.T9 := by kernel_rfl
theorem spec_l92Lines.bits9 : waitsOk spec_l92Lines.T9.2 spec_l92Lines.B9 = true := by kernel_rfl
def spec_l92Lines.T11 : Bool × List (List Nat × List Nat) := (true,[([],[]),([],[]),([],[]),([],[]),([0,0],[0]),([1,4,0,1,4],[1]),([2,5,0,1,2,4,5],[2]),([3,6,0,1,2,3,4,5,6],[3])])
def spec_l92Lines.B11 : List Nat := [0,0,0,0,1,19,55,127]
theorem spec_l92Lines.tab11 : rtab .any (opsOf Try.f57 11) = spec_l92Lines.T11 := by kernel_rfl
theorem spec_l92Lines.bits11 : waitsOk spec_l92Lines.T11.2 spec_l92Lines.B11 = true := by kernel_rfl
def spec_l92Lines.T12 : Bool × List (List Nat × List Nat) := (true,[([],[]),([],[]),([],[]),([],[]),([0,0],[0]),([1,4,0,1,4],[1]),([2,5,0,1,2,4,5],[2]),([3,6,0,1,2,3,4,5,6],[3])])
def spec_l92Lines.B12 : List Nat := [0,0,0,0,1,19,55,127]
theorem spec_l92Lines.tab12 : rtab .any (opsOf Try.f57 12) = spec_l92Lines.T12 := by kernel_rfl
theorem spec_l92Lines.bits12 : waitsOk spec_l92Lines.T12.2 spec_l92Lines.B12 = true := by kernel_rfl
set_option maxHeartbeats 60000000 in
set_option maxRecDepth 100000 in
theorem spec_l92Lines.calls (k : Nat) (g : Nat) (s0_0 : List Int) (s0_1 : Int) (r1 : Int) (r2 : Int) (r3 : Int) (r4 : Int) (r5 : Int) (r6 : Int) (r7 : Int) (r8 : Int) (r9 : Int) (w0 w : World) (hI : IsS93 w0 w g s0_0 s0_1) (hB : Below w0.heap.size w0 w) (h : spec_l92Lines.f k s0_0 s0_1 = some (r1, r2, r3, r4, r5, r6, r7, r8, r9)) :
  Calls Try.prog 57 #[.pointer (some ⟨g, 0, none⟩)] w fun e w' => e = .returned (.tuple #[.agg #[.int .i64 r1, .int .i64 r2], .agg #[.int .i64 r3, .int .i64 r4], .agg #[.int .i64 r5, .int .i64 r6], .agg #[.int .i64 r7, .int .i64 r8]]) ∧ IsS93 w0 w' g s0_0 r9 ∧ Below w0.heap.size w0 w' ∧ KeepBut w w' g none := by
 have hu33 := Try.underlying33
 have HI0 := Aside0.mk hI
 have HK := Aside0.mk (KeepBut.refl w g none)
 have HL := Aside0.mk hB.size
 clear hI
 have HW0 := Aside0.mk hB.size
 have HB := Aside0.mk hB
 clear hB
 have H : ((spec_l91Point.f k s0_0 s0_1).bind fun bt229 => ((spec_l91Point.f k s0_0 bt229.2.2).bind fun bt233 => ((spec_l91Point.f k s0_0 bt233.2.2).bind fun bt237 => ((spec_l91Point.f k s0_0 bt237.2.2).bind fun bt241 => ((spec_l6Rd_pick.f k s0_0 bt241.2.2 6).bind fun bt245 => (if bt245.1 = 0 then (some (bt229.1, bt229.2.1, bt233.1, bt233.2.1, bt237.1, bt237.2.1, wrap64 ((wrap64 (bt237.1 + bt233.1)) - bt229.1), wrap64 ((wrap64 (bt237.2.1 + bt233.2.1)) - bt229.2.1), bt245.2)) else (if bt245.1 = 1 then (some (bt229.1, bt229.2.1, bt233.1, bt233.2.1, wrap64 ((wrap64 (2 * bt229.1)) - bt233.1), wrap64 ((wrap64 (2 * bt229.2.1)) - bt233.2.1), wrap64 ((wrap64 (3 * bt233.1)) - (wrap64 (2 * bt229.1))), wrap64 ((wrap64 (3 * bt233.2.1)) - (wrap64 (2 * bt229.2.1))), bt245.2)) else (if bt245.1 = 2 then (some (bt229.1, bt229.2.1, bt233.1, bt233.2.1, bt233.1, bt233.2.1, bt241.1, bt241.2.1, bt245.2)) else (some (bt229.1, bt229.2.1, bt233.1, bt233.2.1, bt237.1, bt237.2.1, bt241.1, bt241.2.1, bt245.2)))))))))) = some (r1, r2, r3, r4, r5, r6, r7, r8, r9) := h
 clear h
 replace H := Option.bind_eq_some_iff.mp H
 obtain ⟨⟨t229, t230, t231⟩, A20, H⟩ := H
 replace H : ((spec_l91Point.f k s0_0 t231).bind fun bt233 => ((spec_l91Point.f k s0_0 bt233.2.2).bind fun bt237 => ((spec_l91Point.f k s0_0 bt237.2.2).bind fun bt241 => ((spec_l6Rd_pick.f k s0_0 bt241.2.2 6).bind fun bt245 => (if bt245.1 = 0 then (some (t229, t230, bt233.1, bt233.2.1, bt237.1, bt237.2.1, wrap64 ((wrap64 (bt237.1 + bt233.1)) - t229), wrap64 ((wrap64 (bt237.2.1 + bt233.2.1)) - t230), bt245.2)) else (if bt245.1 = 1 then (some (t229, t230, bt233.1, bt233.2.1, wrap64 ((wrap64 (2 * t229)) - bt233.1), wrap64 ((wrap64 (2 * t230)) - bt233.2.1), wrap64 ((wrap64 (3 * bt233.1)) - (wrap64 (2 * t229))), wrap64 ((wrap64 (3 * bt233.2.1)) - (wrap64 (2 * t230))), bt245.2)) else (if bt245.1 = 2 then (some (t229, t230, bt233.1, bt233.2.1, bt233.1, bt233.2.1, bt241.1, bt241.2.1, bt245.2)) else (some (t229, t230, bt233.1, bt233.2.1, bt237.1, bt237.2.1, bt241.1, bt241.2.1, bt245.2))))))))) = some (r1, r2, r3, r4, r5, r6, r7, r8, r9) := H
 have A2 := Aside0.mk A20
 clear A20
 replace H := Option.bind_eq_some_iff.mp H
 obtain ⟨⟨t233, t234, t235⟩, A30, H⟩ := H
 replace H : ((spec_l91Point.f k s0_0 t235).bind fun bt237 => ((spec_l91Point.f k s0_0 bt237.2.2).bind fun bt241 => ((spec_l6Rd_pick.f k s0_0 bt241.2.2 6).bind fun bt245 => (if bt245.1 = 0 then (some (t229, t230, t233, t234, bt237.1, bt237.2.1, wrap64 ((wrap64 (bt237.1 + t233)) - t229), wrap64 ((wrap64 (bt237.2.1 + t234)) - t230), bt245.2)) else (if bt245.1 = 1 then (some (t229, t230, t233, t234, wrap64 ((wrap64 (2 * t229)) - t233), wrap64 ((wrap64 (2 * t230)) - t234), wrap64 ((wrap64 (3 * t233)) - (wrap64 (2 * t229))), wrap64 ((wrap64 (3 * t234)) - (wrap64 (2 * t230))), bt245.2)) else (if bt245.1 = 2 then (some (t229, t230, t233, t234, t233, t234, bt241.1, bt241.2.1, bt245.2)) else (some (t229, t230, t233, t234, bt237.1, bt237.2.1, bt241.1, bt241.2.1, bt245.2)))))))) = some (r1, r2, r3, r4, r5, r6, r7, r8, r9) := H
 have A3 := Aside0.mk A30
 clear A30
 replace H := Option.bind_eq_some_iff.mp H
 obtain ⟨⟨t237, t238, t239⟩, A40, H⟩ := H
 replace H : ((spec_l91Point.f k s0_0 t239).bind fun bt241 => ((spec_l6Rd_pick.f k s0_0 bt241.2.2 6).bind fun bt245 => (if bt245.1 = 0 then (some (t229, t230, t233, t234, t237, t238, wrap64 ((wrap64 (t237 + t233)) - t229), wrap64 ((wrap64 (t238 + t234)) - t230), bt245.2)) else (if bt245.1 = 1 then (some (t229, t230, t233, t234, wrap64 ((wrap64 (2 * t229)) - t233), wrap64 ((wrap64 (2 * t230)) - t234), wrap64 ((wrap64 (3 * t233)) - (wrap64 (2 * t229))), wrap64 ((wrap64 (3 * t234)) - (wrap64 (2 * t230))), bt245.2)) else (if bt245.1 = 2 then (some (t229, t230, t233, t234, t233, t234, bt241.1, bt241.2.1, bt245.2)) else (some (t229, t230, t233, t234, t237, t238, bt241.1, bt241.2.1, bt245.2))))))) = some (r1, r2, r3, r4, r5, r6, r7, r8, r9) := H
 have A4 := Aside0.mk A40
 clear A40
 replace H := Option.bind_eq_some_iff.mp H
 obtain ⟨⟨t241, t242, t243⟩, A50, H⟩ := H
 replace H : ((spec_l6Rd_pick.f k s0_0 t243 6).bind fun bt245 => (if bt245.1 = 0 then (some (t229, t230, t233, t234, t237, t238, wrap64 ((wrap64 (t237 + t233)) - t229), wrap64 ((wrap64 (t238 + t234)) - t230), bt245.2)) else (if bt245.1 = 1 then (some (t229, t230, t233, t234, wrap64 ((wrap64 (2 * t229)) - t233), wrap64 ((wrap64 (2 * t230)) - t234), wrap64 ((wrap64 (3 * t233)) - (wrap64 (2 * t229))), wrap64 ((wrap64 (3 * t234)) - (wrap64 (2 * t230))), bt245.2)) else (if bt245.1 = 2 then (some (t229, t230, t233, t234, t233, t234, t241, t242, bt245.2)) else (some (t229, t230, t233, t234, t237, t238, t241, t242, bt245.2)))))) = some (r1, r2, r3, r4, r5, r6, r7, r8, r9) := H
 have A5 := Aside0.mk A50
 clear A50
 replace H := Option.bind_eq_some_iff.mp H
 obtain ⟨⟨t245, t246⟩, A60, H⟩ := H
 replace H : (if t245 = 0 then (some (t229, t230, t233, t234, t237, t238, wrap64 ((wrap64 (t237 + t233)) - t229), wrap64 ((wrap64 (t238 + t234)) - t230), t246)) else (if t245 = 1 then (some (t229, t230, t233, t234, wrap64 ((wrap64 (2 * t229)) - t233), wrap64 ((wrap64 (2 * t230)) - t234), wrap64 ((wrap64 (3 * t233)) - (wrap64 (2 * t229))), wrap64 ((wrap64 (3 * t234)) - (wrap64 (2 * t230))), t246)) else (if t245 = 2 then (some (t229, t230, t233, t234, t233, t234, t241, t242, t246)) else (some (t229, t230, t233, t234, t237, t238, t241, t242, t246))))) = some (r1, r2, r3, r4, r5, r6, r7, r8, r9) := H
 have A6 := Aside0.mk A60
 clear A60
 go_enter Try.func57, Try.ntmps57
 go_upto_region 6 with (first | ((with_reducible refine gate_dst (N := 2) rfl ?_); refine box_event ?hg (N := 2) ?hd (cs := #[.int .i64 0, .int .i64 0]) (t := 33) ?hr ?_; (case hd => rfl); (case hg => rfl); (case hr => first | (go_simp; done) | (go_simp; rfl)); intro gb225 hg w8 hbox hb; have n0_ := Aside0.mk (IsS93.below (by repeat (first | (with_reducible first | exact HI0.out | apply IsS93.alloc | apply IsS93.drewN | apply IsS93.drew | apply IsS93.set_1) | exact HI0.out)) hb); have n1_ := Aside0.mk (KeepBut.trans (by repeat (first | (with_reducible first | exact HK.out | apply KeepBut.set_ | apply keep_drewN | apply keep_drew | apply keep_alloc) | exact HK.out)) (KeepBut.of_below hb g none) (.inl rfl)); have n2_ := Aside0.mk (below_step (by repeat (first | (with_reducible first | exact HB.out | apply below_alloc | apply pw_below_drewN | apply below_drew1 | refine below_set ?_ (IsS93.ge HI0.out)) | exact HB.out)) hb); have n3_ := Aside0.mk (hbox); have n4_ := Aside0.mk ((by rw [hg]; exact (keep_size (w := w) (g := g) (row := none) (by repeat (first | (with_reducible first | exact HK.out | apply KeepBut.set_ | apply keep_drewN | apply keep_drew | apply keep_alloc) | exact HK.out))) : w.heap.size ≤ gb225)); have n5_ := Aside0.mk ((Nat.le_trans HW0.out (by rw [hg]; exact (keep_size (w := w) (g := g) (row := none) (by repeat (first | (with_reducible first | exact HK.out | apply KeepBut.set_ | apply keep_drewN | apply keep_drew | apply keep_alloc) | exact HK.out))) : w.heap.size ≤ gb225) : w0.heap.size ≤ gb225)); have n6_ := Aside0.mk ((by rw [hg]; exact Nat.ne_of_lt (IsS93.lt (show IsS93 w0 _ g s0_0 s0_1 from by repeat (first | (with_reducible first | exact HI0.out | apply IsS93.alloc | apply IsS93.drewN | apply IsS93.drew | apply IsS93.set_1) | exact HI0.out))) : g ≠ gb225)); have n7_ := Aside0.mk ((by rw [hg]; exact Nat.ne_of_gt (IsS93.lt (show IsS93 w0 _ g s0_0 s0_1 from by repeat (first | (with_reducible first | exact HI0.out | apply IsS93.alloc | apply IsS93.drewN | apply IsS93.drew | apply IsS93.set_1) | exact HI0.out))) : gb225 ≠ g)); clear HI0; clear HK; clear HB; have HI0 := n0_; have HK := n1_; have HB := n2_; have BK225 := n3_; have GW225 := n4_; have GE225 := n5_; have NB0_225 := n6_; have NB225_0 := n7_; clear n0_ n1_ n2_ n3_ n4_ n5_ n6_ n7_; clear hb hbox hg) | ((with_reducible refine gate_dst (N := 3) rfl ?_); refine box_event ?hg (N := 3) ?hd (cs := #[.int .i64 0, .int .i64 0]) (t := 33) ?hr ?_; (case hd => rfl); (case hg => rfl); (case hr => first | (go_simp; done) | (go_simp; rfl)); intro gb226 hg w9 hbox hb; have n0_ := Aside0.mk (IsS93.below (by repeat (first | (with_reducible first | exact HI0.out | apply IsS93.alloc | apply IsS93.drewN | apply IsS93.drew | apply IsS93.set_1 | refine IsS93.far ?_ NB0_225.out _) | exact HI0.out)) hb); have n1_ := Aside0.mk (blk_below (bf BK225.out) hb); have n2_ := Aside0.mk (KeepBut.trans (by repeat (first | (with_reducible first | exact HK.out | apply KeepBut.set_ | apply keep_drewN | apply keep_drew | apply keep_alloc | refine keep_far ?_ GW225.out _) | exact HK.out)) (KeepBut.of_below hb g none) (.inl rfl)); have n3_ := Aside0.mk (below_step (by repeat (first | (with_reducible first | exact HB.out | apply below_alloc | apply pw_below_drewN | apply below_drew1 | refine below_set ?_ (IsS93.ge HI0.out) | refine below_set ?_ GE225.out) | exact HB.out)) hb); have n4_ := Aside0.mk (hbox); have n5_ := Aside0.mk ((by rw [hg]; exact (keep_size (w := w) (g := g) (row := none) (by repeat (first | (with_reducible first | exact HK.out | apply KeepBut.set_ | apply keep_drewN | apply keep_drew | apply keep_alloc | refine keep_far ?_ GW225.out _) | exact HK.out))) : w.heap.size ≤ gb226)); have n6_ := Aside0.mk ((Nat.le_trans HW0.out (by rw [hg]; exact (keep_size (w := w) (g := g) (row := none) (by repeat (first | (with_reducible first | exact HK.out | apply KeepBut.set_ | apply keep_drewN | apply keep_drew | apply keep_alloc | refine keep_far ?_ GW225.out _) | exact HK.out))) : w.heap.size ≤ gb226) : w0.heap.size ≤ gb226)); have n7_ := Aside0.mk ((by rw [hg]; exact Nat.ne_of_lt (blk_lt (bf BK225.out)) : gb225 ≠ gb226)); have n8_ := Aside0.mk ((by rw [hg]; exact Nat.ne_of_gt (blk_lt (bf BK225.out)) : gb226 ≠ gb225)); have n9_ := Aside0.mk ((by rw [hg]; exact Nat.ne_of_lt (IsS93.lt (show IsS93 w0 _ g s0_0 s0_1 from by repeat (first | (with_reducible first | exact HI0.out | apply IsS93.alloc | apply IsS93.drewN | apply IsS93.drew | apply IsS93.set_1 | refine IsS93.far ?_ NB0_225.out _) | exact HI0.out))) : g ≠ gb226)); have n10_ := Aside0.mk ((by rw [hg]; exact Nat.ne_of_gt (IsS93.lt (show IsS93 w0 _ g s0_0 s0_1 from by repeat (first | (with_reducible first | exact HI0.out | apply IsS93.alloc | apply IsS93.drewN | apply IsS93.drew | apply IsS93.set_1 | refine IsS93.far ?_ NB0_225.out _) | exact HI0.out))) : gb226 ≠ g)); clear HI0; clear BK225; clear HK; clear HB; have HI0 := n0_; have BK225 := n1_; have HK := n2_; have HB := n3_; have BK226 := n4_; have GW226 := n5_; have GE226 := n6_; have NB225_226 := n7_; have NB226_225 := n8_; have NB0_226 := n9_; have NB226_0 := n10_; clear n0_ n1_ n2_ n3_ n4_ n5_ n6_ n7_ n8_ n9_ n10_; clear hb hbox hg) | ((with_reducible refine gate_dst (N := 4) rfl ?_); refine box_event ?hg (N := 4) ?hd (cs := #[.int .i64 0, .int .i64 0]) (t := 33) ?hr ?_; (case hd => rfl); (case hg => rfl); (case hr => first | (go_simp; done) | (go_simp; rfl)); intro gb227 hg w10 hbox hb; have n0_ := Aside0.mk (IsS93.below (by repeat (first | (with_reducible first | exact HI0.out | apply IsS93.alloc | apply IsS93.drewN | apply IsS93.drew | apply IsS93.set_1 | refine IsS93.far ?_ NB0_225.out _ | refine IsS93.far ?_ NB0_226.out _) | exact HI0.out)) hb); have n1_ := Aside0.mk (blk_below (bf BK225.out) hb); have n2_ := Aside0.mk (blk_below (bf BK226.out) hb); have n3_ := Aside0.mk (KeepBut.trans (by repeat (first | (with_reducible first | exact HK.out | apply KeepBut.set_ | apply keep_drewN | apply keep_drew | apply keep_alloc | refine keep_far ?_ GW225.out _ | refine keep_far ?_ GW226.out _) | exact HK.out)) (KeepBut.of_below hb g none) (.inl rfl)); have n4_ := Aside0.mk (below_step (by repeat (first | (with_reducible first | exact HB.out | apply below_alloc | apply pw_below_drewN | apply below_drew1 | refine below_set ?_ (IsS93.ge HI0.out) | refine below_set ?_ GE225.out | refine below_set ?_ GE226.out) | exact HB.out)) hb); have n5_ := Aside0.mk (hbox); have n6_ := Aside0.mk ((by rw [hg]; exact (keep_size (w := w) (g := g) (row := none) (by repeat (first | (with_reducible first | exact HK.out | apply KeepBut.set_ | apply keep_drewN | apply keep_drew | apply keep_alloc | refine keep_far ?_ GW225.out _ | refine keep_far ?_ GW226.out _) | exact HK.out))) : w.heap.size ≤ gb227)); have n7_ := Aside0.mk ((Nat.le_trans HW0.out (by rw [hg]; exact (keep_size (w := w) (g := g) (row := none) (by repeat (first | (with_reducible first | exact HK.out | apply KeepBut.set_ | apply keep_drewN | apply keep_drew | apply keep_alloc | refine keep_far ?_ GW225.out _ | refine keep_far ?_ GW226.out _) | exact HK.out))) : w.heap.size ≤ gb227) : w0.heap.size ≤ gb227)); have n8_ := Aside0.mk ((by rw [hg]; exact Nat.ne_of_lt (blk_lt (bf BK225.out)) : gb225 ≠ gb227)); have n9_ := Aside0.mk ((by rw [hg]; exact Nat.ne_of_gt (blk_lt (bf BK225.out)) : gb227 ≠ gb225)); have n10_ := Aside0.mk ((by rw [hg]; exact Nat.ne_of_lt (blk_lt (bf BK226.out)) : gb226 ≠ gb227)); have n11_ := Aside0.mk ((by rw [hg]; exact Nat.ne_of_gt (blk_lt (bf BK226.out)) : gb227 ≠ gb226)); have n12_ := Aside0.mk ((by rw [hg]; exact Nat.ne_of_lt (IsS93.lt (show IsS93 w0 _ g s0_0 s0_1 from by repeat (first | (with_reducible first | exact HI0.out | apply IsS93.alloc | apply IsS93.drewN | apply IsS93.drew | apply IsS93.set_1 | refine IsS93.far ?_ NB0_225.out _ | refine IsS93.far ?_ NB0_226.out _) | exact HI0.out))) : g ≠ gb227)); have n13_ := Aside0.mk ((by rw [hg]; exact Nat.ne_of_gt (IsS93.lt (show IsS93 w0 _ g s0_0 s0_1 from by repeat (first | (with_reducible first | exact HI0.out | apply IsS93.alloc | apply IsS93.drewN | apply IsS93.drew | apply IsS93.set_1 | refine IsS93.far ?_ NB0_225.out _ | refine IsS93.far ?_ NB0_226.out _) | exact HI0.out))) : gb227 ≠ g)); clear HI0; clear BK225; clear BK226; clear HK; clear HB; have HI0 := n0_; have BK225 := n1_; have BK226 := n2_; have HK := n3_; have HB := n4_; have BK227 := n5_; have GW227 := n6_; have GE227 := n7_; have NB225_227 := n8_; have NB227_225 := n9_; have NB226_227 := n10_; have NB227_226 := n11_; have NB0_227 := n12_; have NB227_0 := n13_; clear n0_ n1_ n2_ n3_ n4_ n5_ n6_ n7_ n8_ n9_ n10_ n11_ n12_ n13_; clear hb hbox hg) | ((with_reducible refine gate_dst (N := 5) rfl ?_); refine box_event ?hg (N := 5) ?hd (cs := #[.int .i64 0, .int .i64 0]) (t := 33) ?hr ?_; (case hd => rfl); (case hg => rfl); (case hr => first | (go_simp; done) | (go_simp; rfl)); intro gb228 hg w11 hbox hb; have n0_ := Aside0.mk (IsS93.below (by repeat (first | (with_reducible first | exact HI0.out | apply IsS93.alloc | apply IsS93.drewN | apply IsS93.drew | apply IsS93.set_1 | refine IsS93.far ?_ NB0_225.out _ | refine IsS93.far ?_ NB0_226.out _ | refine IsS93.far ?_ NB0_227.out _) | exact HI0.out)) hb); have n1_ := Aside0.mk (blk_below (bf BK225.out) hb); have n2_ := Aside0.mk (blk_below (bf BK226.out) hb); have n3_ := Aside0.mk (blk_below (bf BK227.out) hb); have n4_ := Aside0.mk (KeepBut.trans (by repeat (first | (with_reducible first | exact HK.out | apply KeepBut.set_ | apply keep_drewN | apply keep_drew | apply keep_alloc | refine keep_far ?_ GW225.out _ | refine keep_far ?_ GW226.out _ | refine keep_far ?_ GW227.out _) | exact HK.out)) (KeepBut.of_below hb g none) (.inl rfl)); have n5_ := Aside0.mk (below_step (by repeat (first | (with_reducible first | exact HB.out | apply below_alloc | apply pw_below_drewN | apply below_drew1 | refine below_set ?_ (IsS93.ge HI0.out) | refine below_set ?_ GE225.out | refine below_set ?_ GE226.out | refine below_set ?_ GE227.out) | exact HB.out)) hb); have n6_ := Aside0.mk (hbox); have n7_ := Aside0.mk ((by rw [hg]; exact (keep_size (w := w) (g := g) (row := none) (by repeat (first | (with_reducible first | exact HK.out | apply KeepBut.set_ | apply keep_drewN | apply keep_drew | apply keep_alloc | refine keep_far ?_ GW225.out _ | refine keep_far ?_ GW226.out _ | refine keep_far ?_ GW227.out _) | exact HK.out))) : w.heap.size ≤ gb228)); have n8_ := Aside0.mk ((Nat.le_trans HW0.out (by rw [hg]; exact (keep_size (w := w) (g := g) (row := none) (by repeat (first | (with_reducible first | exact HK.out | apply KeepBut.set_ | apply keep_drewN | apply keep_drew | apply keep_alloc | refine keep_far ?_ GW225.out _ | refine keep_far ?_ GW226.out _ | refine keep_far ?_ GW227.out _) | exact HK.out))) : w.heap.size ≤ gb228) : w0.heap.size ≤ gb228)); have n9_ := Aside0.mk ((by rw [hg]; exact Nat.ne_of_lt (blk_lt (bf BK225.out)) : gb225 ≠ gb228)); have n10_ := Aside0.mk ((by rw [hg]; exact Nat.ne_of_gt (blk_lt (bf BK225.out)) : gb228 ≠ gb225)); have n11_ := Aside0.mk ((by rw [hg]; exact Nat.ne_of_lt (blk_lt (bf BK226.out)) : gb226 ≠ gb228)); have n12_ := Aside0.mk ((by rw [hg]; exact Nat.ne_of_gt (blk_lt (bf BK226.out)) : gb228 ≠ gb226)); have n13_ := Aside0.mk ((by rw [hg]; exact Nat.ne_of_lt (blk_lt (bf BK227.out)) : gb227 ≠ gb228)); have n14_ := Aside0.mk ((by rw [hg]; exact Nat.ne_of_gt (blk_lt (bf BK227.out)) : gb228 ≠ gb227)); have n15_ := Aside0.mk ((by rw [hg]; exact Nat.ne_of_lt (IsS93.lt (show IsS93 w0 _ g s0_0 s0_1 from by repeat (first | (with_reducible first | exact HI0.out | apply IsS93.alloc | apply IsS93.drewN | apply IsS93.drew | apply IsS93.set_1 | refine IsS93.far ?_ NB0_225.out _ | refine IsS93.far ?_ NB0_226.out _ | refine IsS93.far ?_ NB0_227.out _) | exact HI0.out))) : g ≠ gb228)); have n16_ := Aside0.mk ((by rw [hg]; exact Nat.ne_of_gt (IsS93.lt (show IsS93 w0 _ g s0_0 s0_1 from by repeat (first | (with_reducible first | exact HI0.out | apply IsS93.alloc | apply IsS93.drewN | apply IsS93.drew | apply IsS93.set_1 | refine IsS93.far ?_ NB0_225.out _ | refine IsS93.far ?_ NB0_226.out _ | refine IsS93.far ?_ NB0_227.out _) | exact HI0.out))) : gb228 ≠ g)); clear HI0; clear BK225; clear BK226; clear BK227; clear HK; clear HB; have HI0 := n0_; have BK225 := n1_; have BK226 := n2_; have BK227 := n3_; have HK := n4_; have HB := n5_; have BK228 := n6_; have GW228 := n7_; have GE228 := n8_; have NB225_228 := n9_; have NB228_225 := n10_; have NB226_228 := n11_; have NB228_226 := n12_; have NB227_228 := n13_; have NB228_227 := n14_; have NB0_228 := n15_; have NB228_0 := n16_; clear n0_ n1_ n2_ n3_ n4_ n5_ n6_ n7_ n8_ n9_ n10_ n11_ n12_ n13_ n14_ n15_ n16_; clear hb hbox hg) | ((with_reducible refine gate_callee (f := 79) rfl ?_); refine goesL_ (some 11) rfl rfl Try.func79 (by kernel_rfl) rfl #[.pointer (some ⟨g, 0, none⟩)] rfl al ?_; (with_reducible refine (spec_l91Point.calls k g s0_0 s0_1 t229 t230 t231 w0 _ ?side1 ?side2 A2.out).mono ?_); (case side1 => repeat (first | (with_reducible first | exact HI0.out | apply IsS93.alloc | apply IsS93.drewN | apply IsS93.drew | apply IsS93.set_1 | refine IsS93.far ?_ NB0_225.out _ | refine IsS93.far ?_ NB0_226.out _ | refine IsS93.far ?_ NB0_227.out _ | refine IsS93.far ?_ NB0_228.out _) | exact HI0.out)); (case side2 => repeat (first | (with_reducible first | exact HB.out | apply below_alloc | apply pw_below_drewN | apply below_drew1 | refine below_set ?_ (IsS93.ge HI0.out) | refine below_set ?_ GE225.out | refine below_set ?_ GE226.out | refine below_set ?_ GE227.out | refine below_set ?_ GE228.out) | exact HB.out)); rintro e w12 ⟨rfl, hi, hb, hk⟩; refine ⟨_, rfl, ?_⟩; have n0_ := Aside0.mk (KeepBut.blk hk (g' := gb225) (o := .cells #[.int .i64 0, .int .i64 0] 33 (0, 0)) (bf BK225.out) NB225_0.out (by simp)); have n1_ := Aside0.mk (KeepBut.blk hk (g' := gb226) (o := .cells #[.int .i64 0, .int .i64 0] 33 (0, 0)) (bf BK226.out) NB226_0.out (by simp)); have n2_ := Aside0.mk (KeepBut.blk hk (g' := gb227) (o := .cells #[.int .i64 0, .int .i64 0] 33 (0, 0)) (bf BK227.out) NB227_0.out (by simp)); have n3_ := Aside0.mk (KeepBut.blk hk (g' := gb228) (o := .cells #[.int .i64 0, .int .i64 0] 33 (0, 0)) (bf BK228.out) NB228_0.out (by simp)); have n4_ := Aside0.mk (KeepBut.trans (by repeat (first | (with_reducible first | exact HK.out | apply KeepBut.set_ | apply keep_drewN | apply keep_drew | apply keep_alloc | refine keep_far ?_ GW225.out _ | refine keep_far ?_ GW226.out _ | refine keep_far ?_ GW227.out _ | refine keep_far ?_ GW228.out _) | exact HK.out)) hk (.inl rfl)); have n5_ := Aside0.mk (hb); have n6_ := Aside0.mk (hi); clear BK225; clear BK226; clear BK227; clear BK228; clear HK; clear HB; clear HI0; have BK225 := n0_; have BK226 := n1_; have BK227 := n2_; have BK228 := n3_; have HK := n4_; have HB := n5_; have HI0 := n6_; clear n0_ n1_ n2_ n3_ n4_ n5_ n6_; (try clear hb); (try clear hb2); (try clear hk); (try clear hi)) | ((with_reducible refine gate_dst (N := 6) rfl ?_); refine box_event ?hg (N := 6) ?hd (cs := #[.int .i64 0, .int .i64 0]) (t := 33) ?hr ?_; (case hd => rfl); (case hg => rfl); (case hr => first | (go_simp; done) | (go_simp; rfl)); intro gb232 hg w13 hbox hb; have n0_ := Aside0.mk (IsS93.below (by repeat (first | (with_reducible first | exact HI0.out | apply IsS93.alloc | apply IsS93.drewN | apply IsS93.drew | apply IsS93.set_1 | refine IsS93.far ?_ NB0_225.out _ | refine IsS93.far ?_ NB0_226.out _ | refine IsS93.far ?_ NB0_227.out _ | refine IsS93.far ?_ NB0_228.out _) | exact HI0.out)) hb); have n1_ := Aside0.mk (blk_below (bf BK225.out) hb); have n2_ := Aside0.mk (blk_below (bf BK226.out) hb); have n3_ := Aside0.mk (blk_below (bf BK227.out) hb); have n4_ := Aside0.mk (blk_below (bf BK228.out) hb); have n5_ := Aside0.mk (KeepBut.trans (by repeat (first | (with_reducible first | exact HK.out | apply KeepBut.set_ | apply keep_drewN | apply keep_drew | apply keep_alloc | refine keep_far ?_ GW225.out _ | refine keep_far ?_ GW226.out _ | refine keep_far ?_ GW227.out _ | refine keep_far ?_ GW228.out _) | exact HK.out)) (KeepBut.of_below hb g none) (.inl rfl)); have n6_ := Aside0.mk (below_step (by repeat (first | (with_reducible first | exact HB.out | apply below_alloc | apply pw_below_drewN | apply below_drew1 | refine below_set ?_ (IsS93.ge HI0.out) | refine below_set ?_ GE225.out | refine below_set ?_ GE226.out | refine below_set ?_ GE227.out | refine below_set ?_ GE228.out) | exact HB.out)) hb); have n7_ := Aside0.mk (hbox); have n8_ := Aside0.mk ((by rw [hg]; exact (keep_size (w := w) (g := g) (row := none) (by repeat (first | (with_reducible first | exact HK.out | apply KeepBut.set_ | apply keep_drewN | apply keep_drew | apply keep_alloc | refine keep_far ?_ GW225.out _ | refine keep_far ?_ GW226.out _ | refine keep_far ?_ GW227.out _ | refine keep_far ?_ GW228.out _) | exact HK.out))) : w.heap.size ≤ gb232)); have n9_ := Aside0.mk ((Nat.le_trans HW0.out (by rw [hg]; exact (keep_size (w := w) (g := g) (row := none) (by repeat (first | (with_reducible first | exact HK.out | apply KeepBut.set_ | apply keep_drewN | apply keep_drew | apply keep_alloc | refine keep_far ?_ GW225.out _ | refine keep_far ?_ GW226.out _ | refine keep_far ?_ GW227.out _ | refine keep_far ?_ GW228.out _) | exact HK.out))) : w.heap.size ≤ gb232) : w0.heap.size ≤ gb232)); have n10_ := Aside0.mk ((by rw [hg]; exact Nat.ne_of_lt (blk_lt (bf BK225.out)) : gb225 ≠ gb232)); have n11_ := Aside0.mk ((by rw [hg]; exact Nat.ne_of_gt (blk_lt (bf BK225.out)) : gb232 ≠ gb225)); have n12_ := Aside0.mk ((by rw [hg]; exact Nat.ne_of_lt (blk_lt (bf BK226.out)) : gb226 ≠ gb232)); have n13_ := Aside0.mk ((by rw [hg]; exact Nat.ne_of_gt (blk_lt (bf BK226.out)) : gb232 ≠ gb226)); have n14_ := Aside0.mk ((by rw [hg]; exact Nat.ne_of_lt (blk_lt (bf BK227.out)) : gb227 ≠ gb232)); have n15_ := Aside0.mk ((by rw [hg]; exact Nat.ne_of_gt (blk_lt (bf BK227.out)) : gb232 ≠ gb227)); have n16_ := Aside0.mk ((by rw [hg]; exact Nat.ne_of_lt (blk_lt (bf BK228.out)) : gb228 ≠ gb232)); have n17_ := Aside0.mk ((by rw [hg]; exact Nat.ne_of_gt (blk_lt (bf BK228.out)) : gb232 ≠ gb228)); have n18_ := Aside0.mk ((by rw [hg]; exact Nat.ne_of_lt (IsS93.lt (show IsS93 w0 _ g s0_0 t231 from by repeat (first | (with_reducible first | exact HI0.out | apply IsS93.alloc | apply IsS93.drewN | apply IsS93.drew | apply IsS93.set_1 | refine IsS93.far ?_ NB0_225.out _ | refine IsS93.far ?_ NB0_226.out _ | refine IsS93.far ?_ NB0_227.out _ | refine IsS93.far ?_ NB0_228.out _) | exact HI0.out))) : g ≠ gb232)); have n19_ := Aside0.mk ((by rw [hg]; exact Nat.ne_of_gt (IsS93.lt (show IsS93 w0 _ g s0_0 t231 from by repeat (first | (with_reducible first | exact HI0.out | apply IsS93.alloc | apply IsS93.drewN | apply IsS93.drew | apply IsS93.set_1 | refine IsS93.far ?_ NB0_225.out _ | refine IsS93.far ?_ NB0_226.out _ | refine IsS93.far ?_ NB0_227.out _ | refine IsS93.far ?_ NB0_228.out _) | exact HI0.out))) : gb232 ≠ g)); clear HI0; clear BK225; clear BK226; clear BK227; clear BK228; clear HK; clear HB; have HI0 := n0_; have BK225 := n1_; have BK226 := n2_; have BK227 := n3_; have BK228 := n4_; have HK := n5_; have HB := n6_; have BK232 := n7_; have GW232 := n8_; have GE232 := n9_; have NB225_232 := n10_; have NB232_225 := n11_; have NB226_232 := n12_; have NB232_226 := n13_; have NB227_232 := n14_; have NB232_227 := n15_; have NB228_232 := n16_; have NB232_228 := n17_; have NB0_232 := n18_; have NB232_0 := n19_; clear n0_ n1_ n2_ n3_ n4_ n5_ n6_ n7_ n8_ n9_ n10_ n11_ n12_ n13_ n14_ n15_ n16_ n17_ n18_ n19_; clear hb hbox hg; have hnb14 := NB232_225.out; have hnc14 := NB225_232.out; have hnb15 := NB232_226.out; have hnc15 := NB226_232.out; have hnb16 := NB232_227.out; have hnc16 := NB227_232.out; have hnb17 := NB232_228.out; have hnc17 := NB228_232.out; have hnb18 := NB232_0.out; have hnc18 := NB0_232.out; have hcz19_0 : w13.cell? ⟨gb232, 0, none⟩ = some (.int .i64 0) := (blk_cell BK232.out 0).trans rfl; have hcz19_1 : w13.cell? ⟨gb232, 1, none⟩ = some (.int .i64 0) := (blk_cell BK232.out 1).trans rfl; have hfz19_0 := blk_frozen BK232.out 0; have hfz19_1 := blk_frozen BK232.out 1) | ((with_reducible refine gate_callee (f := 79) rfl ?_); refine goesL_ (some 13) rfl rfl Try.func79 (by kernel_rfl) rfl #[.pointer (some ⟨g, 0, none⟩)] rfl al ?_; (with_reducible refine (spec_l91Point.calls k g s0_0 t231 t233 t234 t235 w0 _ ?side1 ?side2 A3.out).mono ?_); (case side1 => repeat (first | (with_reducible first | exact HI0.out | apply IsS93.alloc | apply IsS93.drewN | apply IsS93.drew | apply IsS93.set_1 | refine IsS93.far ?_ NB0_225.out _ | refine IsS93.far ?_ NB0_226.out _ | refine IsS93.far ?_ NB0_227.out _ | refine IsS93.far ?_ NB0_228.out _ | refine IsS93.far ?_ NB0_232.out _) | exact HI0.out)); (case side2 => repeat (first | (with_reducible first | exact HB.out | apply below_alloc | apply pw_below_drewN | apply below_drew1 | refine below_set ?_ (IsS93.ge HI0.out) | refine below_set ?_ GE225.out | refine below_set ?_ GE226.out | refine below_set ?_ GE227.out | refine below_set ?_ GE228.out | refine below_set ?_ GE232.out) | exact HB.out)); rintro e w20 ⟨rfl, hi, hb, hk⟩; refine ⟨_, rfl, ?_⟩; have n0_ := Aside0.mk (KeepBut.blk hk (g' := gb225) (o := .cells #[.int .i64 0, .int .i64 0] 33 (0, 0)) (bf BK225.out) NB225_0.out (by simp)); have n1_ := Aside0.mk (KeepBut.blk hk (g' := gb226) (o := .cells #[.int .i64 0, .int .i64 0] 33 (0, 0)) (bf BK226.out) NB226_0.out (by simp)); have n2_ := Aside0.mk (KeepBut.blk hk (g' := gb227) (o := .cells #[.int .i64 0, .int .i64 0] 33 (0, 0)) (bf BK227.out) NB227_0.out (by simp)); have n3_ := Aside0.mk (KeepBut.blk hk (g' := gb228) (o := .cells #[.int .i64 0, .int .i64 0] 33 (0, 0)) (bf BK228.out) NB228_0.out (by simp)); have n4_ := Aside0.mk (KeepBut.blk hk (g' := gb232) (o := .cells #[.int .i64 t229, .int .i64 t230] 33 (0, 0)) (by (with_reducible repeat (first | refine blk_drewN ?_ _ | refine blk_drew ?_ | refine blk_alloc ?_ _)); refine blk_put (cs := #[.int .i64 t229, .int .i64 0]) ?_ 1 _ rfl; (with_reducible repeat (first | refine blk_drewN ?_ _ | refine blk_drew ?_ | refine blk_alloc ?_ _)); refine blk_put (cs := #[.int .i64 0, .int .i64 0]) ?_ 0 _ rfl; (with_reducible repeat (first | refine blk_drewN ?_ _ | refine blk_drew ?_ | refine blk_alloc ?_ _)); exact BK232.out) NB232_0.out (by simp)); have n5_ := Aside0.mk (KeepBut.trans (by repeat (first | (with_reducible first | exact HK.out | apply KeepBut.set_ | apply keep_drewN | apply keep_drew | apply keep_alloc | refine keep_far ?_ GW225.out _ | refine keep_far ?_ GW226.out _ | refine keep_far ?_ GW227.out _ | refine keep_far ?_ GW228.out _ | refine keep_far ?_ GW232.out _) | exact HK.out)) hk (.inl rfl)); have n6_ := Aside0.mk (hb); have n7_ := Aside0.mk (hi); clear BK225; clear BK226; clear BK227; clear BK228; clear BK232; clear HK; clear HB; clear HI0; have BK225 := n0_; have BK226 := n1_; have BK227 := n2_; have BK228 := n3_; have BK232 := n4_; have HK := n5_; have HB := n6_; have HI0 := n7_; clear n0_ n1_ n2_ n3_ n4_ n5_ n6_ n7_; (try clear hb); (try clear hb2); (try clear hk); (try clear hi)) | ((with_reducible refine gate_dst (N := 7) rfl ?_); refine box_event ?hg (N := 7) ?hd (cs := #[.int .i64 0, .int .i64 0]) (t := 33) ?hr ?_; (case hd => rfl); (case hg => rfl); (case hr => first | (go_simp; done) | (go_simp; rfl)); intro gb236 hg w21 hbox hb; have n0_ := Aside0.mk (IsS93.below (by repeat (first | (with_reducible first | exact HI0.out | apply IsS93.alloc | apply IsS93.drewN | apply IsS93.drew | apply IsS93.set_1 | refine IsS93.far ?_ NB0_225.out _ | refine IsS93.far ?_ NB0_226.out _ | refine IsS93.far ?_ NB0_227.out _ | refine IsS93.far ?_ NB0_228.out _ | refine IsS93.far ?_ NB0_232.out _) | exact HI0.out)) hb); have n1_ := Aside0.mk (blk_below (bf BK225.out) hb); have n2_ := Aside0.mk (blk_below (bf BK226.out) hb); have n3_ := Aside0.mk (blk_below (bf BK227.out) hb); have n4_ := Aside0.mk (blk_below (bf BK228.out) hb); have n5_ := Aside0.mk (blk_below (bf BK232.out) hb); have n6_ := Aside0.mk (KeepBut.trans (by repeat (first | (with_reducible first | exact HK.out | apply KeepBut.set_ | apply keep_drewN | apply keep_drew | apply keep_alloc | refine keep_far ?_ GW225.out _ | refine keep_far ?_ GW226.out _ | refine keep_far ?_ GW227.out _ | refine keep_far ?_ GW228.out _ | refine keep_far ?_ GW232.out _) | exact HK.out)) (KeepBut.of_below hb g none) (.inl rfl)); have n7_ := Aside0.mk (below_step (by repeat (first | (with_reducible first | exact HB.out | apply below_alloc | apply pw_below_drewN | apply below_drew1 | refine below_set ?_ (IsS93.ge HI0.out) | refine below_set ?_ GE225.out | refine below_set ?_ GE226.out | refine below_set ?_ GE227.out | refine below_set ?_ GE228.out | refine below_set ?_ GE232.out) | exact HB.out)) hb); have n8_ := Aside0.mk (hbox); have n9_ := Aside0.mk ((by rw [hg]; exact (keep_size (w := w) (g := g) (row := none) (by repeat (first | (with_reducible first | exact HK.out | apply KeepBut.set_ | apply keep_drewN | apply keep_drew | apply keep_alloc | refine keep_far ?_ GW225.out _ | refine keep_far ?_ GW226.out _ | refine keep_far ?_ GW227.out _ | refine keep_far ?_ GW228.out _ | refine keep_far ?_ GW232.out _) | exact HK.out))) : w.heap.size ≤ gb236)); have n10_ := Aside0.mk ((Nat.le_trans HW0.out (by rw [hg]; exact (keep_size (w := w) (g := g) (row := none) (by repeat (first | (with_reducible first | exact HK.out | apply KeepBut.set_ | apply keep_drewN | apply keep_drew | apply keep_alloc | refine keep_far ?_ GW225.out _ | refine keep_far ?_ GW226.out _ | refine keep_far ?_ GW227.out _ | refine keep_far ?_ GW228.out _ | refine keep_far ?_ GW232.out _) | exact HK.out))) : w.heap.size ≤ gb236) : w0.heap.size ≤ gb236)); have n11_ := Aside0.mk ((by rw [hg]; exact Nat.ne_of_lt (blk_lt (bf BK225.out)) : gb225 ≠ gb236)); have n12_ := Aside0.mk ((by rw [hg]; exact Nat.ne_of_gt (blk_lt (bf BK225.out)) : gb236 ≠ gb225)); have n13_ := Aside0.mk ((by rw [hg]; exact Nat.ne_of_lt (blk_lt (bf BK226.out)) : gb226 ≠ gb236)); have n14_ := Aside0.mk ((by rw [hg]; exact Nat.ne_of_gt (blk_lt (bf BK226.out)) : gb236 ≠ gb226)); have n15_ := Aside0.mk ((by rw [hg]; exact Nat.ne_of_lt (blk_lt (bf BK227.out)) : gb227 ≠ gb236)); have n16_ := Aside0.mk ((by rw [hg]; exact Nat.ne_of_gt (blk_lt (bf BK227.out)) : gb236 ≠ gb227)); have n17_ := Aside0.mk ((by rw [hg]; exact Nat.ne_of_lt (blk_lt (bf BK228.out)) : gb228 ≠ gb236)); have n18_ := Aside0.mk ((by rw [hg]; exact Nat.ne_of_gt (blk_lt (bf BK228.out)) : gb236 ≠ gb228)); have n19_ := Aside0.mk ((by rw [hg]; exact Nat.ne_of_lt (blk_lt (bf BK232.out)) : gb232 ≠ gb236)); have n20_ := Aside0.mk ((by rw [hg]; exact Nat.ne_of_gt (blk_lt (bf BK232.out)) : gb236 ≠ gb232)); have n21_ := Aside0.mk ((by rw [hg]; exact Nat.ne_of_lt (IsS93.lt (show IsS93 w0 _ g s0_0 t235 from by repeat (first | (with_reducible first | exact HI0.out | apply IsS93.alloc | apply IsS93.drewN | apply IsS93.drew | apply IsS93.set_1 | refine IsS93.far ?_ NB0_225.out _ | refine IsS93.far ?_ NB0_226.out _ | refine IsS93.far ?_ NB0_227.out _ | refine IsS93.far ?_ NB0_228.out _ | refine IsS93.far ?_ NB0_232.out _) | exact HI0.out))) : g ≠ gb236)); have n22_ := Aside0.mk ((by rw [hg]; exact Nat.ne_of_gt (IsS93.lt (show IsS93 w0 _ g s0_0 t235 from by repeat (first | (with_reducible first | exact HI0.out | apply IsS93.alloc | apply IsS93.drewN | apply IsS93.drew | apply IsS93.set_1 | refine IsS93.far ?_ NB0_225.out _ | refine IsS93.far ?_ NB0_226.out _ | refine IsS93.far ?_ NB0_227.out _ | refine IsS93.far ?_ NB0_228.out _ | refine IsS93.far ?_ NB0_232.out _) | exact HI0.out))) : gb236 ≠ g)); clear HI0; clear BK225; clear BK226; clear BK227; clear BK228; clear BK232; clear HK; clear HB; have HI0 := n0_; have BK225 := n1_; have BK226 := n2_; have BK227 := n3_; have BK228 := n4_; have BK232 := n5_; have HK := n6_; have HB := n7_; have BK236 := n8_; have GW236 := n9_; have GE236 := n10_; have NB225_236 := n11_; have NB236_225 := n12_; have NB226_236 := n13_; have NB236_226 := n14_; have NB227_236 := n15_; have NB236_227 := n16_; have NB228_236 := n17_; have NB236_228 := n18_; have NB232_236 := n19_; have NB236_232 := n20_; have NB0_236 := n21_; have NB236_0 := n22_; clear n0_ n1_ n2_ n3_ n4_ n5_ n6_ n7_ n8_ n9_ n10_ n11_ n12_ n13_ n14_ n15_ n16_ n17_ n18_ n19_ n20_ n21_ n22_; clear hb hbox hg; have hnb22 := NB236_225.out; have hnc22 := NB225_236.out; have hnb23 := NB236_226.out; have hnc23 := NB226_236.out; have hnb24 := NB236_227.out; have hnc24 := NB227_236.out; have hnb25 := NB236_228.out; have hnc25 := NB228_236.out; have hnb26 := NB236_232.out; have hnc26 := NB232_236.out; have hnb27 := NB236_0.out; have hnc27 := NB0_236.out; have hcz28_0 : w21.cell? ⟨gb236, 0, none⟩ = some (.int .i64 0) := (blk_cell BK236.out 0).trans rfl; have hcz28_1 : w21.cell? ⟨gb236, 1, none⟩ = some (.int .i64 0) := (blk_cell BK236.out 1).trans rfl; have hfz28_0 := blk_frozen BK236.out 0; have hfz28_1 := blk_frozen BK236.out 1) | ((with_reducible refine gate_callee (f := 79) rfl ?_); refine goesL_ (some 15) rfl rfl Try.func79 (by kernel_rfl) rfl #[.pointer (some ⟨g, 0, none⟩)] rfl al ?_; (with_reducible refine (spec_l91Point.calls k g s0_0 t235 t237 t238 t239 w0 _ ?side1 ?side2 A4.out).mono ?_); (case side1 => repeat (first | (with_reducible first | exact HI0.out | apply IsS93.alloc | apply IsS93.drewN | apply IsS93.drew | apply IsS93.set_1 | refine IsS93.far ?_ NB0_225.out _ | refine IsS93.far ?_ NB0_226.out _ | refine IsS93.far ?_ NB0_227.out _ | refine IsS93.far ?_ NB0_228.out _ | refine IsS93.far ?_ NB0_232.out _ | refine IsS93.far ?_ NB0_236.out _) | exact HI0.out)); (case side2 => repeat (first | (with_reducible first | exact HB.out | apply below_alloc | apply pw_below_drewN | apply below_drew1 | refine below_set ?_ (IsS93.ge HI0.out) | refine below_set ?_ GE225.out | refine below_set ?_ GE226.out | refine below_set ?_ GE227.out | refine below_set ?_ GE228.out | refine below_set ?_ GE232.out | refine below_set ?_ GE236.out) | exact HB.out)); rintro e w29 ⟨rfl, hi, hb, hk⟩; refine ⟨_, rfl, ?_⟩; have n0_ := Aside0.mk (KeepBut.blk hk (g' := gb225) (o := .cells #[.int .i64 0, .int .i64 0] 33 (0, 0)) (bf BK225.out) NB225_0.out (by simp)); have n1_ := Aside0.mk (KeepBut.blk hk (g' := gb226) (o := .cells #[.int .i64 0, .int .i64 0] 33 (0, 0)) (bf BK226.out) NB226_0.out (by simp)); have n2_ := Aside0.mk (KeepBut.blk hk (g' := gb227) (o := .cells #[.int .i64 0, .int .i64 0] 33 (0, 0)) (bf BK227.out) NB227_0.out (by simp)); have n3_ := Aside0.mk (KeepBut.blk hk (g' := gb228) (o := .cells #[.int .i64 0, .int .i64 0] 33 (0, 0)) (bf BK228.out) NB228_0.out (by simp)); have n4_ := Aside0.mk (KeepBut.blk hk (g' := gb232) (o := .cells #[.int .i64 t229, .int .i64 t230] 33 (0, 0)) (bf BK232.out) NB232_0.out (by simp)); have n5_ := Aside0.mk (KeepBut.blk hk (g' := gb236) (o := .cells #[.int .i64 t233, .int .i64 t234] 33 (0, 0)) (by (with_reducible repeat (first | refine blk_drewN ?_ _ | refine blk_drew ?_ | refine blk_alloc ?_ _)); refine blk_put (cs := #[.int .i64 t233, .int .i64 0]) ?_ 1 _ rfl; (with_reducible repeat (first | refine blk_drewN ?_ _ | refine blk_drew ?_ | refine blk_alloc ?_ _)); refine blk_put (cs := #[.int .i64 0, .int .i64 0]) ?_ 0 _ rfl; (with_reducible repeat (first | refine blk_drewN ?_ _ | refine blk_drew ?_ | refine blk_alloc ?_ _)); exact BK236.out) NB236_0.out (by simp)); have n6_ := Aside0.mk (KeepBut.trans (by repeat (first | (with_reducible first | exact HK.out | apply KeepBut.set_ | apply keep_drewN | apply keep_drew | apply keep_alloc | refine keep_far ?_ GW225.out _ | refine keep_far ?_ GW226.out _ | refine keep_far ?_ GW227.out _ | refine keep_far ?_ GW228.out _ | refine keep_far ?_ GW232.out _ | refine keep_far ?_ GW236.out _) | exact HK.out)) hk (.inl rfl)); have n7_ := Aside0.mk (hb); have n8_ := Aside0.mk (hi); clear BK225; clear BK226; clear BK227; clear BK228; clear BK232; clear BK236; clear HK; clear HB; clear HI0; have BK225 := n0_; have BK226 := n1_; have BK227 := n2_; have BK228 := n3_; have BK232 := n4_; have BK236 := n5_; have HK := n6_; have HB := n7_; have HI0 := n8_; clear n0_ n1_ n2_ n3_ n4_ n5_ n6_ n7_ n8_; (try clear hb); (try clear hb2); (try clear hk); (try clear hi)) | ((with_reducible refine gate_dst (N := 8) rfl ?_); refine box_event ?hg (N := 8) ?hd (cs := #[.int .i64 0, .int .i64 0]) (t := 33) ?hr ?_; (case hd => rfl); (case hg => rfl); (case hr => first | (go_simp; done) | (go_simp; rfl)); intro gb240 hg w30 hbox hb; have n0_ := Aside0.mk (IsS93.below (by repeat (first | (with_reducible first | exact HI0.out | apply IsS93.alloc | apply IsS93.drewN | apply IsS93.drew | apply IsS93.set_1 | refine IsS93.far ?_ NB0_225.out _ | refine IsS93.far ?_ NB0_226.out _ | refine IsS93.far ?_ NB0_227.out _ | refine IsS93.far ?_ NB0_228.out _ | refine IsS93.far ?_ NB0_232.out _ | refine IsS93.far ?_ NB0_236.out _) | exact HI0.out)) hb); have n1_ := Aside0.mk (blk_below (bf BK225.out) hb); have n2_ := Aside0.mk (blk_below (bf BK226.out) hb); have n3_ := Aside0.mk (blk_below (bf BK227.out) hb); have n4_ := Aside0.mk (blk_below (bf BK228.out) hb); have n5_ := Aside0.mk (blk_below (bf BK232.out) hb); have n6_ := Aside0.mk (blk_below (bf BK236.out) hb); have n7_ := Aside0.mk (KeepBut.trans (by repeat (first | (with_reducible first | exact HK.out | apply KeepBut.set_ | apply keep_drewN | apply keep_drew | apply keep_alloc | refine keep_far ?_ GW225.out _ | refine keep_far ?_ GW226.out _ | refine keep_far ?_ GW227.out _ | refine keep_far ?_ GW228.out _ | refine keep_far ?_ GW232.out _ | refine keep_far ?_ GW236.out _) | exact HK.out)) (KeepBut.of_below hb g none) (.inl rfl)); have n8_ := Aside0.mk (below_step (by repeat (first | (with_reducible first | exact HB.out | apply below_alloc | apply pw_below_drewN | apply below_drew1 | refine below_set ?_ (IsS93.ge HI0.out) | refine below_set ?_ GE225.out | refine below_set ?_ GE226.out | refine below_set ?_ GE227.out | refine below_set ?_ GE228.out | refine below_set ?_ GE232.out | refine below_set ?_ GE236.out) | exact HB.out)) hb); have n9_ := Aside0.mk (hbox); have n10_ := Aside0.mk ((by rw [hg]; exact (keep_size (w := w) (g := g) (row := none) (by repeat (first | (with_reducible first | exact HK.out | apply KeepBut.set_ | apply keep_drewN | apply keep_drew | apply keep_alloc | refine keep_far ?_ GW225.out _ | refine keep_far ?_ GW226.out _ | refine keep_far ?_ GW227.out _ | refine keep_far ?_ GW228.out _ | refine keep_far ?_ GW232.out _ | refine keep_far ?_ GW236.out _) | exact HK.out))) : w.heap.size ≤ gb240)); have n11_ := Aside0.mk ((Nat.le_trans HW0.out (by rw [hg]; exact (keep_size (w := w) (g := g) (row := none) (by repeat (first | (with_reducible first | exact HK.out | apply KeepBut.set_ | apply keep_drewN | apply keep_drew | apply keep_alloc | refine keep_far ?_ GW225.out _ | refine keep_far ?_ GW226.out _ | refine keep_far ?_ GW227.out _ | refine keep_far ?_ GW228.out _ | refine keep_far ?_ GW232.out _ | refine keep_far ?_ GW236.out _) | exact HK.out))) : w.heap.size ≤ gb240) : w0.heap.size ≤ gb240)); have n12_ := Aside0.mk ((by rw [hg]; exact Nat.ne_of_lt (blk_lt (bf BK225.out)) : gb225 ≠ gb240)); have n13_ := Aside0.mk ((by rw [hg]; exact Nat.ne_of_gt (blk_lt (bf BK225.out)) : gb240 ≠ gb225)); have n14_ := Aside0.mk ((by rw [hg]; exact Nat.ne_of_lt (blk_lt (bf BK226.out)) : gb226 ≠ gb240)); have n15_ := Aside0.mk ((by rw [hg]; exact Nat.ne_of_gt (blk_lt (bf BK226.out)) : gb240 ≠ gb226)); have n16_ := Aside0.mk ((by rw [hg]; exact Nat.ne_of_lt (blk_lt (bf BK227.out)) : gb227 ≠ gb240)); have n17_ := Aside0.mk ((by rw [hg]; exact Nat.ne_of_gt (blk_lt (bf BK227.out)) : gb240 ≠ gb227)); have n18_ := Aside0.mk ((by rw [hg]; exact Nat.ne_of_lt (blk_lt (bf BK228.out)) : gb228 ≠ gb240)); have n19_ := Aside0.mk ((by rw [hg]; exact Nat.ne_of_gt (blk_lt (bf BK228.out)) : gb240 ≠ gb228)); have n20_ := Aside0.mk ((by rw [hg]; exact Nat.ne_of_lt (blk_lt (bf BK232.out)) : gb232 ≠ gb240)); have n21_ := Aside0.mk ((by rw [hg]; exact Nat.ne_of_gt (blk_lt (bf BK232.out)) : gb240 ≠ gb232)); have n22_ := Aside0.mk ((by rw [hg]; exact Nat.ne_of_lt (blk_lt (bf BK236.out)) : gb236 ≠ gb240)); have n23_ := Aside0.mk ((by rw [hg]; exact Nat.ne_of_gt (blk_lt (bf BK236.out)) : gb240 ≠ gb236)); have n24_ := Aside0.mk ((by rw [hg]; exact Nat.ne_of_lt (IsS93.lt (show IsS93 w0 _ g s0_0 t239 from by repeat (first | (with_reducible first | exact HI0.out | apply IsS93.alloc | apply IsS93.drewN | apply IsS93.drew | apply IsS93.set_1 | refine IsS93.far ?_ NB0_225.out _ | refine IsS93.far ?_ NB0_226.out _ | refine IsS93.far ?_ NB0_227.out _ | refine IsS93.far ?_ NB0_228.out _ | refine IsS93.far ?_ NB0_232.out _ | refine IsS93.far ?_ NB0_236.out _) | exact HI0.out))) : g ≠ gb240)); have n25_ := Aside0.mk ((by rw [hg]; exact Nat.ne_of_gt (IsS93.lt (show IsS93 w0 _ g s0_0 t239 from by repeat (first | (with_reducible first | exact HI0.out | apply IsS93.alloc | apply IsS93.drewN | apply IsS93.drew | apply IsS93.set_1 | refine IsS93.far ?_ NB0_225.out _ | refine IsS93.far ?_ NB0_226.out _ | refine IsS93.far ?_ NB0_227.out _ | refine IsS93.far ?_ NB0_228.out _ | refine IsS93.far ?_ NB0_232.out _ | refine IsS93.far ?_ NB0_236.out _) | exact HI0.out))) : gb240 ≠ g)); clear HI0; clear BK225; clear BK226; clear BK227; clear BK228; clear BK232; clear BK236; clear HK; clear HB; have HI0 := n0_; have BK225 := n1_; have BK226 := n2_; have BK227 := n3_; have BK228 := n4_; have BK232 := n5_; have BK236 := n6_; have HK := n7_; have HB := n8_; have BK240 := n9_; have GW240 := n10_; have GE240 := n11_; have NB225_240 := n12_; have NB240_225 := n13_; have NB226_240 := n14_; have NB240_226 := n15_; have NB227_240 := n16_; have NB240_227 := n17_; have NB228_240 := n18_; have NB240_228 := n19_; have NB232_240 := n20_; have NB240_232 := n21_; have NB236_240 := n22_; have NB240_236 := n23_; have NB0_240 := n24_; have NB240_0 := n25_; clear n0_ n1_ n2_ n3_ n4_ n5_ n6_ n7_ n8_ n9_ n10_ n11_ n12_ n13_ n14_ n15_ n16_ n17_ n18_ n19_ n20_ n21_ n22_ n23_ n24_ n25_; clear hb hbox hg; have hnb31 := NB240_225.out; have hnc31 := NB225_240.out; have hnb32 := NB240_226.out; have hnc32 := NB226_240.out; have hnb33 := NB240_227.out; have hnc33 := NB227_240.out; have hnb34 := NB240_228.out; have hnc34 := NB228_240.out; have hnb35 := NB240_232.out; have hnc35 := NB232_240.out; have hnb36 := NB240_236.out; have hnc36 := NB236_240.out; have hnb37 := NB240_0.out; have hnc37 := NB0_240.out; have hcz38_0 : w30.cell? ⟨gb240, 0, none⟩ = some (.int .i64 0) := (blk_cell BK240.out 0).trans rfl; have hcz38_1 : w30.cell? ⟨gb240, 1, none⟩ = some (.int .i64 0) := (blk_cell BK240.out 1).trans rfl; have hfz38_0 := blk_frozen BK240.out 0; have hfz38_1 := blk_frozen BK240.out 1) | ((with_reducible refine gate_callee (f := 79) rfl ?_); refine goesL_ (some 17) rfl rfl Try.func79 (by kernel_rfl) rfl #[.pointer (some ⟨g, 0, none⟩)] rfl al ?_; (with_reducible refine (spec_l91Point.calls k g s0_0 t239 t241 t242 t243 w0 _ ?side1 ?side2 A5.out).mono ?_); (case side1 => repeat (first | (with_reducible first | exact HI0.out | apply IsS93.alloc | apply IsS93.drewN | apply IsS93.drew | apply IsS93.set_1 | refine IsS93.far ?_ NB0_225.out _ | refine IsS93.far ?_ NB0_226.out _ | refine IsS93.far ?_ NB0_227.out _ | refine IsS93.far ?_ NB0_228.out _ | refine IsS93.far ?_ NB0_232.out _ | refine IsS93.far ?_ NB0_236.out _ | refine IsS93.far ?_ NB0_240.out _) | exact HI0.out)); (case side2 => repeat (first | (with_reducible first | exact HB.out | apply below_alloc | apply pw_below_drewN | apply below_drew1 | refine below_set ?_ (IsS93.ge HI0.out) | refine below_set ?_ GE225.out | refine below_set ?_ GE226.out | refine below_set ?_ GE227.out | refine below_set ?_ GE228.out | refine below_set ?_ GE232.out | refine below_set ?_ GE236.out | refine below_set ?_ GE240.out) | exact HB.out)); rintro e w39 ⟨rfl, hi, hb, hk⟩; refine ⟨_, rfl, ?_⟩; have n0_ := Aside0.mk (KeepBut.blk hk (g' := gb225) (o := .cells #[.int .i64 0, .int .i64 0] 33 (0, 0)) (bf BK225.out) NB225_0.out (by simp)); have n1_ := Aside0.mk (KeepBut.blk hk (g' := gb226) (o := .cells #[.int .i64 0, .int .i64 0] 33 (0, 0)) (bf BK226.out) NB226_0.out (by simp)); have n2_ := Aside0.mk (KeepBut.blk hk (g' := gb227) (o := .cells #[.int .i64 0, .int .i64 0] 33 (0, 0)) (bf BK227.out) NB227_0.out (by simp)); have n3_ := Aside0.mk (KeepBut.blk hk (g' := gb228) (o := .cells #[.int .i64 0, .int .i64 0] 33 (0, 0)) (bf BK228.out) NB228_0.out (by simp)); have n4_ := Aside0.mk (KeepBut.blk hk (g' := gb232) (o := .cells #[.int .i64 t229, .int .i64 t230] 33 (0, 0)) (bf BK232.out) NB232_0.out (by simp)); have n5_ := Aside0.mk (KeepBut.blk hk (g' := gb236) (o := .cells #[.int .i64 t233, .int .i64 t234] 33 (0, 0)) (bf BK236.out) NB236_0.out (by simp)); have n6_ := Aside0.mk (KeepBut.blk hk (g' := gb240) (o := .cells #[.int .i64 t237, .int .i64 t238] 33 (0, 0)) (by (with_reducible repeat (first | refine blk_drewN ?_ _ | refine blk_drew ?_ | refine blk_alloc ?_ _)); refine blk_put (cs := #[.int .i64 t237, .int .i64 0]) ?_ 1 _ rfl; (with_reducible repeat (first | refine blk_drewN ?_ _ | refine blk_drew ?_ | refine blk_alloc ?_ _)); refine blk_put (cs := #[.int .i64 0, .int .i64 0]) ?_ 0 _ rfl; (with_reducible repeat (first | refine blk_drewN ?_ _ | refine blk_drew ?_ | refine blk_alloc ?_ _)); exact BK240.out) NB240_0.out (by simp)); have n7_ := Aside0.mk (KeepBut.trans (by repeat (first | (with_reducible first | exact HK.out | apply KeepBut.set_ | apply keep_drewN | apply keep_drew | apply keep_alloc | refine keep_far ?_ GW225.out _ | refine keep_far ?_ GW226.out _ | refine keep_far ?_ GW227.out _ | refine keep_far ?_ GW228.out _ | refine keep_far ?_ GW232.out _ | refine keep_far ?_ GW236.out _ | refine keep_far ?_ GW240.out _) | exact HK.out)) hk (.inl rfl)); have n8_ := Aside0.mk (hb); have n9_ := Aside0.mk (hi); clear BK225; clear BK226; clear BK227; clear BK228; clear BK232; clear BK236; clear BK240; clear HK; clear HB; clear HI0; have BK225 := n0_; have BK226 := n1_; have BK227 := n2_; have BK228 := n3_; have BK232 := n4_; have BK236 := n5_; have BK240 := n6_; have HK := n7_; have HB := n8_; have HI0 := n9_; clear n0_ n1_ n2_ n3_ n4_ n5_ n6_ n7_ n8_ n9_; (try clear hb); (try clear hb2); (try clear hk); (try clear hi)) | ((with_reducible refine gate_dst (N := 9) rfl ?_); refine box_event ?hg (N := 9) ?hd (cs := #[.int .i64 0, .int .i64 0]) (t := 33) ?hr ?_; (case hd => rfl); (case hg => rfl); (case hr => first | (go_simp; done) | (go_simp; rfl)); intro gb244 hg w40 hbox hb; have n0_ := Aside0.mk (IsS93.below (by repeat (first | (with_reducible first | exact HI0.out | apply IsS93.alloc | apply IsS93.drewN | apply IsS93.drew | apply IsS93.set_1 | refine IsS93.far ?_ NB0_225.out _ | refine IsS93.far ?_ NB0_226.out _ | refine IsS93.far ?_ NB0_227.out _ | refine IsS93.far ?_ NB0_228.out _ | refine IsS93.far ?_ NB0_232.out _ | refine IsS93.far ?_ NB0_236.out _ | refine IsS93.far ?_ NB0_240.out _) | exact HI0.out)) hb); have n1_ := Aside0.mk (blk_below (bf BK225.out) hb); have n2_ := Aside0.mk (blk_below (bf BK226.out) hb); have n3_ := Aside0.mk (blk_below (bf BK227.out) hb); have n4_ := Aside0.mk (blk_below (bf BK228.out) hb); have n5_ := Aside0.mk (blk_below (bf BK232.out) hb); have n6_ := Aside0.mk (blk_below (bf BK236.out) hb); have n7_ := Aside0.mk (blk_below (bf BK240.out) hb); have n8_ := Aside0.mk (KeepBut.trans (by repeat (first | (with_reducible first | exact HK.out | apply KeepBut.set_ | apply keep_drewN | apply keep_drew | apply keep_alloc | refine keep_far ?_ GW225.out _ | refine keep_far ?_ GW226.out _ | refine keep_far ?_ GW227.out _ | refine keep_far ?_ GW228.out _ | refine keep_far ?_ GW232.out _ | refine keep_far ?_ GW236.out _ | refine keep_far ?_ GW240.out _) | exact HK.out)) (KeepBut.of_below hb g none) (.inl rfl)); have n9_ := Aside0.mk (below_step (by repeat (first | (with_reducible first | exact HB.out | apply below_alloc | apply pw_below_drewN | apply below_drew1 | refine below_set ?_ (IsS93.ge HI0.out) | refine below_set ?_ GE225.out | refine below_set ?_ GE226.out | refine below_set ?_ GE227.out | refine below_set ?_ GE228.out | refine below_set ?_ GE232.out | refine below_set ?_ GE236.out | refine below_set ?_ GE240.out) | exact HB.out)) hb); have n10_ := Aside0.mk (hbox); have n11_ := Aside0.mk ((by rw [hg]; exact (keep_size (w := w) (g := g) (row := none) (by repeat (first | (with_reducible first | exact HK.out | apply KeepBut.set_ | apply keep_drewN | apply keep_drew | apply keep_alloc | refine keep_far ?_ GW225.out _ | refine keep_far ?_ GW226.out _ | refine keep_far ?_ GW227.out _ | refine keep_far ?_ GW228.out _ | refine keep_far ?_ GW232.out _ | refine keep_far ?_ GW236.out _ | refine keep_far ?_ GW240.out _) | exact HK.out))) : w.heap.size ≤ gb244)); have n12_ := Aside0.mk ((Nat.le_trans HW0.out (by rw [hg]; exact (keep_size (w := w) (g := g) (row := none) (by repeat (first | (with_reducible first | exact HK.out | apply KeepBut.set_ | apply keep_drewN | apply keep_drew | apply keep_alloc | refine keep_far ?_ GW225.out _ | refine keep_far ?_ GW226.out _ | refine keep_far ?_ GW227.out _ | refine keep_far ?_ GW228.out _ | refine keep_far ?_ GW232.out _ | refine keep_far ?_ GW236.out _ | refine keep_far ?_ GW240.out _) | exact HK.out))) : w.heap.size ≤ gb244) : w0.heap.size ≤ gb244)); have n13_ := Aside0.mk ((by rw [hg]; exact Nat.ne_of_lt (blk_lt (bf BK225.out)) : gb225 ≠ gb244)); have n14_ := Aside0.mk ((by rw [hg]; exact Nat.ne_of_gt (blk_lt (bf BK225.out)) : gb244 ≠ gb225)); have n15_ := Aside0.mk ((by rw [hg]; exact Nat.ne_of_lt (blk_lt (bf BK226.out)) : gb226 ≠ gb244)); have n16_ := Aside0.mk ((by rw [hg]; exact Nat.ne_of_gt (blk_lt (bf BK226.out)) : gb244 ≠ gb226)); have n17_ := Aside0.mk ((by rw [hg]; exact Nat.ne_of_lt (blk_lt (bf BK227.out)) : gb227 ≠ gb244)); have n18_ := Aside0.mk ((by rw [hg]; exact Nat.ne_of_gt (blk_lt (bf BK227.out)) : gb244 ≠ gb227)); have n19_ := Aside0.mk ((by rw [hg]; exact Nat.ne_of_lt (blk_lt (bf BK228.out)) : gb228 ≠ gb244)); have n20_ := Aside0.mk ((by rw [hg]; exact Nat.ne_of_gt (blk_lt (bf BK228.out)) : gb244 ≠ gb228)); have n21_ := Aside0.mk ((by rw [hg]; exact Nat.ne_of_lt (blk_lt (bf BK232.out)) : gb232 ≠ gb244)); have n22_ := Aside0.mk ((by rw [hg]; exact Nat.ne_of_gt (blk_lt (bf BK232.out)) : gb244 ≠ gb232)); have n23_ := Aside0.mk ((by rw [hg]; exact Nat.ne_of_lt (blk_lt (bf BK236.out)) : gb236 ≠ gb244)); have n24_ := Aside0.mk ((by rw [hg]; exact Nat.ne_of_gt (blk_lt (bf BK236.out)) : gb244 ≠ gb236)); have n25_ := Aside0.mk ((by rw [hg]; exact Nat.ne_of_lt (blk_lt (bf BK240.out)) : gb240 ≠ gb244)); have n26_ := Aside0.mk ((by rw [hg]; exact Nat.ne_of_gt (blk_lt (bf BK240.out)) : gb244 ≠ gb240)); have n27_ := Aside0.mk ((by rw [hg]; exact Nat.ne_of_lt (IsS93.lt (show IsS93 w0 _ g s0_0 t243 from by repeat (first | (with_reducible first | exact HI0.out | apply IsS93.alloc | apply IsS93.drewN | apply IsS93.drew | apply IsS93.set_1 | refine IsS93.far ?_ NB0_225.out _ | refine IsS93.far ?_ NB0_226.out _ | refine IsS93.far ?_ NB0_227.out _ | refine IsS93.far ?_ NB0_228.out _ | refine IsS93.far ?_ NB0_232.out _ | refine IsS93.far ?_ NB0_236.out _ | refine IsS93.far ?_ NB0_240.out _) | exact HI0.out))) : g ≠ gb244)); have n28_ := Aside0.mk ((by rw [hg]; exact Nat.ne_of_gt (IsS93.lt (show IsS93 w0 _ g s0_0 t243 from by repeat (first | (with_reducible first | exact HI0.out | apply IsS93.alloc | apply IsS93.drewN | apply IsS93.drew | apply IsS93.set_1 | refine IsS93.far ?_ NB0_225.out _ | refine IsS93.far ?_ NB0_226.out _ | refine IsS93.far ?_ NB0_227.out _ | refine IsS93.far ?_ NB0_228.out _ | refine IsS93.far ?_ NB0_232.out _ | refine IsS93.far ?_ NB0_236.out _ | refine IsS93.far ?_ NB0_240.out _) | exact HI0.out))) : gb244 ≠ g)); clear HI0; clear BK225; clear BK226; clear BK227; clear BK228; clear BK232; clear BK236; clear BK240; clear HK; clear HB; have HI0 := n0_; have BK225 := n1_; have BK226 := n2_; have BK227 := n3_; have BK228 := n4_; have BK232 := n5_; have BK236 := n6_; have BK240 := n7_; have HK := n8_; have HB := n9_; have BK244 := n10_; have GW244 := n11_; have GE244 := n12_; have NB225_244 := n13_; have NB244_225 := n14_; have NB226_244 := n15_; have NB244_226 := n16_; have NB227_244 := n17_; have NB244_227 := n18_; have NB228_244 := n19_; have NB244_228 := n20_; have NB232_244 := n21_; have NB244_232 := n22_; have NB236_244 := n23_; have NB244_236 := n24_; have NB240_244 := n25_; have NB244_240 := n26_; have NB0_244 := n27_; have NB244_0 := n28_; clear n0_ n1_ n2_ n3_ n4_ n5_ n6_ n7_ n8_ n9_ n10_ n11_ n12_ n13_ n14_ n15_ n16_ n17_ n18_ n19_ n20_ n21_ n22_ n23_ n24_ n25_ n26_ n27_ n28_; clear hb hbox hg; have hnb41 := NB244_225.out; have hnc41 := NB225_244.out; have hnb42 := NB244_226.out; have hnc42 := NB226_244.out; have hnb43 := NB244_227.out; have hnc43 := NB227_244.out; have hnb44 := NB244_228.out; have hnc44 := NB228_244.out; have hnb45 := NB244_232.out; have hnc45 := NB232_244.out; have hnb46 := NB244_236.out; have hnc46 := NB236_244.out; have hnb47 := NB244_240.out; have hnc47 := NB240_244.out; have hnb48 := NB244_0.out; have hnc48 := NB0_244.out; have hcz49_0 : w40.cell? ⟨gb244, 0, none⟩ = some (.int .i64 0) := (blk_cell BK244.out 0).trans rfl; have hcz49_1 : w40.cell? ⟨gb244, 1, none⟩ = some (.int .i64 0) := (blk_cell BK244.out 1).trans rfl; have hfz49_0 := blk_frozen BK244.out 0; have hfz49_1 := blk_frozen BK244.out 1) | ((with_reducible refine gate_callee (f := 65) rfl ?_); refine goesL_ (some 19) rfl rfl Try.func65 (by kernel_rfl) rfl #[.pointer (some ⟨g, 0, none⟩), .int .i64 6] rfl al ?_; (with_reducible refine (spec_l6Rd_pick.calls k g s0_0 t243 6 t245 t246 w0 _ ?side1 ?side2 A6.out).mono ?_); (case side1 => repeat (first | (with_reducible first | exact HI0.out | apply IsS93.alloc | apply IsS93.drewN | apply IsS93.drew | apply IsS93.set_1 | refine IsS93.far ?_ NB0_225.out _ | refine IsS93.far ?_ NB0_226.out _ | refine IsS93.far ?_ NB0_227.out _ | refine IsS93.far ?_ NB0_228.out _ | refine IsS93.far ?_ NB0_232.out _ | refine IsS93.far ?_ NB0_236.out _ | refine IsS93.far ?_ NB0_240.out _ | refine IsS93.far ?_ NB0_244.out _) | exact HI0.out)); (case side2 => repeat (first | (with_reducible first | exact HB.out | apply below_alloc | apply pw_below_drewN | apply below_drew1 | refine below_set ?_ (IsS93.ge HI0.out) | refine below_set ?_ GE225.out | refine below_set ?_ GE226.out | refine below_set ?_ GE227.out | refine below_set ?_ GE228.out | refine below_set ?_ GE232.out | refine below_set ?_ GE236.out | refine below_set ?_ GE240.out | refine below_set ?_ GE244.out) | exact HB.out)); rintro e w50 ⟨rfl, hi, hb, hk⟩; refine ⟨_, rfl, ?_⟩; have n0_ := Aside0.mk (KeepBut.blk hk (g' := gb225) (o := .cells #[.int .i64 0, .int .i64 0] 33 (0, 0)) (bf BK225.out) NB225_0.out (by simp)); have n1_ := Aside0.mk (KeepBut.blk hk (g' := gb226) (o := .cells #[.int .i64 0, .int .i64 0] 33 (0, 0)) (bf BK226.out) NB226_0.out (by simp)); have n2_ := Aside0.mk (KeepBut.blk hk (g' := gb227) (o := .cells #[.int .i64 0, .int .i64 0] 33 (0, 0)) (bf BK227.out) NB227_0.out (by simp)); have n3_ := Aside0.mk (KeepBut.blk hk (g' := gb228) (o := .cells #[.int .i64 0, .int .i64 0] 33 (0, 0)) (bf BK228.out) NB228_0.out (by simp)); have n4_ := Aside0.mk (KeepBut.blk hk (g' := gb232) (o := .cells #[.int .i64 t229, .int .i64 t230] 33 (0, 0)) (bf BK232.out) NB232_0.out (by simp)); have n5_ := Aside0.mk (KeepBut.blk hk (g' := gb236) (o := .cells #[.int .i64 t233, .int .i64 t234] 33 (0, 0)) (bf BK236.out) NB236_0.out (by simp)); have n6_ := Aside0.mk (KeepBut.blk hk (g' := gb240) (o := .cells #[.int .i64 t237, .int .i64 t238] 33 (0, 0)) (bf BK240.out) NB240_0.out (by simp)); have n7_ := Aside0.mk (KeepBut.blk hk (g' := gb244) (o := .cells #[.int .i64 t241, .int .i64 t242] 33 (0, 0)) (by (with_reducible repeat (first | refine blk_drewN ?_ _ | refine blk_drew ?_ | refine blk_alloc ?_ _)); refine blk_put (cs := #[.int .i64 t241, .int .i64 0]) ?_ 1 _ rfl; (with_reducible repeat (first | refine blk_drewN ?_ _ | refine blk_drew ?_ | refine blk_alloc ?_ _)); refine blk_put (cs := #[.int .i64 0, .int .i64 0]) ?_ 0 _ rfl; (with_reducible repeat (first | refine blk_drewN ?_ _ | refine blk_drew ?_ | refine blk_alloc ?_ _)); exact BK244.out) NB244_0.out (by simp)); have n8_ := Aside0.mk (KeepBut.trans (by repeat (first | (with_reducible first | exact HK.out | apply KeepBut.set_ | apply keep_drewN | apply keep_drew | apply keep_alloc | refine keep_far ?_ GW225.out _ | refine keep_far ?_ GW226.out _ | refine keep_far ?_ GW227.out _ | refine keep_far ?_ GW228.out _ | refine keep_far ?_ GW232.out _ | refine keep_far ?_ GW236.out _ | refine keep_far ?_ GW240.out _ | refine keep_far ?_ GW244.out _) | exact HK.out)) hk (.inl rfl)); have n9_ := Aside0.mk (hb); have n10_ := Aside0.mk (hi); clear BK225; clear BK226; clear BK227; clear BK228; clear BK232; clear BK236; clear BK240; clear BK244; clear HK; clear HB; clear HI0; have BK225 := n0_; have BK226 := n1_; have BK227 := n2_; have BK228 := n3_; have BK232 := n4_; have BK236 := n5_; have BK240 := n6_; have BK244 := n7_; have HK := n8_; have HB := n9_; have HI0 := n10_; clear n0_ n1_ n2_ n3_ n4_ n5_ n6_ n7_ n8_ n9_ n10_; (try clear hb); (try clear hb2); (try clear hk); (try clear hi)))
 by_cases c7 : t245 = 0
 ·rw [if_pos c7] at H
  have c7b0 : (t245 == 0) = true := beq_iff_eq.mpr c7
  have c7b1 : (t245 != 0) = false := bne_eq_false_iff_eq.mpr c7
  clear c7
  simp only [Option.some.injEq, Prod.mk.injEq] at H
  obtain ⟨rfl, rfl, rfl, rfl, rfl, rfl, rfl, rfl, rfl⟩ := H
  try go_wp2_with fail
  have n0_ := Aside0.mk (blk_drew BK225.out)
  have n1_ := Aside0.mk (blk_drew BK226.out)
  have n2_ := Aside0.mk (blk_drew BK227.out)
  have n3_ := Aside0.mk (blk_drew BK228.out)
  have n4_ := Aside0.mk (blk_drew BK232.out)
  have n5_ := Aside0.mk (blk_drew BK236.out)
  have n6_ := Aside0.mk (blk_drew BK240.out)
  have n7_ := Aside0.mk (blk_drew BK244.out)
  have n8_ := Aside0.mk (IsS93.drew HI0.out)
  have n9_ := Aside0.mk (keep_drew HK.out)
  have n10_ := Aside0.mk (below_drew1 HB.out)
  clear BK225 BK226 BK227 BK228 BK232 BK236 BK240 BK244 HI0 HK HB
  have BK225 := n0_
  have BK226 := n1_
  have BK227 := n2_
  have BK228 := n3_
  have BK232 := n4_
  have BK236 := n5_
  have BK240 := n6_
  have BK244 := n7_
  have HI0 := n8_
  have HK := n9_
  have HB := n10_
  clear n0_ n1_ n2_ n3_ n4_ n5_ n6_ n7_ n8_ n9_ n10_
  refine start_ (n := 24) (S := fun w' => w'.cell? ⟨gb232, 0, none⟩ = some (.int .i64 t229) ∧ w'.cell? ⟨gb232, 1, none⟩ = some (.int .i64 t230) ∧ w'.cell? ⟨gb236, 0, none⟩ = some (.int .i64 t233) ∧ w'.cell? ⟨gb236, 1, none⟩ = some (.int .i64 t234) ∧ w'.cell? ⟨gb240, 0, none⟩ = some (.int .i64 t237) ∧ w'.cell? ⟨gb240, 1, none⟩ = some (.int .i64 t238)) (ds := []) #[false,false,false,false,false,false,false,false,false,false,false,false,false,false,false,false,false,false,false,false,false,false,false,false] (by kernel_rfl) rfl rfl ⟨(blk_cell BK232.out 0).trans rfl, (blk_cell BK232.out 1).trans rfl, (blk_cell BK236.out 0).trans rfl, (blk_cell BK236.out 1).trans rfl, (blk_cell BK240.out 0).trans rfl, (blk_cell BK240.out 1).trans rfl⟩ (fun hHeld => ?_); refine with_tabW spec_l92Lines.tab7 spec_l92Lines.bits7 (fun HT_ HW_ => ?_)
  generalize w50.drew = w51 at BK225 BK226 BK227 BK228 BK232 BK236 BK240 BK244 HI0 HK HB hHeld ⊢
  refine pure_ (i := 3) (N := some 25) (v := ?_) (a' := ?_) #[false,false,false,true,false,false,false,false,false,false,false,false,false,false,false,false,false,false,false,false,false,false,false,false] rfl rfl (any_of HT_.out (by kernel_rfl)) (fun _ _ _ h => h) (Or.inl ⟨by rfl, ?_⟩) ?_ ?_
  rotate_left
  ·intro w'
   go_simp
   with_reducible rfl
  rotate_left
  ·simp only [Act.put, List.setIfInBounds_toArray, List.set_cons_zero, List.set_cons_succ, i64_w, i32_w]
   rfl
  refine pure_ (i := 5) (N := some 27) (v := ?_) (a' := ?_) #[false,false,false,true,false,true,false,false,false,false,false,false,false,false,false,false,false,false,false,false,false,false,false,false] rfl rfl (any_of HT_.out (by kernel_rfl)) (fun _ _ _ h => h) (Or.inl ⟨by rfl, ?_⟩) ?_ ?_
  rotate_left
  ·intro w'
   go_simp
   with_reducible rfl
  rotate_left
  ·simp only [Act.put, List.setIfInBounds_toArray, List.set_cons_zero, List.set_cons_succ, i64_w, i32_w]
   rfl
  refine pure_ (i := 8) (N := some 30) (v := ?_) (a' := ?_) #[false,false,false,true,false,true,false,false,true,false,false,false,false,false,false,false,false,false,false,false,false,false,false,false] rfl rfl (any_of HT_.out (by kernel_rfl)) (fun _ _ _ h => h) (Or.inl ⟨by rfl, ?_⟩) ?_ ?_
  rotate_left
  ·intro w'
   go_simp
   with_reducible rfl
  rotate_left
  ·simp only [Act.put, List.setIfInBounds_toArray, List.set_cons_zero, List.set_cons_succ, i64_w, i32_w]
   rfl
  refine pure_ (i := 11) (N := some 33) (v := ?_) (a' := ?_) #[false,false,false,true,false,true,false,false,true,false,false,true,false,false,false,false,false,false,false,false,false,false,false,false] rfl rfl (any_of HT_.out (by kernel_rfl)) (fun _ _ _ h => h) (Or.inl ⟨by rfl, ?_⟩) ?_ ?_
  rotate_left
  ·intro w'
   go_simp
   with_reducible rfl
  rotate_left
  ·simp only [Act.put, List.setIfInBounds_toArray, List.set_cons_zero, List.set_cons_succ, i64_w, i32_w]
   rfl
  refine pure_ (i := 13) (N := some 35) (v := ?_) (a' := ?_) #[false,false,false,true,false,true,false,false,true,false,false,true,false,true,false,false,false,false,false,false,false,false,false,false] rfl rfl (any_of HT_.out (by kernel_rfl)) (fun _ _ _ h => h) (Or.inl ⟨by rfl, ?_⟩) ?_ ?_
  rotate_left
  ·intro w'
   go_simp
   with_reducible rfl
  rotate_left
  ·simp only [Act.put, List.setIfInBounds_toArray, List.set_cons_zero, List.set_cons_succ, i64_w, i32_w]
   rfl
  refine pure_ (i := 16) (N := some 38) (v := ?_) (a' := ?_) #[false,false,false,true,false,true,false,false,true,false,false,true,false,true,false,false,true,false,false,false,false,false,false,false] rfl rfl (any_of HT_.out (by kernel_rfl)) (fun _ _ _ h => h) (Or.inl ⟨by rfl, ?_⟩) ?_ ?_
  rotate_left
  ·intro w'
   go_simp
   with_reducible rfl
  rotate_left
  ·simp only [Act.put, List.setIfInBounds_toArray, List.set_cons_zero, List.set_cons_succ, i64_w, i32_w]
   rfl
  refine take_ (i := 0) (N := some 22) (v := ?_) (a' := ?_) #[true,false,false,true,false,true,false,false,true,false,false,true,false,true,false,false,true,false,false,false,false,false,false,false] rfl rfl (take_ofW HT_.out HW_.out (by kernel_rfl)) (fun _ _ _ h => h) (Or.inl ⟨by rfl, ?_⟩) hHeld ?_ ?_
  rotate_left
  ·rintro w' ⟨s0, s1, s2, s3, s4, s5⟩
   go_simp
   with_reducible rfl
  rotate_left
  ·simp only [Act.put, List.setIfInBounds_toArray, List.set_cons_zero, List.set_cons_succ, i64_w, i32_w]
   rfl
  refine take_ (i := 1) (N := some 23) (v := ?_) (a' := ?_) #[true,true,false,true,false,true,false,false,true,false,false,true,false,true,false,false,true,false,false,false,false,false,false,false] rfl rfl (take_ofW HT_.out HW_.out (by kernel_rfl)) (fun _ _ _ h => h) (Or.inl ⟨by rfl, ?_⟩) hHeld ?_ ?_
  rotate_left
  ·rintro w' ⟨s0, s1, s2, s3, s4, s5⟩
   go_simp
   with_reducible rfl
  rotate_left
  ·simp only [Act.put, List.setIfInBounds_toArray, List.set_cons_zero, List.set_cons_succ, i64_w, i32_w]
   rfl
  refine take_ (i := 2) (N := some 24) (v := ?_) (a' := ?_) #[true,true,true,true,false,true,false,false,true,false,false,true,false,true,false,false,true,false,false,false,false,false,false,false] rfl rfl (take_ofW HT_.out HW_.out (by kernel_rfl)) (fun _ _ _ h => h) (Or.inl ⟨by rfl, ?_⟩) hHeld ?_ ?_
  rotate_left
  ·rintro w' ⟨s0, s1, s2, s3, s4, s5⟩
   go_simp
   with_reducible rfl
  rotate_left
  ·simp only [Act.put, List.setIfInBounds_toArray, List.set_cons_zero, List.set_cons_succ, i64_w, i32_w]
   rfl
  refine take_ (i := 4) (N := some 26) (v := ?_) (a' := ?_) #[true,true,true,true,true,true,false,false,true,false,false,true,false,true,false,false,true,false,false,false,false,false,false,false] rfl rfl (take_ofW HT_.out HW_.out (by kernel_rfl)) (fun _ _ _ h => h) (Or.inl ⟨by rfl, ?_⟩) hHeld ?_ ?_
  rotate_left
  ·rintro w' ⟨s0, s1, s2, s3, s4, s5⟩
   go_simp
   with_reducible rfl
  rotate_left
  ·simp only [Act.put, List.setIfInBounds_toArray, List.set_cons_zero, List.set_cons_succ, i64_w, i32_w]
   rfl
  refine take_ (i := 6) (N := some 28) (v := ?_) (a' := ?_) #[true,true,true,true,true,true,true,false,true,false,false,true,false,true,false,false,true,false,false,false,false,false,false,false] rfl rfl (take_ofW HT_.out HW_.out (by kernel_rfl)) (fun _ _ _ h => h) (Or.inl ⟨by rfl, ?_⟩) hHeld ?_ ?_
  rotate_left
  ·rintro w' ⟨s0, s1, s2, s3, s4, s5⟩
   go_simp
   with_reducible rfl
  rotate_left
  ·simp only [Act.put, List.setIfInBounds_toArray, List.set_cons_zero, List.set_cons_succ, i64_w, i32_w]
   rfl
  refine pure_ (i := 7) (N := some 29) (v := ?_) (a' := ?_) #[true,true,true,true,true,true,true,true,true,false,false,true,false,true,false,false,true,false,false,false,false,false,false,false] rfl rfl (any_of HT_.out (by kernel_rfl)) (fun _ _ _ h => h) (Or.inl ⟨by rfl, ?_⟩) ?_ ?_
  rotate_left
  ·intro w'
   go_simp
   with_reducible rfl
  rotate_left
  ·simp only [Act.put, List.setIfInBounds_toArray, List.set_cons_zero, List.set_cons_succ, i64_w, i32_w]
   rfl
  refine take_ (i := 9) (N := some 31) (v := ?_) (a' := ?_) #[true,true,true,true,true,true,true,true,true,true,false,true,false,true,false,false,true,false,false,false,false,false,false,false] rfl rfl (take_ofW HT_.out HW_.out (by kernel_rfl)) (fun _ _ _ h => h) (Or.inl ⟨by rfl, ?_⟩) hHeld ?_ ?_
  rotate_left
  ·rintro w' ⟨s0, s1, s2, s3, s4, s5⟩
   go_simp
   with_reducible rfl
  rotate_left
  ·simp only [Act.put, List.setIfInBounds_toArray, List.set_cons_zero, List.set_cons_succ, i64_w, i32_w]
   rfl
  refine pure_ (i := 10) (N := some 32) (v := ?_) (a' := ?_) #[true,true,true,true,true,true,true,true,true,true,true,true,false,true,false,false,true,false,false,false,false,false,false,false] rfl rfl (any_of HT_.out (by kernel_rfl)) (fun _ _ _ h => h) (Or.inl ⟨by rfl, ?_⟩) ?_ ?_
  rotate_left
  ·intro w'
   go_simp
   with_reducible rfl
  rotate_left
  ·simp only [Act.put, List.setIfInBounds_toArray, List.set_cons_zero, List.set_cons_succ, i64_w, i32_w]
   rfl
  refine take_ (i := 12) (N := some 34) (v := ?_) (a' := ?_) #[true,true,true,true,true,true,true,true,true,true,true,true,true,true,false,false,true,false,false,false,false,false,false,false] rfl rfl (take_ofW HT_.out HW_.out (by kernel_rfl)) (fun _ _ _ h => h) (Or.inl ⟨by rfl, ?_⟩) hHeld ?_ ?_
  rotate_left
  ·rintro w' ⟨s0, s1, s2, s3, s4, s5⟩
   go_simp
   with_reducible rfl
  rotate_left
  ·simp only [Act.put, List.setIfInBounds_toArray, List.set_cons_zero, List.set_cons_succ, i64_w, i32_w]
   rfl
  refine take_ (i := 14) (N := some 36) (v := ?_) (a' := ?_) #[true,true,true,true,true,true,true,true,true,true,true,true,true,true,true,false,true,false,false,false,false,false,false,false] rfl rfl (take_ofW HT_.out HW_.out (by kernel_rfl)) (fun _ _ _ h => h) (Or.inl ⟨by rfl, ?_⟩) hHeld ?_ ?_
  rotate_left
  ·rintro w' ⟨s0, s1, s2, s3, s4, s5⟩
   go_simp
   with_reducible rfl
  rotate_left
  ·simp only [Act.put, List.setIfInBounds_toArray, List.set_cons_zero, List.set_cons_succ, i64_w, i32_w]
   rfl
  refine pure_ (i := 15) (N := some 37) (v := ?_) (a' := ?_) #[true,true,true,true,true,true,true,true,true,true,true,true,true,true,true,true,true,false,false,false,false,false,false,false] rfl rfl (any_of HT_.out (by kernel_rfl)) (fun _ _ _ h => h) (Or.inl ⟨by rfl, ?_⟩) ?_ ?_
  rotate_left
  ·intro w'
   go_simp
   with_reducible rfl
  rotate_left
  ·simp only [Act.put, List.setIfInBounds_toArray, List.set_cons_zero, List.set_cons_succ, i64_w, i32_w]
   rfl
  refine take_ (i := 17) (N := some 39) (v := ?_) (a' := ?_) #[true,true,true,true,true,true,true,true,true,true,true,true,true,true,true,true,true,true,false,false,false,false,false,false] rfl rfl (take_ofW HT_.out HW_.out (by kernel_rfl)) (fun _ _ _ h => h) (Or.inl ⟨by rfl, ?_⟩) hHeld ?_ ?_
  rotate_left
  ·rintro w' ⟨s0, s1, s2, s3, s4, s5⟩
   go_simp
   with_reducible rfl
  rotate_left
  ·simp only [Act.put, List.setIfInBounds_toArray, List.set_cons_zero, List.set_cons_succ, i64_w, i32_w]
   rfl
  refine pure_ (i := 18) (N := some 40) (v := ?_) (a' := ?_) #[true,true,true,true,true,true,true,true,true,true,true,true,true,true,true,true,true,true,true,false,false,false,false,false] rfl rfl (any_of HT_.out (by kernel_rfl)) (fun _ _ _ h => h) (Or.inl ⟨by rfl, ?_⟩) ?_ ?_
  rotate_left
  ·intro w'
   go_simp
   with_reducible rfl
  rotate_left
  ·simp only [Act.put, List.setIfInBounds_toArray, List.set_cons_zero, List.set_cons_succ, i64_w, i32_w]
   rfl
  refine pure_ (i := 19) (N := some 41) (v := ?_) (a' := ?_) #[true,true,true,true,true,true,true,true,true,true,true,true,true,true,true,true,true,true,true,true,false,false,false,false] rfl rfl (any_of HT_.out (by kernel_rfl)) (fun _ _ _ h => h) (Or.inl ⟨by rfl, ?_⟩) ?_ ?_
  rotate_left
  ·intro w'
   go_simp
   with_reducible rfl
  rotate_left
  ·simp only [Act.put, List.setIfInBounds_toArray, List.set_cons_zero, List.set_cons_succ, i64_w, i32_w]
   rfl
  refine one_ (i := 20) (N := none) #[true,true,true,true,true,true,true,true,true,true,true,true,true,true,true,true,true,true,true,true,true,false,false,false] rfl rfl (one_of HT_.out (by kernel_rfl)) (by decide) (fun K hK => ?_)
  have hs52 : w51.cell? ⟨gb225, 0, none⟩ = some (.int .i64 0) := (blk_cell BK225.out 0).trans rfl
  have hfs52 := blk_frozen BK225.out 0
  have hns52_1 := NB226_225.out
  have hns52_2 := NB227_225.out
  have hns52_3 := NB228_225.out
  have hns52_4 := NB232_225.out
  have hns52_5 := NB236_225.out
  have hns52_6 := NB240_225.out
  have hns52_7 := NB244_225.out
  have hms52_1 := NB225_226.out
  have hms52_2 := NB225_227.out
  have hms52_3 := NB225_228.out
  have hms52_4 := NB225_232.out
  have hms52_5 := NB225_236.out
  have hms52_6 := NB225_240.out
  have hms52_7 := NB225_244.out
  have hs53 : w51.cell? ⟨gb225, 1, none⟩ = some (.int .i64 0) := (blk_cell BK225.out 1).trans rfl
  have hfs53 := blk_frozen BK225.out 1
  have hns53_1 := NB226_225.out
  have hns53_2 := NB227_225.out
  have hns53_3 := NB228_225.out
  have hns53_4 := NB232_225.out
  have hns53_5 := NB236_225.out
  have hns53_6 := NB240_225.out
  have hns53_7 := NB244_225.out
  have hms53_1 := NB225_226.out
  have hms53_2 := NB225_227.out
  have hms53_3 := NB225_228.out
  have hms53_4 := NB225_232.out
  have hms53_5 := NB225_236.out
  have hms53_6 := NB225_240.out
  have hms53_7 := NB225_244.out
  refine skip_ (w1 := ?_) (by rfl) rfl ?_ ?_
  rotate_left
  ·go_simp
   rfl
  refine hK.out _ _ ⟨((cell_far (p := ⟨gb225, _, none⟩) NB232_225.out _).trans (((cell_far (p := ⟨gb225, _, none⟩) NB232_225.out _).trans (hHeld.1)))), ((cell_far (p := ⟨gb225, _, none⟩) NB232_225.out _).trans (((cell_far (p := ⟨gb225, _, none⟩) NB232_225.out _).trans (hHeld.2.1)))), ((cell_far (p := ⟨gb225, _, none⟩) NB236_225.out _).trans (((cell_far (p := ⟨gb225, _, none⟩) NB236_225.out _).trans (hHeld.2.2.1)))), ((cell_far (p := ⟨gb225, _, none⟩) NB236_225.out _).trans (((cell_far (p := ⟨gb225, _, none⟩) NB236_225.out _).trans (hHeld.2.2.2.1)))), ((cell_far (p := ⟨gb225, _, none⟩) NB240_225.out _).trans (((cell_far (p := ⟨gb225, _, none⟩) NB240_225.out _).trans (hHeld.2.2.2.2.1)))), ((cell_far (p := ⟨gb225, _, none⟩) NB240_225.out _).trans (((cell_far (p := ⟨gb225, _, none⟩) NB240_225.out _).trans (hHeld.2.2.2.2.2))))⟩ (fun hHeld => ?_)
  clear hK K
  refine one_ (i := 21) (N := none) #[true,true,true,true,true,true,true,true,true,true,true,true,true,true,true,true,true,true,true,true,true,true,false,false] rfl rfl (one_of HT_.out (by kernel_rfl)) (by decide) (fun K hK => ?_)
  have hs54 : w51.cell? ⟨gb226, 0, none⟩ = some (.int .i64 0) := (blk_cell BK226.out 0).trans rfl
  have hfs54 := blk_frozen BK226.out 0
  have hns54_0 := NB225_226.out
  have hns54_2 := NB227_226.out
  have hns54_3 := NB228_226.out
  have hns54_4 := NB232_226.out
  have hns54_5 := NB236_226.out
  have hns54_6 := NB240_226.out
  have hns54_7 := NB244_226.out
  have hms54_0 := NB226_225.out
  have hms54_2 := NB226_227.out
  have hms54_3 := NB226_228.out
  have hms54_4 := NB226_232.out
  have hms54_5 := NB226_236.out
  have hms54_6 := NB226_240.out
  have hms54_7 := NB226_244.out
  have hs55 : w51.cell? ⟨gb226, 1, none⟩ = some (.int .i64 0) := (blk_cell BK226.out 1).trans rfl
  have hfs55 := blk_frozen BK226.out 1
  have hns55_0 := NB225_226.out
  have hns55_2 := NB227_226.out
  have hns55_3 := NB228_226.out
  have hns55_4 := NB232_226.out
  have hns55_5 := NB236_226.out
  have hns55_6 := NB240_226.out
  have hns55_7 := NB244_226.out
  have hms55_0 := NB226_225.out
  have hms55_2 := NB226_227.out
  have hms55_3 := NB226_228.out
  have hms55_4 := NB226_232.out
  have hms55_5 := NB226_236.out
  have hms55_6 := NB226_240.out
  have hms55_7 := NB226_244.out
  refine skip_ (w1 := ?_) (by rfl) rfl ?_ ?_
  rotate_left
  ·go_simp
   rfl
  refine hK.out _ _ ⟨((cell_far (p := ⟨gb226, _, none⟩) NB232_226.out _).trans (((cell_far (p := ⟨gb226, _, none⟩) NB232_226.out _).trans (hHeld.1)))), ((cell_far (p := ⟨gb226, _, none⟩) NB232_226.out _).trans (((cell_far (p := ⟨gb226, _, none⟩) NB232_226.out _).trans (hHeld.2.1)))), ((cell_far (p := ⟨gb226, _, none⟩) NB236_226.out _).trans (((cell_far (p := ⟨gb226, _, none⟩) NB236_226.out _).trans (hHeld.2.2.1)))), ((cell_far (p := ⟨gb226, _, none⟩) NB236_226.out _).trans (((cell_far (p := ⟨gb226, _, none⟩) NB236_226.out _).trans (hHeld.2.2.2.1)))), ((cell_far (p := ⟨gb226, _, none⟩) NB240_226.out _).trans (((cell_far (p := ⟨gb226, _, none⟩) NB240_226.out _).trans (hHeld.2.2.2.2.1)))), ((cell_far (p := ⟨gb226, _, none⟩) NB240_226.out _).trans (((cell_far (p := ⟨gb226, _, none⟩) NB240_226.out _).trans (hHeld.2.2.2.2.2))))⟩ (fun hHeld => ?_)
  clear hK K
  refine one_ (i := 22) (N := none) #[true,true,true,true,true,true,true,true,true,true,true,true,true,true,true,true,true,true,true,true,true,true,true,false] rfl rfl (one_of HT_.out (by kernel_rfl)) (by decide) (fun K hK => ?_)
  have hs56 : w51.cell? ⟨gb227, 0, none⟩ = some (.int .i64 0) := (blk_cell BK227.out 0).trans rfl
  have hfs56 := blk_frozen BK227.out 0
  have hns56_0 := NB225_227.out
  have hns56_1 := NB226_227.out
  have hns56_3 := NB228_227.out
  have hns56_4 := NB232_227.out
  have hns56_5 := NB236_227.out
  have hns56_6 := NB240_227.out
  have hns56_7 := NB244_227.out
  have hms56_0 := NB227_225.out
  have hms56_1 := NB227_226.out
  have hms56_3 := NB227_228.out
  have hms56_4 := NB227_232.out
  have hms56_5 := NB227_236.out
  have hms56_6 := NB227_240.out
  have hms56_7 := NB227_244.out
  have hs57 : w51.cell? ⟨gb227, 1, none⟩ = some (.int .i64 0) := (blk_cell BK227.out 1).trans rfl
  have hfs57 := blk_frozen BK227.out 1
  have hns57_0 := NB225_227.out
  have hns57_1 := NB226_227.out
  have hns57_3 := NB228_227.out
  have hns57_4 := NB232_227.out
  have hns57_5 := NB236_227.out
  have hns57_6 := NB240_227.out
  have hns57_7 := NB244_227.out
  have hms57_0 := NB227_225.out
  have hms57_1 := NB227_226.out
  have hms57_3 := NB227_228.out
  have hms57_4 := NB227_232.out
  have hms57_5 := NB227_236.out
  have hms57_6 := NB227_240.out
  have hms57_7 := NB227_244.out
  refine skip_ (w1 := ?_) (by rfl) rfl ?_ ?_
  rotate_left
  ·go_simp
   rfl
  refine hK.out _ _ ⟨((cell_far (p := ⟨gb227, _, none⟩) NB232_227.out _).trans (((cell_far (p := ⟨gb227, _, none⟩) NB232_227.out _).trans (hHeld.1)))), ((cell_far (p := ⟨gb227, _, none⟩) NB232_227.out _).trans (((cell_far (p := ⟨gb227, _, none⟩) NB232_227.out _).trans (hHeld.2.1)))), ((cell_far (p := ⟨gb227, _, none⟩) NB236_227.out _).trans (((cell_far (p := ⟨gb227, _, none⟩) NB236_227.out _).trans (hHeld.2.2.1)))), ((cell_far (p := ⟨gb227, _, none⟩) NB236_227.out _).trans (((cell_far (p := ⟨gb227, _, none⟩) NB236_227.out _).trans (hHeld.2.2.2.1)))), ((cell_far (p := ⟨gb227, _, none⟩) NB240_227.out _).trans (((cell_far (p := ⟨gb227, _, none⟩) NB240_227.out _).trans (hHeld.2.2.2.2.1)))), ((cell_far (p := ⟨gb227, _, none⟩) NB240_227.out _).trans (((cell_far (p := ⟨gb227, _, none⟩) NB240_227.out _).trans (hHeld.2.2.2.2.2))))⟩ (fun hHeld => ?_)
  clear hK K
  refine one_ (i := 23) (N := none) #[true,true,true,true,true,true,true,true,true,true,true,true,true,true,true,true,true,true,true,true,true,true,true,true] rfl rfl (one_of HT_.out (by kernel_rfl)) (by decide) (fun K hK => ?_)
  have hs58 : w51.cell? ⟨gb228, 0, none⟩ = some (.int .i64 0) := (blk_cell BK228.out 0).trans rfl
  have hfs58 := blk_frozen BK228.out 0
  have hns58_0 := NB225_228.out
  have hns58_1 := NB226_228.out
  have hns58_2 := NB227_228.out
  have hns58_4 := NB232_228.out
  have hns58_5 := NB236_228.out
  have hns58_6 := NB240_228.out
  have hns58_7 := NB244_228.out
  have hms58_0 := NB228_225.out
  have hms58_1 := NB228_226.out
  have hms58_2 := NB228_227.out
  have hms58_4 := NB228_232.out
  have hms58_5 := NB228_236.out
  have hms58_6 := NB228_240.out
  have hms58_7 := NB228_244.out
  have hs59 : w51.cell? ⟨gb228, 1, none⟩ = some (.int .i64 0) := (blk_cell BK228.out 1).trans rfl
  have hfs59 := blk_frozen BK228.out 1
  have hns59_0 := NB225_228.out
  have hns59_1 := NB226_228.out
  have hns59_2 := NB227_228.out
  have hns59_4 := NB232_228.out
  have hns59_5 := NB236_228.out
  have hns59_6 := NB240_228.out
  have hns59_7 := NB244_228.out
  have hms59_0 := NB228_225.out
  have hms59_1 := NB228_226.out
  have hms59_2 := NB228_227.out
  have hms59_4 := NB228_232.out
  have hms59_5 := NB228_236.out
  have hms59_6 := NB228_240.out
  have hms59_7 := NB228_244.out
  refine skip_ (w1 := ?_) (by rfl) rfl ?_ ?_
  rotate_left
  ·go_simp
   rfl
  refine hK.out _ _ ⟨((cell_far (p := ⟨gb228, _, none⟩) NB232_228.out _).trans (((cell_far (p := ⟨gb228, _, none⟩) NB232_228.out _).trans (hHeld.1)))), ((cell_far (p := ⟨gb228, _, none⟩) NB232_228.out _).trans (((cell_far (p := ⟨gb228, _, none⟩) NB232_228.out _).trans (hHeld.2.1)))), ((cell_far (p := ⟨gb228, _, none⟩) NB236_228.out _).trans (((cell_far (p := ⟨gb228, _, none⟩) NB236_228.out _).trans (hHeld.2.2.1)))), ((cell_far (p := ⟨gb228, _, none⟩) NB236_228.out _).trans (((cell_far (p := ⟨gb228, _, none⟩) NB236_228.out _).trans (hHeld.2.2.2.1)))), ((cell_far (p := ⟨gb228, _, none⟩) NB240_228.out _).trans (((cell_far (p := ⟨gb228, _, none⟩) NB240_228.out _).trans (hHeld.2.2.2.2.1)))), ((cell_far (p := ⟨gb228, _, none⟩) NB240_228.out _).trans (((cell_far (p := ⟨gb228, _, none⟩) NB240_228.out _).trans (hHeld.2.2.2.2.2))))⟩ (fun hHeld => ?_)
  clear hK K
  refine done_ (done_of HT_.out (by kernel_rfl)) ?_
  try go_wp2
  refine bodyPost_ret (results_list (rs := [.cell 2 33, .cell 3 33, .cell 4 33, .cell 5 33]) rfl (by simp) (.cell gb225 33 #[.int .i64 t229, .int .i64 t230] (0, 0) _ rfl (by (with_reducible repeat (first | refine blk_drewN ?_ _ | refine blk_drew ?_ | refine blk_alloc ?_ _)); refine blk_far ?_ NB225_228.out _; (with_reducible repeat (first | refine blk_drewN ?_ _ | refine blk_drew ?_ | refine blk_alloc ?_ _)); refine blk_far ?_ NB225_228.out _; (with_reducible repeat (first | refine blk_drewN ?_ _ | refine blk_drew ?_ | refine blk_alloc ?_ _)); refine blk_far ?_ NB225_227.out _; (with_reducible repeat (first | refine blk_drewN ?_ _ | refine blk_drew ?_ | refine blk_alloc ?_ _)); refine blk_far ?_ NB225_227.out _; (with_reducible repeat (first | refine blk_drewN ?_ _ | refine blk_drew ?_ | refine blk_alloc ?_ _)); refine blk_far ?_ NB225_226.out _; (with_reducible repeat (first | refine blk_drewN ?_ _ | refine blk_drew ?_ | refine blk_alloc ?_ _)); refine blk_far ?_ NB225_226.out _; (with_reducible repeat (first | refine blk_drewN ?_ _ | refine blk_drew ?_ | refine blk_alloc ?_ _)); refine blk_put (cs := #[.int .i64 t229, .int .i64 0]) ?_ 1 _ rfl; (with_reducible repeat (first | refine blk_drewN ?_ _ | refine blk_drew ?_ | refine blk_alloc ?_ _)); refine blk_put (cs := #[.int .i64 0, .int .i64 0]) ?_ 0 _ rfl; (with_reducible repeat (first | refine blk_drewN ?_ _ | refine blk_drew ?_ | refine blk_alloc ?_ _)); exact BK225.out) Try.underlying33 rfl (by kernel_rfl) (.cell gb226 33 #[.int .i64 t233, .int .i64 t234] (0, 0) _ rfl (by (with_reducible repeat (first | refine blk_drewN ?_ _ | refine blk_drew ?_ | refine blk_alloc ?_ _)); refine blk_far ?_ NB226_228.out _; (with_reducible repeat (first | refine blk_drewN ?_ _ | refine blk_drew ?_ | refine blk_alloc ?_ _)); refine blk_far ?_ NB226_228.out _; (with_reducible repeat (first | refine blk_drewN ?_ _ | refine blk_drew ?_ | refine blk_alloc ?_ _)); refine blk_far ?_ NB226_227.out _; (with_reducible repeat (first | refine blk_drewN ?_ _ | refine blk_drew ?_ | refine blk_alloc ?_ _)); refine blk_far ?_ NB226_227.out _; (with_reducible repeat (first | refine blk_drewN ?_ _ | refine blk_drew ?_ | refine blk_alloc ?_ _)); refine blk_put (cs := #[.int .i64 t233, .int .i64 0]) ?_ 1 _ rfl; (with_reducible repeat (first | refine blk_drewN ?_ _ | refine blk_drew ?_ | refine blk_alloc ?_ _)); refine blk_put (cs := #[.int .i64 0, .int .i64 0]) ?_ 0 _ rfl; (with_reducible repeat (first | refine blk_drewN ?_ _ | refine blk_drew ?_ | refine blk_alloc ?_ _)); refine blk_far ?_ NB226_225.out _; (with_reducible repeat (first | refine blk_drewN ?_ _ | refine blk_drew ?_ | refine blk_alloc ?_ _)); refine blk_far ?_ NB226_225.out _; (with_reducible repeat (first | refine blk_drewN ?_ _ | refine blk_drew ?_ | refine blk_alloc ?_ _)); exact BK226.out) Try.underlying33 rfl (by kernel_rfl) (.cell gb227 33 #[.int .i64 t237, .int .i64 t238] (0, 0) _ rfl (by (with_reducible repeat (first | refine blk_drewN ?_ _ | refine blk_drew ?_ | refine blk_alloc ?_ _)); refine blk_far ?_ NB227_228.out _; (with_reducible repeat (first | refine blk_drewN ?_ _ | refine blk_drew ?_ | refine blk_alloc ?_ _)); refine blk_far ?_ NB227_228.out _; (with_reducible repeat (first | refine blk_drewN ?_ _ | refine blk_drew ?_ | refine blk_alloc ?_ _)); refine blk_put (cs := #[.int .i64 t237, .int .i64 0]) ?_ 1 _ rfl; (with_reducible repeat (first | refine blk_drewN ?_ _ | refine blk_drew ?_ | refine blk_alloc ?_ _)); refine blk_put (cs := #[.int .i64 0, .int .i64 0]) ?_ 0 _ rfl; (with_reducible repeat (first | refine blk_drewN ?_ _ | refine blk_drew ?_ | refine blk_alloc ?_ _)); refine blk_far ?_ NB227_226.out _; (with_reducible repeat (first | refine blk_drewN ?_ _ | refine blk_drew ?_ | refine blk_alloc ?_ _)); refine blk_far ?_ NB227_226.out _; (with_reducible repeat (first | refine blk_drewN ?_ _ | refine blk_drew ?_ | refine blk_alloc ?_ _)); refine blk_far ?_ NB227_225.out _; (with_reducible repeat (first | refine blk_drewN ?_ _ | refine blk_drew ?_ | refine blk_alloc ?_ _)); refine blk_far ?_ NB227_225.out _; (with_reducible repeat (first | refine blk_drewN ?_ _ | refine blk_drew ?_ | refine blk_alloc ?_ _)); exact BK227.out) Try.underlying33 rfl (by kernel_rfl) (.cell gb228 33 #[.int .i64 (wrap64 ((wrap64 (t237 + t233)) - t229)), .int .i64 (wrap64 ((wrap64 (t238 + t234)) - t230))] (0, 0) _ rfl (by (with_reducible repeat (first | refine blk_drewN ?_ _ | refine blk_drew ?_ | refine blk_alloc ?_ _)); refine blk_put (cs := #[.int .i64 (wrap64 ((wrap64 (t237 + t233)) - t229)), .int .i64 0]) ?_ 1 _ rfl; (with_reducible repeat (first | refine blk_drewN ?_ _ | refine blk_drew ?_ | refine blk_alloc ?_ _)); refine blk_put (cs := #[.int .i64 0, .int .i64 0]) ?_ 0 _ rfl; (with_reducible repeat (first | refine blk_drewN ?_ _ | refine blk_drew ?_ | refine blk_alloc ?_ _)); refine blk_far ?_ NB228_227.out _; (with_reducible repeat (first | refine blk_drewN ?_ _ | refine blk_drew ?_ | refine blk_alloc ?_ _)); refine blk_far ?_ NB228_227.out _; (with_reducible repeat (first | refine blk_drewN ?_ _ | refine blk_drew ?_ | refine blk_alloc ?_ _)); refine blk_far ?_ NB228_226.out _; (with_reducible repeat (first | refine blk_drewN ?_ _ | refine blk_drew ?_ | refine blk_alloc ?_ _)); refine blk_far ?_ NB228_226.out _; (with_reducible repeat (first | refine blk_drewN ?_ _ | refine blk_drew ?_ | refine blk_alloc ?_ _)); refine blk_far ?_ NB228_225.out _; (with_reducible repeat (first | refine blk_drewN ?_ _ | refine blk_drew ?_ | refine blk_alloc ?_ _)); refine blk_far ?_ NB228_225.out _; (with_reducible repeat (first | refine blk_drewN ?_ _ | refine blk_drew ?_ | refine blk_alloc ?_ _)); exact BK228.out) Try.underlying33 rfl (by kernel_rfl) .nil))))) rfl ?_
  exact ⟨er, by repeat (first | (with_reducible first | exact HI0.out | apply IsS93.alloc | apply IsS93.drewN | apply IsS93.drew | apply IsS93.set_1 | refine IsS93.far ?_ NB0_225.out _ | refine IsS93.far ?_ NB0_226.out _ | refine IsS93.far ?_ NB0_227.out _ | refine IsS93.far ?_ NB0_228.out _ | refine IsS93.far ?_ NB0_232.out _ | refine IsS93.far ?_ NB0_236.out _ | refine IsS93.far ?_ NB0_240.out _ | refine IsS93.far ?_ NB0_244.out _) | exact HI0.out), by repeat (first | (with_reducible first | exact HB.out | apply below_alloc | apply pw_below_drewN | apply below_drew1 | refine below_set ?_ (IsS93.ge HI0.out) | refine below_set ?_ GE225.out | refine below_set ?_ GE226.out | refine below_set ?_ GE227.out | refine below_set ?_ GE228.out | refine below_set ?_ GE232.out | refine below_set ?_ GE236.out | refine below_set ?_ GE240.out | refine below_set ?_ GE244.out) | exact HB.out), by repeat (first | (with_reducible first | exact HK.out | apply KeepBut.set_ | apply keep_drewN | apply keep_drew | apply keep_alloc | refine keep_far ?_ GW225.out _ | refine keep_far ?_ GW226.out _ | refine keep_far ?_ GW227.out _ | refine keep_far ?_ GW228.out _ | refine keep_far ?_ GW232.out _ | refine keep_far ?_ GW236.out _ | refine keep_far ?_ GW240.out _ | refine keep_far ?_ GW244.out _) | exact HK.out)⟩
 ·rw [if_neg c7] at H
  have c7b0 : (t245 == 0) = false := beq_eq_false_iff_ne.mpr c7
  have c7b1 : (t245 != 0) = true := bne_iff_ne.mpr c7
  by_cases c60 : t245 = 1
  ·rw [if_pos c60] at H
   have c60b0 : (t245 == 1) = true := beq_iff_eq.mpr c60
   have c60b1 : (t245 != 1) = false := bne_eq_false_iff_eq.mpr c60
   clear c60
   simp only [Option.some.injEq, Prod.mk.injEq] at H
   obtain ⟨rfl, rfl, rfl, rfl, rfl, rfl, rfl, rfl, rfl⟩ := H
   try go_wp2_with fail
   have n0_ := Aside0.mk (blk_drew BK225.out)
   have n1_ := Aside0.mk (blk_drew BK226.out)
   have n2_ := Aside0.mk (blk_drew BK227.out)
   have n3_ := Aside0.mk (blk_drew BK228.out)
   have n4_ := Aside0.mk (blk_drew BK232.out)
   have n5_ := Aside0.mk (blk_drew BK236.out)
   have n6_ := Aside0.mk (blk_drew BK240.out)
   have n7_ := Aside0.mk (blk_drew BK244.out)
   have n8_ := Aside0.mk (IsS93.drew HI0.out)
   have n9_ := Aside0.mk (keep_drew HK.out)
   have n10_ := Aside0.mk (below_drew1 HB.out)
   clear BK225 BK226 BK227 BK228 BK232 BK236 BK240 BK244 HI0 HK HB
   have BK225 := n0_
   have BK226 := n1_
   have BK227 := n2_
   have BK228 := n3_
   have BK232 := n4_
   have BK236 := n5_
   have BK240 := n6_
   have BK244 := n7_
   have HI0 := n8_
   have HK := n9_
   have HB := n10_
   clear n0_ n1_ n2_ n3_ n4_ n5_ n6_ n7_ n8_ n9_ n10_
   refine start_ (n := 34) (S := fun w' => w'.cell? ⟨gb232, 0, none⟩ = some (.int .i64 t229) ∧ w'.cell? ⟨gb232, 1, none⟩ = some (.int .i64 t230) ∧ w'.cell? ⟨gb236, 0, none⟩ = some (.int .i64 t233) ∧ w'.cell? ⟨gb236, 1, none⟩ = some (.int .i64 t234)) (ds := []) #[false,false,false,false,false,false,false,false,false,false,false,false,false,false,false,false,false,false,false,false,false,false,false,false,false,false,false,false,false,false,false,false,false,false] (by kernel_rfl) rfl rfl ⟨(blk_cell BK232.out 0).trans rfl, (blk_cell BK232.out 1).trans rfl, (blk_cell BK236.out 0).trans rfl, (blk_cell BK236.out 1).trans rfl⟩ (fun hHeld => ?_); refine with_tabW spec_l92Lines.tab9 spec_l92Lines.bits9 (fun HT_ HW_ => ?_)
   generalize w50.drew = w104 at BK225 BK226 BK227 BK228 BK232 BK236 BK240 BK244 HI0 HK HB hHeld ⊢
   refine pure_ (i := 2) (N := some 46) (v := ?_) (a' := ?_) #[false,false,true,false,false,false,false,false,false,false,false,false,false,false,false,false,false,false,false,false,false,false,false,false,false,false,false,false,false,false,false,false,false,false] rfl rfl (any_of HT_.out (by kernel_rfl)) (fun _ _ _ h => h) (Or.inl ⟨by rfl, ?_⟩) ?_ ?_
   rotate_left
   ·intro w'
    go_simp
    with_reducible rfl
   rotate_left
   ·simp only [Act.put, List.setIfInBounds_toArray, List.set_cons_zero, List.set_cons_succ, i64_w, i32_w]
    rfl
   refine pure_ (i := 5) (N := some 49) (v := ?_) (a' := ?_) #[false,false,true,false,false,true,false,false,false,false,false,false,false,false,false,false,false,false,false,false,false,false,false,false,false,false,false,false,false,false,false,false,false,false] rfl rfl (any_of HT_.out (by kernel_rfl)) (fun _ _ _ h => h) (Or.inl ⟨by rfl, ?_⟩) ?_ ?_
   rotate_left
   ·intro w'
    go_simp
    with_reducible rfl
   rotate_left
   ·simp only [Act.put, List.setIfInBounds_toArray, List.set_cons_zero, List.set_cons_succ, i64_w, i32_w]
    rfl
   refine pure_ (i := 8) (N := some 52) (v := ?_) (a' := ?_) #[false,false,true,false,false,true,false,false,true,false,false,false,false,false,false,false,false,false,false,false,false,false,false,false,false,false,false,false,false,false,false,false,false,false] rfl rfl (any_of HT_.out (by kernel_rfl)) (fun _ _ _ h => h) (Or.inl ⟨by rfl, ?_⟩) ?_ ?_
   rotate_left
   ·intro w'
    go_simp
    with_reducible rfl
   rotate_left
   ·simp only [Act.put, List.setIfInBounds_toArray, List.set_cons_zero, List.set_cons_succ, i64_w, i32_w]
    rfl
   refine pure_ (i := 11) (N := some 55) (v := ?_) (a' := ?_) #[false,false,true,false,false,true,false,false,true,false,false,true,false,false,false,false,false,false,false,false,false,false,false,false,false,false,false,false,false,false,false,false,false,false] rfl rfl (any_of HT_.out (by kernel_rfl)) (fun _ _ _ h => h) (Or.inl ⟨by rfl, ?_⟩) ?_ ?_
   rotate_left
   ·intro w'
    go_simp
    with_reducible rfl
   rotate_left
   ·simp only [Act.put, List.setIfInBounds_toArray, List.set_cons_zero, List.set_cons_succ, i64_w, i32_w]
    rfl
   refine pure_ (i := 15) (N := some 59) (v := ?_) (a' := ?_) #[false,false,true,false,false,true,false,false,true,false,false,true,false,false,false,true,false,false,false,false,false,false,false,false,false,false,false,false,false,false,false,false,false,false] rfl rfl (any_of HT_.out (by kernel_rfl)) (fun _ _ _ h => h) (Or.inl ⟨by rfl, ?_⟩) ?_ ?_
   rotate_left
   ·intro w'
    go_simp
    with_reducible rfl
   rotate_left
   ·simp only [Act.put, List.setIfInBounds_toArray, List.set_cons_zero, List.set_cons_succ, i64_w, i32_w]
    rfl
   refine pure_ (i := 18) (N := some 62) (v := ?_) (a' := ?_) #[false,false,true,false,false,true,false,false,true,false,false,true,false,false,false,true,false,false,true,false,false,false,false,false,false,false,false,false,false,false,false,false,false,false] rfl rfl (any_of HT_.out (by kernel_rfl)) (fun _ _ _ h => h) (Or.inl ⟨by rfl, ?_⟩) ?_ ?_
   rotate_left
   ·intro w'
    go_simp
    with_reducible rfl
   rotate_left
   ·simp only [Act.put, List.setIfInBounds_toArray, List.set_cons_zero, List.set_cons_succ, i64_w, i32_w]
    rfl
   refine pure_ (i := 22) (N := some 66) (v := ?_) (a' := ?_) #[false,false,true,false,false,true,false,false,true,false,false,true,false,false,false,true,false,false,true,false,false,false,true,false,false,false,false,false,false,false,false,false,false,false] rfl rfl (any_of HT_.out (by kernel_rfl)) (fun _ _ _ h => h) (Or.inl ⟨by rfl, ?_⟩) ?_ ?_
   rotate_left
   ·intro w'
    go_simp
    with_reducible rfl
   rotate_left
   ·simp only [Act.put, List.setIfInBounds_toArray, List.set_cons_zero, List.set_cons_succ, i64_w, i32_w]
    rfl
   refine pure_ (i := 25) (N := some 69) (v := ?_) (a' := ?_) #[false,false,true,false,false,true,false,false,true,false,false,true,false,false,false,true,false,false,true,false,false,false,true,false,false,true,false,false,false,false,false,false,false,false] rfl rfl (any_of HT_.out (by kernel_rfl)) (fun _ _ _ h => h) (Or.inl ⟨by rfl, ?_⟩) ?_ ?_
   rotate_left
   ·intro w'
    go_simp
    with_reducible rfl
   rotate_left
   ·simp only [Act.put, List.setIfInBounds_toArray, List.set_cons_zero, List.set_cons_succ, i64_w, i32_w]
    rfl
   refine take_ (i := 0) (N := some 44) (v := ?_) (a' := ?_) #[true,false,true,false,false,true,false,false,true,false,false,true,false,false,false,true,false,false,true,false,false,false,true,false,false,true,false,false,false,false,false,false,false,false] rfl rfl (take_ofW HT_.out HW_.out (by kernel_rfl)) (fun _ _ _ h => h) (Or.inl ⟨by rfl, ?_⟩) hHeld ?_ ?_
   rotate_left
   ·rintro w' ⟨s0, s1, s2, s3⟩
    go_simp
    with_reducible rfl
   rotate_left
   ·simp only [Act.put, List.setIfInBounds_toArray, List.set_cons_zero, List.set_cons_succ, i64_w, i32_w]
    rfl
   refine take_ (i := 1) (N := some 45) (v := ?_) (a' := ?_) #[true,true,true,false,false,true,false,false,true,false,false,true,false,false,false,true,false,false,true,false,false,false,true,false,false,true,false,false,false,false,false,false,false,false] rfl rfl (take_ofW HT_.out HW_.out (by kernel_rfl)) (fun _ _ _ h => h) (Or.inl ⟨by rfl, ?_⟩) hHeld ?_ ?_
   rotate_left
   ·rintro w' ⟨s0, s1, s2, s3⟩
    go_simp
    with_reducible rfl
   rotate_left
   ·simp only [Act.put, List.setIfInBounds_toArray, List.set_cons_zero, List.set_cons_succ, i64_w, i32_w]
    rfl
   refine take_ (i := 3) (N := some 47) (v := ?_) (a' := ?_) #[true,true,true,true,false,true,false,false,true,false,false,true,false,false,false,true,false,false,true,false,false,false,true,false,false,true,false,false,false,false,false,false,false,false] rfl rfl (take_ofW HT_.out HW_.out (by kernel_rfl)) (fun _ _ _ h => h) (Or.inl ⟨by rfl, ?_⟩) hHeld ?_ ?_
   rotate_left
   ·rintro w' ⟨s0, s1, s2, s3⟩
    go_simp
    with_reducible rfl
   rotate_left
   ·simp only [Act.put, List.setIfInBounds_toArray, List.set_cons_zero, List.set_cons_succ, i64_w, i32_w]
    rfl
   refine pure_ (i := 4) (N := some 48) (v := ?_) (a' := ?_) #[true,true,true,true,true,true,false,false,true,false,false,true,false,false,false,true,false,false,true,false,false,false,true,false,false,true,false,false,false,false,false,false,false,false] rfl rfl (any_of HT_.out (by kernel_rfl)) (fun _ _ _ h => h) (Or.inl ⟨by rfl, ?_⟩) ?_ ?_
   rotate_left
   ·intro w'
    go_simp
    with_reducible rfl
   rotate_left
   ·simp only [Act.put, List.setIfInBounds_toArray, List.set_cons_zero, List.set_cons_succ, i64_w, i32_w]
    rfl
   refine take_ (i := 6) (N := some 50) (v := ?_) (a' := ?_) #[true,true,true,true,true,true,true,false,true,false,false,true,false,false,false,true,false,false,true,false,false,false,true,false,false,true,false,false,false,false,false,false,false,false] rfl rfl (take_ofW HT_.out HW_.out (by kernel_rfl)) (fun _ _ _ h => h) (Or.inl ⟨by rfl, ?_⟩) hHeld ?_ ?_
   rotate_left
   ·rintro w' ⟨s0, s1, s2, s3⟩
    go_simp
    with_reducible rfl
   rotate_left
   ·simp only [Act.put, List.setIfInBounds_toArray, List.set_cons_zero, List.set_cons_succ, i64_w, i32_w]
    rfl
   refine pure_ (i := 7) (N := some 51) (v := ?_) (a' := ?_) #[true,true,true,true,true,true,true,true,true,false,false,true,false,false,false,true,false,false,true,false,false,false,true,false,false,true,false,false,false,false,false,false,false,false] rfl rfl (any_of HT_.out (by kernel_rfl)) (fun _ _ _ h => h) (Or.inl ⟨by rfl, ?_⟩) ?_ ?_
   rotate_left
   ·intro w'
    go_simp
    with_reducible rfl
   rotate_left
   ·simp only [Act.put, List.setIfInBounds_toArray, List.set_cons_zero, List.set_cons_succ, i64_w, i32_w]
    rfl
   refine take_ (i := 9) (N := some 53) (v := ?_) (a' := ?_) #[true,true,true,true,true,true,true,true,true,true,false,true,false,false,false,true,false,false,true,false,false,false,true,false,false,true,false,false,false,false,false,false,false,false] rfl rfl (take_ofW HT_.out HW_.out (by kernel_rfl)) (fun _ _ _ h => h) (Or.inl ⟨by rfl, ?_⟩) hHeld ?_ ?_
   rotate_left
   ·rintro w' ⟨s0, s1, s2, s3⟩
    go_simp
    with_reducible rfl
   rotate_left
   ·simp only [Act.put, List.setIfInBounds_toArray, List.set_cons_zero, List.set_cons_succ, i64_w, i32_w]
    rfl
   refine pure_ (i := 10) (N := some 54) (v := ?_) (a' := ?_) #[true,true,true,true,true,true,true,true,true,true,true,true,false,false,false,true,false,false,true,false,false,false,true,false,false,true,false,false,false,false,false,false,false,false] rfl rfl (any_of HT_.out (by kernel_rfl)) (fun _ _ _ h => h) (Or.inl ⟨by rfl, ?_⟩) ?_ ?_
   rotate_left
   ·intro w'
    go_simp
    with_reducible rfl
   rotate_left
   ·simp only [Act.put, List.setIfInBounds_toArray, List.set_cons_zero, List.set_cons_succ, i64_w, i32_w]
    rfl
   refine take_ (i := 12) (N := some 56) (v := ?_) (a' := ?_) #[true,true,true,true,true,true,true,true,true,true,true,true,true,false,false,true,false,false,true,false,false,false,true,false,false,true,false,false,false,false,false,false,false,false] rfl rfl (take_ofW HT_.out HW_.out (by kernel_rfl)) (fun _ _ _ h => h) (Or.inl ⟨by rfl, ?_⟩) hHeld ?_ ?_
   rotate_left
   ·rintro w' ⟨s0, s1, s2, s3⟩
    go_simp
    with_reducible rfl
   rotate_left
   ·simp only [Act.put, List.setIfInBounds_toArray, List.set_cons_zero, List.set_cons_succ, i64_w, i32_w]
    rfl
   refine pure_ (i := 13) (N := some 57) (v := ?_) (a' := ?_) #[true,true,true,true,true,true,true,true,true,true,true,true,true,true,false,true,false,false,true,false,false,false,true,false,false,true,false,false,false,false,false,false,false,false] rfl rfl (any_of HT_.out (by kernel_rfl)) (fun _ _ _ h => h) (Or.inl ⟨by rfl, ?_⟩) ?_ ?_
   rotate_left
   ·intro w'
    go_simp
    with_reducible rfl
   rotate_left
   ·simp only [Act.put, List.setIfInBounds_toArray, List.set_cons_zero, List.set_cons_succ, i64_w, i32_w]
    rfl
   refine pure_ (i := 14) (N := some 58) (v := ?_) (a' := ?_) #[true,true,true,true,true,true,true,true,true,true,true,true,true,true,true,true,false,false,true,false,false,false,true,false,false,true,false,false,false,false,false,false,false,false] rfl rfl (any_of HT_.out (by kernel_rfl)) (fun _ _ _ h => h) (Or.inl ⟨by rfl, ?_⟩) ?_ ?_
   rotate_left
   ·intro w'
    go_simp
    with_reducible rfl
   rotate_left
   ·simp only [Act.put, List.setIfInBounds_toArray, List.set_cons_zero, List.set_cons_succ, i64_w, i32_w]
    rfl
   refine take_ (i := 16) (N := some 60) (v := ?_) (a' := ?_) #[true,true,true,true,true,true,true,true,true,true,true,true,true,true,true,true,true,false,true,false,false,false,true,false,false,true,false,false,false,false,false,false,false,false] rfl rfl (take_ofW HT_.out HW_.out (by kernel_rfl)) (fun _ _ _ h => h) (Or.inl ⟨by rfl, ?_⟩) hHeld ?_ ?_
   rotate_left
   ·rintro w' ⟨s0, s1, s2, s3⟩
    go_simp
    with_reducible rfl
   rotate_left
   ·simp only [Act.put, List.setIfInBounds_toArray, List.set_cons_zero, List.set_cons_succ, i64_w, i32_w]
    rfl
   refine pure_ (i := 17) (N := some 61) (v := ?_) (a' := ?_) #[true,true,true,true,true,true,true,true,true,true,true,true,true,true,true,true,true,true,true,false,false,false,true,false,false,true,false,false,false,false,false,false,false,false] rfl rfl (any_of HT_.out (by kernel_rfl)) (fun _ _ _ h => h) (Or.inl ⟨by rfl, ?_⟩) ?_ ?_
   rotate_left
   ·intro w'
    go_simp
    with_reducible rfl
   rotate_left
   ·simp only [Act.put, List.setIfInBounds_toArray, List.set_cons_zero, List.set_cons_succ, i64_w, i32_w]
    rfl
   refine take_ (i := 19) (N := some 63) (v := ?_) (a' := ?_) #[true,true,true,true,true,true,true,true,true,true,true,true,true,true,true,true,true,true,true,true,false,false,true,false,false,true,false,false,false,false,false,false,false,false] rfl rfl (take_ofW HT_.out HW_.out (by kernel_rfl)) (fun _ _ _ h => h) (Or.inl ⟨by rfl, ?_⟩) hHeld ?_ ?_
   rotate_left
   ·rintro w' ⟨s0, s1, s2, s3⟩
    go_simp
    with_reducible rfl
   rotate_left
   ·simp only [Act.put, List.setIfInBounds_toArray, List.set_cons_zero, List.set_cons_succ, i64_w, i32_w]
    rfl
   refine pure_ (i := 20) (N := some 64) (v := ?_) (a' := ?_) #[true,true,true,true,true,true,true,true,true,true,true,true,true,true,true,true,true,true,true,true,true,false,true,false,false,true,false,false,false,false,false,false,false,false] rfl rfl (any_of HT_.out (by kernel_rfl)) (fun _ _ _ h => h) (Or.inl ⟨by rfl, ?_⟩) ?_ ?_
   rotate_left
   ·intro w'
    go_simp
    with_reducible rfl
   rotate_left
   ·simp only [Act.put, List.setIfInBounds_toArray, List.set_cons_zero, List.set_cons_succ, i64_w, i32_w]
    rfl
   refine pure_ (i := 21) (N := some 65) (v := ?_) (a' := ?_) #[true,true,true,true,true,true,true,true,true,true,true,true,true,true,true,true,true,true,true,true,true,true,true,false,false,true,false,false,false,false,false,false,false,false] rfl rfl (any_of HT_.out (by kernel_rfl)) (fun _ _ _ h => h) (Or.inl ⟨by rfl, ?_⟩) ?_ ?_
   rotate_left
   ·intro w'
    go_simp
    with_reducible rfl
   rotate_left
   ·simp only [Act.put, List.setIfInBounds_toArray, List.set_cons_zero, List.set_cons_succ, i64_w, i32_w]
    rfl
   refine take_ (i := 23) (N := some 67) (v := ?_) (a' := ?_) #[true,true,true,true,true,true,true,true,true,true,true,true,true,true,true,true,true,true,true,true,true,true,true,true,false,true,false,false,false,false,false,false,false,false] rfl rfl (take_ofW HT_.out HW_.out (by kernel_rfl)) (fun _ _ _ h => h) (Or.inl ⟨by rfl, ?_⟩) hHeld ?_ ?_
   rotate_left
   ·rintro w' ⟨s0, s1, s2, s3⟩
    go_simp
    with_reducible rfl
   rotate_left
   ·simp only [Act.put, List.setIfInBounds_toArray, List.set_cons_zero, List.set_cons_succ, i64_w, i32_w]
    rfl
   refine pure_ (i := 24) (N := some 68) (v := ?_) (a' := ?_) #[true,true,true,true,true,true,true,true,true,true,true,true,true,true,true,true,true,true,true,true,true,true,true,true,true,true,false,false,false,false,false,false,false,false] rfl rfl (any_of HT_.out (by kernel_rfl)) (fun _ _ _ h => h) (Or.inl ⟨by rfl, ?_⟩) ?_ ?_
   rotate_left
   ·intro w'
    go_simp
    with_reducible rfl
   rotate_left
   ·simp only [Act.put, List.setIfInBounds_toArray, List.set_cons_zero, List.set_cons_succ, i64_w, i32_w]
    rfl
   refine take_ (i := 26) (N := some 70) (v := ?_) (a' := ?_) #[true,true,true,true,true,true,true,true,true,true,true,true,true,true,true,true,true,true,true,true,true,true,true,true,true,true,true,false,false,false,false,false,false,false] rfl rfl (take_ofW HT_.out HW_.out (by kernel_rfl)) (fun _ _ _ h => h) (Or.inl ⟨by rfl, ?_⟩) hHeld ?_ ?_
   rotate_left
   ·rintro w' ⟨s0, s1, s2, s3⟩
    go_simp
    with_reducible rfl
   rotate_left
   ·simp only [Act.put, List.setIfInBounds_toArray, List.set_cons_zero, List.set_cons_succ, i64_w, i32_w]
    rfl
   refine pure_ (i := 27) (N := some 71) (v := ?_) (a' := ?_) #[true,true,true,true,true,true,true,true,true,true,true,true,true,true,true,true,true,true,true,true,true,true,true,true,true,true,true,true,false,false,false,false,false,false] rfl rfl (any_of HT_.out (by kernel_rfl)) (fun _ _ _ h => h) (Or.inl ⟨by rfl, ?_⟩) ?_ ?_
   rotate_left
   ·intro w'
    go_simp
    with_reducible rfl
   rotate_left
   ·simp only [Act.put, List.setIfInBounds_toArray, List.set_cons_zero, List.set_cons_succ, i64_w, i32_w]
    rfl
   refine pure_ (i := 28) (N := some 72) (v := ?_) (a' := ?_) #[true,true,true,true,true,true,true,true,true,true,true,true,true,true,true,true,true,true,true,true,true,true,true,true,true,true,true,true,true,false,false,false,false,false] rfl rfl (any_of HT_.out (by kernel_rfl)) (fun _ _ _ h => h) (Or.inl ⟨by rfl, ?_⟩) ?_ ?_
   rotate_left
   ·intro w'
    go_simp
    with_reducible rfl
   rotate_left
   ·simp only [Act.put, List.setIfInBounds_toArray, List.set_cons_zero, List.set_cons_succ, i64_w, i32_w]
    rfl
   refine pure_ (i := 29) (N := some 73) (v := ?_) (a' := ?_) #[true,true,true,true,true,true,true,true,true,true,true,true,true,true,true,true,true,true,true,true,true,true,true,true,true,true,true,true,true,true,false,false,false,false] rfl rfl (any_of HT_.out (by kernel_rfl)) (fun _ _ _ h => h) (Or.inl ⟨by rfl, ?_⟩) ?_ ?_
   rotate_left
   ·intro w'
    go_simp
    with_reducible rfl
   rotate_left
   ·simp only [Act.put, List.setIfInBounds_toArray, List.set_cons_zero, List.set_cons_succ, i64_w, i32_w]
    rfl
   refine one_ (i := 30) (N := none) #[true,true,true,true,true,true,true,true,true,true,true,true,true,true,true,true,true,true,true,true,true,true,true,true,true,true,true,true,true,true,true,false,false,false] rfl rfl (one_of HT_.out (by kernel_rfl)) (by decide) (fun K hK => ?_)
   have hs105 : w104.cell? ⟨gb225, 0, none⟩ = some (.int .i64 0) := (blk_cell BK225.out 0).trans rfl
   have hfs105 := blk_frozen BK225.out 0
   have hns105_1 := NB226_225.out
   have hns105_2 := NB227_225.out
   have hns105_3 := NB228_225.out
   have hns105_4 := NB232_225.out
   have hns105_5 := NB236_225.out
   have hns105_6 := NB240_225.out
   have hns105_7 := NB244_225.out
   have hms105_1 := NB225_226.out
   have hms105_2 := NB225_227.out
   have hms105_3 := NB225_228.out
   have hms105_4 := NB225_232.out
   have hms105_5 := NB225_236.out
   have hms105_6 := NB225_240.out
   have hms105_7 := NB225_244.out
   have hs106 : w104.cell? ⟨gb225, 1, none⟩ = some (.int .i64 0) := (blk_cell BK225.out 1).trans rfl
   have hfs106 := blk_frozen BK225.out 1
   have hns106_1 := NB226_225.out
   have hns106_2 := NB227_225.out
   have hns106_3 := NB228_225.out
   have hns106_4 := NB232_225.out
   have hns106_5 := NB236_225.out
   have hns106_6 := NB240_225.out
   have hns106_7 := NB244_225.out
   have hms106_1 := NB225_226.out
   have hms106_2 := NB225_227.out
   have hms106_3 := NB225_228.out
   have hms106_4 := NB225_232.out
   have hms106_5 := NB225_236.out
   have hms106_6 := NB225_240.out
   have hms106_7 := NB225_244.out
   refine skip_ (w1 := ?_) (by rfl) rfl ?_ ?_
   rotate_left
   ·go_simp
    rfl
   refine hK.out _ _ ⟨((cell_far (p := ⟨gb225, _, none⟩) NB232_225.out _).trans (((cell_far (p := ⟨gb225, _, none⟩) NB232_225.out _).trans (hHeld.1)))), ((cell_far (p := ⟨gb225, _, none⟩) NB232_225.out _).trans (((cell_far (p := ⟨gb225, _, none⟩) NB232_225.out _).trans (hHeld.2.1)))), ((cell_far (p := ⟨gb225, _, none⟩) NB236_225.out _).trans (((cell_far (p := ⟨gb225, _, none⟩) NB236_225.out _).trans (hHeld.2.2.1)))), ((cell_far (p := ⟨gb225, _, none⟩) NB236_225.out _).trans (((cell_far (p := ⟨gb225, _, none⟩) NB236_225.out _).trans (hHeld.2.2.2))))⟩ (fun hHeld => ?_)
   clear hK K
   refine one_ (i := 31) (N := none) #[true,true,true,true,true,true,true,true,true,true,true,true,true,true,true,true,true,true,true,true,true,true,true,true,true,true,true,true,true,true,true,true,false,false] rfl rfl (one_of HT_.out (by kernel_rfl)) (by decide) (fun K hK => ?_)
   have hs107 : w104.cell? ⟨gb226, 0, none⟩ = some (.int .i64 0) := (blk_cell BK226.out 0).trans rfl
   have hfs107 := blk_frozen BK226.out 0
   have hns107_0 := NB225_226.out
   have hns107_2 := NB227_226.out
   have hns107_3 := NB228_226.out
   have hns107_4 := NB232_226.out
   have hns107_5 := NB236_226.out
   have hns107_6 := NB240_226.out
   have hns107_7 := NB244_226.out
   have hms107_0 := NB226_225.out
   have hms107_2 := NB226_227.out
   have hms107_3 := NB226_228.out
   have hms107_4 := NB226_232.out
   have hms107_5 := NB226_236.out
   have hms107_6 := NB226_240.out
   have hms107_7 := NB226_244.out
   have hs108 : w104.cell? ⟨gb226, 1, none⟩ = some (.int .i64 0) := (blk_cell BK226.out 1).trans rfl
   have hfs108 := blk_frozen BK226.out 1
   have hns108_0 := NB225_226.out
   have hns108_2 := NB227_226.out
   have hns108_3 := NB228_226.out
   have hns108_4 := NB232_226.out
   have hns108_5 := NB236_226.out
   have hns108_6 := NB240_226.out
   have hns108_7 := NB244_226.out
   have hms108_0 := NB226_225.out
   have hms108_2 := NB226_227.out
   have hms108_3 := NB226_228.out
   have hms108_4 := NB226_232.out
   have hms108_5 := NB226_236.out
   have hms108_6 := NB226_240.out
   have hms108_7 := NB226_244.out
   refine skip_ (w1 := ?_) (by rfl) rfl ?_ ?_
   rotate_left
   ·go_simp
    rfl
   refine hK.out _ _ ⟨((cell_far (p := ⟨gb226, _, none⟩) NB232_226.out _).trans (((cell_far (p := ⟨gb226, _, none⟩) NB232_226.out _).trans (hHeld.1)))), ((cell_far (p := ⟨gb226, _, none⟩) NB232_226.out _).trans (((cell_far (p := ⟨gb226, _, none⟩) NB232_226.out _).trans (hHeld.2.1)))), ((cell_far (p := ⟨gb226, _, none⟩) NB236_226.out _).trans (((cell_far (p := ⟨gb226, _, none⟩) NB236_226.out _).trans (hHeld.2.2.1)))), ((cell_far (p := ⟨gb226, _, none⟩) NB236_226.out _).trans (((cell_far (p := ⟨gb226, _, none⟩) NB236_226.out _).trans (hHeld.2.2.2))))⟩ (fun hHeld => ?_)
   clear hK K
   refine one_ (i := 32) (N := none) #[true,true,true,true,true,true,true,true,true,true,true,true,true,true,true,true,true,true,true,true,true,true,true,true,true,true,true,true,true,true,true,true,true,false] rfl rfl (one_of HT_.out (by kernel_rfl)) (by decide) (fun K hK => ?_)
   have hs109 : w104.cell? ⟨gb227, 0, none⟩ = some (.int .i64 0) := (blk_cell BK227.out 0).trans rfl
   have hfs109 := blk_frozen BK227.out 0
   have hns109_0 := NB225_227.out
   have hns109_1 := NB226_227.out
   have hns109_3 := NB228_227.out
   have hns109_4 := NB232_227.out
   have hns109_5 := NB236_227.out
   have hns109_6 := NB240_227.out
   have hns109_7 := NB244_227.out
   have hms109_0 := NB227_225.out
   have hms109_1 := NB227_226.out
   have hms109_3 := NB227_228.out
   have hms109_4 := NB227_232.out
   have hms109_5 := NB227_236.out
   have hms109_6 := NB227_240.out
   have hms109_7 := NB227_244.out
   have hs110 : w104.cell? ⟨gb227, 1, none⟩ = some (.int .i64 0) := (blk_cell BK227.out 1).trans rfl
   have hfs110 := blk_frozen BK227.out 1
   have hns110_0 := NB225_227.out
   have hns110_1 := NB226_227.out
   have hns110_3 := NB228_227.out
   have hns110_4 := NB232_227.out
   have hns110_5 := NB236_227.out
   have hns110_6 := NB240_227.out
   have hns110_7 := NB244_227.out
   have hms110_0 := NB227_225.out
   have hms110_1 := NB227_226.out
   have hms110_3 := NB227_228.out
   have hms110_4 := NB227_232.out
   have hms110_5 := NB227_236.out
   have hms110_6 := NB227_240.out
   have hms110_7 := NB227_244.out
   refine skip_ (w1 := ?_) (by rfl) rfl ?_ ?_
   rotate_left
   ·go_simp
    rfl
   refine hK.out _ _ ⟨((cell_far (p := ⟨gb227, _, none⟩) NB232_227.out _).trans (((cell_far (p := ⟨gb227, _, none⟩) NB232_227.out _).trans (hHeld.1)))), ((cell_far (p := ⟨gb227, _, none⟩) NB232_227.out _).trans (((cell_far (p := ⟨gb227, _, none⟩) NB232_227.out _).trans (hHeld.2.1)))), ((cell_far (p := ⟨gb227, _, none⟩) NB236_227.out _).trans (((cell_far (p := ⟨gb227, _, none⟩) NB236_227.out _).trans (hHeld.2.2.1)))), ((cell_far (p := ⟨gb227, _, none⟩) NB236_227.out _).trans (((cell_far (p := ⟨gb227, _, none⟩) NB236_227.out _).trans (hHeld.2.2.2))))⟩ (fun hHeld => ?_)
   clear hK K
   refine one_ (i := 33) (N := none) #[true,true,true,true,true,true,true,true,true,true,true,true,true,true,true,true,true,true,true,true,true,true,true,true,true,true,true,true,true,true,true,true,true,true] rfl rfl (one_of HT_.out (by kernel_rfl)) (by decide) (fun K hK => ?_)
   have hs111 : w104.cell? ⟨gb228, 0, none⟩ = some (.int .i64 0) := (blk_cell BK228.out 0).trans rfl
   have hfs111 := blk_frozen BK228.out 0
   have hns111_0 := NB225_228.out
   have hns111_1 := NB226_228.out
   have hns111_2 := NB227_228.out
   have hns111_4 := NB232_228.out
   have hns111_5 := NB236_228.out
   have hns111_6 := NB240_228.out
   have hns111_7 := NB244_228.out
   have hms111_0 := NB228_225.out
   have hms111_1 := NB228_226.out
   have hms111_2 := NB228_227.out
   have hms111_4 := NB228_232.out
   have hms111_5 := NB228_236.out
   have hms111_6 := NB228_240.out
   have hms111_7 := NB228_244.out
   have hs112 : w104.cell? ⟨gb228, 1, none⟩ = some (.int .i64 0) := (blk_cell BK228.out 1).trans rfl
   have hfs112 := blk_frozen BK228.out 1
   have hns112_0 := NB225_228.out
   have hns112_1 := NB226_228.out
   have hns112_2 := NB227_228.out
   have hns112_4 := NB232_228.out
   have hns112_5 := NB236_228.out
   have hns112_6 := NB240_228.out
   have hns112_7 := NB244_228.out
   have hms112_0 := NB228_225.out
   have hms112_1 := NB228_226.out
   have hms112_2 := NB228_227.out
   have hms112_4 := NB228_232.out
   have hms112_5 := NB228_236.out
   have hms112_6 := NB228_240.out
   have hms112_7 := NB228_244.out
   refine skip_ (w1 := ?_) (by rfl) rfl ?_ ?_
   rotate_left
   ·go_simp
    rfl
   refine hK.out _ _ ⟨((cell_far (p := ⟨gb228, _, none⟩) NB232_228.out _).trans (((cell_far (p := ⟨gb228, _, none⟩) NB232_228.out _).trans (hHeld.1)))), ((cell_far (p := ⟨gb228, _, none⟩) NB232_228.out _).trans (((cell_far (p := ⟨gb228, _, none⟩) NB232_228.out _).trans (hHeld.2.1)))), ((cell_far (p := ⟨gb228, _, none⟩) NB236_228.out _).trans (((cell_far (p := ⟨gb228, _, none⟩) NB236_228.out _).trans (hHeld.2.2.1)))), ((cell_far (p := ⟨gb228, _, none⟩) NB236_228.out _).trans (((cell_far (p := ⟨gb228, _, none⟩) NB236_228.out _).trans (hHeld.2.2.2))))⟩ (fun hHeld => ?_)
   clear hK K
   refine done_ (done_of HT_.out (by kernel_rfl)) ?_
   try go_wp2
   refine bodyPost_ret (results_list (rs := [.cell 2 33, .cell 3 33, .cell 4 33, .cell 5 33]) rfl (by simp) (.cell gb225 33 #[.int .i64 t229, .int .i64 t230] (0, 0) _ rfl (by (with_reducible repeat (first | refine blk_drewN ?_ _ | refine blk_drew ?_ | refine blk_alloc ?_ _)); refine blk_far ?_ NB225_228.out _; (with_reducible repeat (first | refine blk_drewN ?_ _ | refine blk_drew ?_ | refine blk_alloc ?_ _)); refine blk_far ?_ NB225_228.out _; (with_reducible repeat (first | refine blk_drewN ?_ _ | refine blk_drew ?_ | refine blk_alloc ?_ _)); refine blk_far ?_ NB225_227.out _; (with_reducible repeat (first | refine blk_drewN ?_ _ | refine blk_drew ?_ | refine blk_alloc ?_ _)); refine blk_far ?_ NB225_227.out _; (with_reducible repeat (first | refine blk_drewN ?_ _ | refine blk_drew ?_ | refine blk_alloc ?_ _)); refine blk_far ?_ NB225_226.out _; (with_reducible repeat (first | refine blk_drewN ?_ _ | refine blk_drew ?_ | refine blk_alloc ?_ _)); refine blk_far ?_ NB225_226.out _; (with_reducible repeat (first | refine blk_drewN ?_ _ | refine blk_drew ?_ | refine blk_alloc ?_ _)); refine blk_put (cs := #[.int .i64 t229, .int .i64 0]) ?_ 1 _ rfl; (with_reducible repeat (first | refine blk_drewN ?_ _ | refine blk_drew ?_ | refine blk_alloc ?_ _)); refine blk_put (cs := #[.int .i64 0, .int .i64 0]) ?_ 0 _ rfl; (with_reducible repeat (first | refine blk_drewN ?_ _ | refine blk_drew ?_ | refine blk_alloc ?_ _)); exact BK225.out) Try.underlying33 rfl (by kernel_rfl) (.cell gb226 33 #[.int .i64 t233, .int .i64 t234] (0, 0) _ rfl (by (with_reducible repeat (first | refine blk_drewN ?_ _ | refine blk_drew ?_ | refine blk_alloc ?_ _)); refine blk_far ?_ NB226_228.out _; (with_reducible repeat (first | refine blk_drewN ?_ _ | refine blk_drew ?_ | refine blk_alloc ?_ _)); refine blk_far ?_ NB226_228.out _; (with_reducible repeat (first | refine blk_drewN ?_ _ | refine blk_drew ?_ | refine blk_alloc ?_ _)); refine blk_far ?_ NB226_227.out _; (with_reducible repeat (first | refine blk_drewN ?_ _ | refine blk_drew ?_ | refine blk_alloc ?_ _)); refine blk_far ?_ NB226_227.out _; (with_reducible repeat (first | refine blk_drewN ?_ _ | refine blk_drew ?_ | refine blk_alloc ?_ _)); refine blk_put (cs := #[.int .i64 t233, .int .i64 0]) ?_ 1 _ rfl; (with_reducible repeat (first | refine blk_drewN ?_ _ | refine blk_drew ?_ | refine blk_alloc ?_ _)); refine blk_put (cs := #[.int .i64 0, .int .i64 0]) ?_ 0 _ rfl; (with_reducible repeat (first | refine blk_drewN ?_ _ | refine blk_drew ?_ | refine blk_alloc ?_ _)); refine blk_far ?_ NB226_225.out _; (with_reducible repeat (first | refine blk_drewN ?_ _ | refine blk_drew ?_ | refine blk_alloc ?_ _)); refine blk_far ?_ NB226_225.out _; (with_reducible repeat (first | refine blk_drewN ?_ _ | refine blk_drew ?_ | refine blk_alloc ?_ _)); exact BK226.out) Try.underlying33 rfl (by kernel_rfl) (.cell gb227 33 #[.int .i64 (wrap64 ((wrap64 (2 * t229)) - t233)), .int .i64 (wrap64 ((wrap64 (2 * t230)) - t234))] (0, 0) _ rfl (by (with_reducible repeat (first | refine blk_drewN ?_ _ | refine blk_drew ?_ | refine blk_alloc ?_ _)); refine blk_far ?_ NB227_228.out _; (with_reducible repeat (first | refine blk_drewN ?_ _ | refine blk_drew ?_ | refine blk_alloc ?_ _)); refine blk_far ?_ NB227_228.out _; (with_reducible repeat (first | refine blk_drewN ?_ _ | refine blk_drew ?_ | refine blk_alloc ?_ _)); refine blk_put (cs := #[.int .i64 (wrap64 ((wrap64 (2 * t229)) - t233)), .int .i64 0]) ?_ 1 _ rfl; (with_reducible repeat (first | refine blk_drewN ?_ _ | refine blk_drew ?_ | refine blk_alloc ?_ _)); refine blk_put (cs := #[.int .i64 0, .int .i64 0]) ?_ 0 _ rfl; (with_reducible repeat (first | refine blk_drewN ?_ _ | refine blk_drew ?_ | refine blk_alloc ?_ _)); refine blk_far ?_ NB227_226.out _; (with_reducible repeat (first | refine blk_drewN ?_ _ | refine blk_drew ?_ | refine blk_alloc ?_ _)); refine blk_far ?_ NB227_226.out _; (with_reducible repeat (first | refine blk_drewN ?_ _ | refine blk_drew ?_ | refine blk_alloc ?_ _)); refine blk_far ?_ NB227_225.out _; (with_reducible repeat (first | refine blk_drewN ?_ _ | refine blk_drew ?_ | refine blk_alloc ?_ _)); refine blk_far ?_ NB227_225.out _; (with_reducible repeat (first | refine blk_drewN ?_ _ | refine blk_drew ?_ | refine blk_alloc ?_ _)); exact BK227.out) Try.underlying33 rfl (by kernel_rfl) (.cell gb228 33 #[.int .i64 (wrap64 ((wrap64 (3 * t233)) - (wrap64 (2 * t229)))), .int .i64 (wrap64 ((wrap64 (3 * t234)) - (wrap64 (2 * t230))))] (0, 0) _ rfl (by (with_reducible repeat (first | refine blk_drewN ?_ _ | refine blk_drew ?_ | refine blk_alloc ?_ _)); refine blk_put (cs := #[.int .i64 (wrap64 ((wrap64 (3 * t233)) - (wrap64 (2 * t229)))), .int .i64 0]) ?_ 1 _ rfl; (with_reducible repeat (first | refine blk_drewN ?_ _ | refine blk_drew ?_ | refine blk_alloc ?_ _)); refine blk_put (cs := #[.int .i64 0, .int .i64 0]) ?_ 0 _ rfl; (with_reducible repeat (first | refine blk_drewN ?_ _ | refine blk_drew ?_ | refine blk_alloc ?_ _)); refine blk_far ?_ NB228_227.out _; (with_reducible repeat (first | refine blk_drewN ?_ _ | refine blk_drew ?_ | refine blk_alloc ?_ _)); refine blk_far ?_ NB228_227.out _; (with_reducible repeat (first | refine blk_drewN ?_ _ | refine blk_drew ?_ | refine blk_alloc ?_ _)); refine blk_far ?_ NB228_226.out _; (with_reducible repeat (first | refine blk_drewN ?_ _ | refine blk_drew ?_ | refine blk_alloc ?_ _)); refine blk_far ?_ NB228_226.out _; (with_reducible repeat (first | refine blk_drewN ?_ _ | refine blk_drew ?_ | refine blk_alloc ?_ _)); refine blk_far ?_ NB228_225.out _; (with_reducible repeat (first | refine blk_drewN ?_ _ | refine blk_drew ?_ | refine blk_alloc ?_ _)); refine blk_far ?_ NB228_225.out _; (with_reducible repeat (first | refine blk_drewN ?_ _ | refine blk_drew ?_ | refine blk_alloc ?_ _)); exact BK228.out) Try.underlying33 rfl (by kernel_rfl) .nil))))) rfl ?_
   exact ⟨er, by repeat (first | (with_reducible first | exact HI0.out | apply IsS93.alloc | apply IsS93.drewN | apply IsS93.drew | apply IsS93.set_1 | refine IsS93.far ?_ NB0_225.out _ | refine IsS93.far ?_ NB0_226.out _ | refine IsS93.far ?_ NB0_227.out _ | refine IsS93.far ?_ NB0_228.out _ | refine IsS93.far ?_ NB0_232.out _ | refine IsS93.far ?_ NB0_236.out _ | refine IsS93.far ?_ NB0_240.out _ | refine IsS93.far ?_ NB0_244.out _) | exact HI0.out), by repeat (first | (with_reducible first | exact HB.out | apply below_alloc | apply pw_below_drewN | apply below_drew1 | refine below_set ?_ (IsS93.ge HI0.out) | refine below_set ?_ GE225.out | refine below_set ?_ GE226.out | refine below_set ?_ GE227.out | refine below_set ?_ GE228.out | refine below_set ?_ GE232.out | refine below_set ?_ GE236.out | refine below_set ?_ GE240.out | refine below_set ?_ GE244.out) | exact HB.out), by repeat (first | (with_reducible first | exact HK.out | apply KeepBut.set_ | apply keep_drewN | apply keep_drew | apply keep_alloc | refine keep_far ?_ GW225.out _ | refine keep_far ?_ GW226.out _ | refine keep_far ?_ GW227.out _ | refine keep_far ?_ GW228.out _ | refine keep_far ?_ GW232.out _ | refine keep_far ?_ GW236.out _ | refine keep_far ?_ GW240.out _ | refine keep_far ?_ GW244.out _) | exact HK.out)⟩
  ·rw [if_neg c60] at H
   have c60b0 : (t245 == 1) = false := beq_eq_false_iff_ne.mpr c60
   have c60b1 : (t245 != 1) = true := bne_iff_ne.mpr c60
   by_cases c113 : t245 = 2
   ·rw [if_pos c113] at H
    have c113b0 : (t245 == 2) = true := beq_iff_eq.mpr c113
    have c113b1 : (t245 != 2) = false := bne_eq_false_iff_eq.mpr c113
    clear c113
    simp only [Option.some.injEq, Prod.mk.injEq] at H
    obtain ⟨rfl, rfl, rfl, rfl, rfl, rfl, rfl, rfl, rfl⟩ := H
    try go_wp2_with fail
    have n0_ := Aside0.mk (blk_drew BK225.out)
    have n1_ := Aside0.mk (blk_drew BK226.out)
    have n2_ := Aside0.mk (blk_drew BK227.out)
    have n3_ := Aside0.mk (blk_drew BK228.out)
    have n4_ := Aside0.mk (blk_drew BK232.out)
    have n5_ := Aside0.mk (blk_drew BK236.out)
    have n6_ := Aside0.mk (blk_drew BK240.out)
    have n7_ := Aside0.mk (blk_drew BK244.out)
    have n8_ := Aside0.mk (IsS93.drew HI0.out)
    have n9_ := Aside0.mk (keep_drew HK.out)
    have n10_ := Aside0.mk (below_drew1 HB.out)
    clear BK225 BK226 BK227 BK228 BK232 BK236 BK240 BK244 HI0 HK HB
    have BK225 := n0_
    have BK226 := n1_
    have BK227 := n2_
    have BK228 := n3_
    have BK232 := n4_
    have BK236 := n5_
    have BK240 := n6_
    have BK244 := n7_
    have HI0 := n8_
    have HK := n9_
    have HB := n10_
    clear n0_ n1_ n2_ n3_ n4_ n5_ n6_ n7_ n8_ n9_ n10_
    refine start_ (n := 8) (S := fun w' => w'.cell? ⟨gb232, 0, none⟩ = some (.int .i64 t229) ∧ w'.cell? ⟨gb232, 1, none⟩ = some (.int .i64 t230) ∧ w'.cell? ⟨gb236, 0, none⟩ = some (.int .i64 t233) ∧ w'.cell? ⟨gb236, 1, none⟩ = some (.int .i64 t234) ∧ w'.cell? ⟨gb244, 0, none⟩ = some (.int .i64 t241) ∧ w'.cell? ⟨gb244, 1, none⟩ = some (.int .i64 t242)) (ds := []) #[false,false,false,false,false,false,false,false] (by kernel_rfl) rfl rfl ⟨(blk_cell BK232.out 0).trans rfl, (blk_cell BK232.out 1).trans rfl, (blk_cell BK236.out 0).trans rfl, (blk_cell BK236.out 1).trans rfl, (blk_cell BK244.out 0).trans rfl, (blk_cell BK244.out 1).trans rfl⟩ (fun hHeld => ?_); refine with_tabW spec_l92Lines.tab11 spec_l92Lines.bits11 (fun HT_ HW_ => ?_)
    generalize w50.drew = w157 at BK225 BK226 BK227 BK228 BK232 BK236 BK240 BK244 HI0 HK HB hHeld ⊢
    refine take_ (i := 0) (N := some 76) (v := ?_) (a' := ?_) #[true,false,false,false,false,false,false,false] rfl rfl (take_ofW HT_.out HW_.out (by kernel_rfl)) (fun _ _ _ h => h) (Or.inl ⟨by rfl, ?_⟩) hHeld ?_ ?_
    rotate_left
    ·rintro w' ⟨s0, s1, s2, s3, s4, s5⟩
     go_simp
     with_reducible rfl
    rotate_left
    ·simp only [Act.put, List.setIfInBounds_toArray, List.set_cons_zero, List.set_cons_succ, i64_w, i32_w]
     rfl
    refine take_ (i := 1) (N := some 77) (v := ?_) (a' := ?_) #[true,true,false,false,false,false,false,false] rfl rfl (take_ofW HT_.out HW_.out (by kernel_rfl)) (fun _ _ _ h => h) (Or.inl ⟨by rfl, ?_⟩) hHeld ?_ ?_
    rotate_left
    ·rintro w' ⟨s0, s1, s2, s3, s4, s5⟩
     go_simp
     with_reducible rfl
    rotate_left
    ·simp only [Act.put, List.setIfInBounds_toArray, List.set_cons_zero, List.set_cons_succ, i64_w, i32_w]
     rfl
    refine take_ (i := 2) (N := some 78) (v := ?_) (a' := ?_) #[true,true,true,false,false,false,false,false] rfl rfl (take_ofW HT_.out HW_.out (by kernel_rfl)) (fun _ _ _ h => h) (Or.inl ⟨by rfl, ?_⟩) hHeld ?_ ?_
    rotate_left
    ·rintro w' ⟨s0, s1, s2, s3, s4, s5⟩
     go_simp
     with_reducible rfl
    rotate_left
    ·simp only [Act.put, List.setIfInBounds_toArray, List.set_cons_zero, List.set_cons_succ, i64_w, i32_w]
     rfl
    refine take_ (i := 3) (N := some 79) (v := ?_) (a' := ?_) #[true,true,true,true,false,false,false,false] rfl rfl (take_ofW HT_.out HW_.out (by kernel_rfl)) (fun _ _ _ h => h) (Or.inl ⟨by rfl, ?_⟩) hHeld ?_ ?_
    rotate_left
    ·rintro w' ⟨s0, s1, s2, s3, s4, s5⟩
     go_simp
     with_reducible rfl
    rotate_left
    ·simp only [Act.put, List.setIfInBounds_toArray, List.set_cons_zero, List.set_cons_succ, i64_w, i32_w]
     rfl
    refine one_ (i := 4) (N := none) #[true,true,true,true,true,false,false,false] rfl rfl (one_of HT_.out (by kernel_rfl)) (by decide) (fun K hK => ?_)
    have hs158 : w157.cell? ⟨gb225, 0, none⟩ = some (.int .i64 0) := (blk_cell BK225.out 0).trans rfl
    have hfs158 := blk_frozen BK225.out 0
    have hns158_1 := NB226_225.out
    have hns158_2 := NB227_225.out
    have hns158_3 := NB228_225.out
    have hns158_4 := NB232_225.out
    have hns158_5 := NB236_225.out
    have hns158_6 := NB240_225.out
    have hns158_7 := NB244_225.out
    have hms158_1 := NB225_226.out
    have hms158_2 := NB225_227.out
    have hms158_3 := NB225_228.out
    have hms158_4 := NB225_232.out
    have hms158_5 := NB225_236.out
    have hms158_6 := NB225_240.out
    have hms158_7 := NB225_244.out
    have hs159 : w157.cell? ⟨gb225, 1, none⟩ = some (.int .i64 0) := (blk_cell BK225.out 1).trans rfl
    have hfs159 := blk_frozen BK225.out 1
    have hns159_1 := NB226_225.out
    have hns159_2 := NB227_225.out
    have hns159_3 := NB228_225.out
    have hns159_4 := NB232_225.out
    have hns159_5 := NB236_225.out
    have hns159_6 := NB240_225.out
    have hns159_7 := NB244_225.out
    have hms159_1 := NB225_226.out
    have hms159_2 := NB225_227.out
    have hms159_3 := NB225_228.out
    have hms159_4 := NB225_232.out
    have hms159_5 := NB225_236.out
    have hms159_6 := NB225_240.out
    have hms159_7 := NB225_244.out
    refine skip_ (w1 := ?_) (by rfl) rfl ?_ ?_
    rotate_left
    ·go_simp
     rfl
    refine hK.out _ _ ⟨((cell_far (p := ⟨gb225, _, none⟩) NB232_225.out _).trans (((cell_far (p := ⟨gb225, _, none⟩) NB232_225.out _).trans (hHeld.1)))), ((cell_far (p := ⟨gb225, _, none⟩) NB232_225.out _).trans (((cell_far (p := ⟨gb225, _, none⟩) NB232_225.out _).trans (hHeld.2.1)))), ((cell_far (p := ⟨gb225, _, none⟩) NB236_225.out _).trans (((cell_far (p := ⟨gb225, _, none⟩) NB236_225.out _).trans (hHeld.2.2.1)))), ((cell_far (p := ⟨gb225, _, none⟩) NB236_225.out _).trans (((cell_far (p := ⟨gb225, _, none⟩) NB236_225.out _).trans (hHeld.2.2.2.1)))), ((cell_far (p := ⟨gb225, _, none⟩) NB244_225.out _).trans (((cell_far (p := ⟨gb225, _, none⟩) NB244_225.out _).trans (hHeld.2.2.2.2.1)))), ((cell_far (p := ⟨gb225, _, none⟩) NB244_225.out _).trans (((cell_far (p := ⟨gb225, _, none⟩) NB244_225.out _).trans (hHeld.2.2.2.2.2))))⟩ (fun hHeld => ?_)
    clear hK K
    refine one_ (i := 5) (N := none) #[true,true,true,true,true,true,false,false] rfl rfl (one_of HT_.out (by kernel_rfl)) (by decide) (fun K hK => ?_)
    have hs160 : w157.cell? ⟨gb226, 0, none⟩ = some (.int .i64 0) := (blk_cell BK226.out 0).trans rfl
    have hfs160 := blk_frozen BK226.out 0
    have hns160_0 := NB225_226.out
    have hns160_2 := NB227_226.out
    have hns160_3 := NB228_226.out
    have hns160_4 := NB232_226.out
    have hns160_5 := NB236_226.out
    have hns160_6 := NB240_226.out
    have hns160_7 := NB244_226.out
    have hms160_0 := NB226_225.out
    have hms160_2 := NB226_227.out
    have hms160_3 := NB226_228.out
    have hms160_4 := NB226_232.out
    have hms160_5 := NB226_236.out
    have hms160_6 := NB226_240.out
    have hms160_7 := NB226_244.out
    have hs161 : w157.cell? ⟨gb226, 1, none⟩ = some (.int .i64 0) := (blk_cell BK226.out 1).trans rfl
    have hfs161 := blk_frozen BK226.out 1
    have hns161_0 := NB225_226.out
    have hns161_2 := NB227_226.out
    have hns161_3 := NB228_226.out
    have hns161_4 := NB232_226.out
    have hns161_5 := NB236_226.out
    have hns161_6 := NB240_226.out
    have hns161_7 := NB244_226.out
    have hms161_0 := NB226_225.out
    have hms161_2 := NB226_227.out
    have hms161_3 := NB226_228.out
    have hms161_4 := NB226_232.out
    have hms161_5 := NB226_236.out
    have hms161_6 := NB226_240.out
    have hms161_7 := NB226_244.out
    refine skip_ (w1 := ?_) (by rfl) rfl ?_ ?_
    rotate_left
    ·go_simp
     rfl
    refine hK.out _ _ ⟨((cell_far (p := ⟨gb226, _, none⟩) NB232_226.out _).trans (((cell_far (p := ⟨gb226, _, none⟩) NB232_226.out _).trans (hHeld.1)))), ((cell_far (p := ⟨gb226, _, none⟩) NB232_226.out _).trans (((cell_far (p := ⟨gb226, _, none⟩) NB232_226.out _).trans (hHeld.2.1)))), ((cell_far (p := ⟨gb226, _, none⟩) NB236_226.out _).trans (((cell_far (p := ⟨gb226, _, none⟩) NB236_226.out _).trans (hHeld.2.2.1)))), ((cell_far (p := ⟨gb226, _, none⟩) NB236_226.out _).trans (((cell_far (p := ⟨gb226, _, none⟩) NB236_226.out _).trans (hHeld.2.2.2.1)))), ((cell_far (p := ⟨gb226, _, none⟩) NB244_226.out _).trans (((cell_far (p := ⟨gb226, _, none⟩) NB244_226.out _).trans (hHeld.2.2.2.2.1)))), ((cell_far (p := ⟨gb226, _, none⟩) NB244_226.out _).trans (((cell_far (p := ⟨gb226, _, none⟩) NB244_226.out _).trans (hHeld.2.2.2.2.2))))⟩ (fun hHeld => ?_)
    clear hK K
    refine one_ (i := 6) (N := none) #[true,true,true,true,true,true,true,false] rfl rfl (one_of HT_.out (by kernel_rfl)) (by decide) (fun K hK => ?_)
    have hs162 : w157.cell? ⟨gb227, 0, none⟩ = some (.int .i64 0) := (blk_cell BK227.out 0).trans rfl
    have hfs162 := blk_frozen BK227.out 0
    have hns162_0 := NB225_227.out
    have hns162_1 := NB226_227.out
    have hns162_3 := NB228_227.out
    have hns162_4 := NB232_227.out
    have hns162_5 := NB236_227.out
    have hns162_6 := NB240_227.out
    have hns162_7 := NB244_227.out
    have hms162_0 := NB227_225.out
    have hms162_1 := NB227_226.out
    have hms162_3 := NB227_228.out
    have hms162_4 := NB227_232.out
    have hms162_5 := NB227_236.out
    have hms162_6 := NB227_240.out
    have hms162_7 := NB227_244.out
    have hs163 : w157.cell? ⟨gb227, 1, none⟩ = some (.int .i64 0) := (blk_cell BK227.out 1).trans rfl
    have hfs163 := blk_frozen BK227.out 1
    have hns163_0 := NB225_227.out
    have hns163_1 := NB226_227.out
    have hns163_3 := NB228_227.out
    have hns163_4 := NB232_227.out
    have hns163_5 := NB236_227.out
    have hns163_6 := NB240_227.out
    have hns163_7 := NB244_227.out
    have hms163_0 := NB227_225.out
    have hms163_1 := NB227_226.out
    have hms163_3 := NB227_228.out
    have hms163_4 := NB227_232.out
    have hms163_5 := NB227_236.out
    have hms163_6 := NB227_240.out
    have hms163_7 := NB227_244.out
    refine skip_ (w1 := ?_) (by rfl) rfl ?_ ?_
    rotate_left
    ·go_simp
     rfl
    refine hK.out _ _ ⟨((cell_far (p := ⟨gb227, _, none⟩) NB232_227.out _).trans (((cell_far (p := ⟨gb227, _, none⟩) NB232_227.out _).trans (hHeld.1)))), ((cell_far (p := ⟨gb227, _, none⟩) NB232_227.out _).trans (((cell_far (p := ⟨gb227, _, none⟩) NB232_227.out _).trans (hHeld.2.1)))), ((cell_far (p := ⟨gb227, _, none⟩) NB236_227.out _).trans (((cell_far (p := ⟨gb227, _, none⟩) NB236_227.out _).trans (hHeld.2.2.1)))), ((cell_far (p := ⟨gb227, _, none⟩) NB236_227.out _).trans (((cell_far (p := ⟨gb227, _, none⟩) NB236_227.out _).trans (hHeld.2.2.2.1)))), ((cell_far (p := ⟨gb227, _, none⟩) NB244_227.out _).trans (((cell_far (p := ⟨gb227, _, none⟩) NB244_227.out _).trans (hHeld.2.2.2.2.1)))), ((cell_far (p := ⟨gb227, _, none⟩) NB244_227.out _).trans (((cell_far (p := ⟨gb227, _, none⟩) NB244_227.out _).trans (hHeld.2.2.2.2.2))))⟩ (fun hHeld => ?_)
    clear hK K
    refine one_ (i := 7) (N := none) #[true,true,true,true,true,true,true,true] rfl rfl (one_of HT_.out (by kernel_rfl)) (by decide) (fun K hK => ?_)
    have hs164 : w157.cell? ⟨gb228, 0, none⟩ = some (.int .i64 0) := (blk_cell BK228.out 0).trans rfl
    have hfs164 := blk_frozen BK228.out 0
    have hns164_0 := NB225_228.out
    have hns164_1 := NB226_228.out
    have hns164_2 := NB227_228.out
    have hns164_4 := NB232_228.out
    have hns164_5 := NB236_228.out
    have hns164_6 := NB240_228.out
    have hns164_7 := NB244_228.out
    have hms164_0 := NB228_225.out
    have hms164_1 := NB228_226.out
    have hms164_2 := NB228_227.out
    have hms164_4 := NB228_232.out
    have hms164_5 := NB228_236.out
    have hms164_6 := NB228_240.out
    have hms164_7 := NB228_244.out
    have hs165 : w157.cell? ⟨gb228, 1, none⟩ = some (.int .i64 0) := (blk_cell BK228.out 1).trans rfl
    have hfs165 := blk_frozen BK228.out 1
    have hns165_0 := NB225_228.out
    have hns165_1 := NB226_228.out
    have hns165_2 := NB227_228.out
    have hns165_4 := NB232_228.out
    have hns165_5 := NB236_228.out
    have hns165_6 := NB240_228.out
    have hns165_7 := NB244_228.out
    have hms165_0 := NB228_225.out
    have hms165_1 := NB228_226.out
    have hms165_2 := NB228_227.out
    have hms165_4 := NB228_232.out
    have hms165_5 := NB228_236.out
    have hms165_6 := NB228_240.out
    have hms165_7 := NB228_244.out
    refine skip_ (w1 := ?_) (by rfl) rfl ?_ ?_
    rotate_left
    ·go_simp
     rfl
    refine hK.out _ _ ⟨((cell_far (p := ⟨gb228, _, none⟩) NB232_228.out _).trans (((cell_far (p := ⟨gb228, _, none⟩) NB232_228.out _).trans (hHeld.1)))), ((cell_far (p := ⟨gb228, _, none⟩) NB232_228.out _).trans (((cell_far (p := ⟨gb228, _, none⟩) NB232_228.out _).trans (hHeld.2.1)))), ((cell_far (p := ⟨gb228, _, none⟩) NB236_228.out _).trans (((cell_far (p := ⟨gb228, _, none⟩) NB236_228.out _).trans (hHeld.2.2.1)))), ((cell_far (p := ⟨gb228, _, none⟩) NB236_228.out _).trans (((cell_far (p := ⟨gb228, _, none⟩) NB236_228.out _).trans (hHeld.2.2.2.1)))), ((cell_far (p := ⟨gb228, _, none⟩) NB244_228.out _).trans (((cell_far (p := ⟨gb228, _, none⟩) NB244_228.out _).trans (hHeld.2.2.2.2.1)))), ((cell_far (p := ⟨gb228, _, none⟩) NB244_228.out _).trans (((cell_far (p := ⟨gb228, _, none⟩) NB244_228.out _).trans (hHeld.2.2.2.2.2))))⟩ (fun hHeld => ?_)
    clear hK K
    refine done_ (done_of HT_.out (by kernel_rfl)) ?_
    try go_wp2
    refine bodyPost_ret (results_list (rs := [.cell 2 33, .cell 3 33, .cell 4 33, .cell 5 33]) rfl (by simp) (.cell gb225 33 #[.int .i64 t229, .int .i64 t230] (0, 0) _ rfl (by (with_reducible repeat (first | refine blk_drewN ?_ _ | refine blk_drew ?_ | refine blk_alloc ?_ _)); refine blk_far ?_ NB225_228.out _; (with_reducible repeat (first | refine blk_drewN ?_ _ | refine blk_drew ?_ | refine blk_alloc ?_ _)); refine blk_far ?_ NB225_228.out _; (with_reducible repeat (first | refine blk_drewN ?_ _ | refine blk_drew ?_ | refine blk_alloc ?_ _)); refine blk_far ?_ NB225_227.out _; (with_reducible repeat (first | refine blk_drewN ?_ _ | refine blk_drew ?_ | refine blk_alloc ?_ _)); refine blk_far ?_ NB225_227.out _; (with_reducible repeat (first | refine blk_drewN ?_ _ | refine blk_drew ?_ | refine blk_alloc ?_ _)); refine blk_far ?_ NB225_226.out _; (with_reducible repeat (first | refine blk_drewN ?_ _ | refine blk_drew ?_ | refine blk_alloc ?_ _)); refine blk_far ?_ NB225_226.out _; (with_reducible repeat (first | refine blk_drewN ?_ _ | refine blk_drew ?_ | refine blk_alloc ?_ _)); refine blk_put (cs := #[.int .i64 t229, .int .i64 0]) ?_ 1 _ rfl; (with_reducible repeat (first | refine blk_drewN ?_ _ | refine blk_drew ?_ | refine blk_alloc ?_ _)); refine blk_put (cs := #[.int .i64 0, .int .i64 0]) ?_ 0 _ rfl; (with_reducible repeat (first | refine blk_drewN ?_ _ | refine blk_drew ?_ | refine blk_alloc ?_ _)); exact BK225.out) Try.underlying33 rfl (by kernel_rfl) (.cell gb226 33 #[.int .i64 t233, .int .i64 t234] (0, 0) _ rfl (by (with_reducible repeat (first | refine blk_drewN ?_ _ | refine blk_drew ?_ | refine blk_alloc ?_ _)); refine blk_far ?_ NB226_228.out _; (with_reducible repeat (first | refine blk_drewN ?_ _ | refine blk_drew ?_ | refine blk_alloc ?_ _)); refine blk_far ?_ NB226_228.out _; (with_reducible repeat (first | refine blk_drewN ?_ _ | refine blk_drew ?_ | refine blk_alloc ?_ _)); refine blk_far ?_ NB226_227.out _; (with_reducible repeat (first | refine blk_drewN ?_ _ | refine blk_drew ?_ | refine blk_alloc ?_ _)); refine blk_far ?_ NB226_227.out _; (with_reducible repeat (first | refine blk_drewN ?_ _ | refine blk_drew ?_ | refine blk_alloc ?_ _)); refine blk_put (cs := #[.int .i64 t233, .int .i64 0]) ?_ 1 _ rfl; (with_reducible repeat (first | refine blk_drewN ?_ _ | refine blk_drew ?_ | refine blk_alloc ?_ _)); refine blk_put (cs := #[.int .i64 0, .int .i64 0]) ?_ 0 _ rfl; (with_reducible repeat (first | refine blk_drewN ?_ _ | refine blk_drew ?_ | refine blk_alloc ?_ _)); refine blk_far ?_ NB226_225.out _; (with_reducible repeat (first | refine blk_drewN ?_ _ | refine blk_drew ?_ | refine blk_alloc ?_ _)); refine blk_far ?_ NB226_225.out _; (with_reducible repeat (first | refine blk_drewN ?_ _ | refine blk_drew ?_ | refine blk_alloc ?_ _)); exact BK226.out) Try.underlying33 rfl (by kernel_rfl) (.cell gb227 33 #[.int .i64 t233, .int .i64 t234] (0, 0) _ rfl (by (with_reducible repeat (first | refine blk_drewN ?_ _ | refine blk_drew ?_ | refine blk_alloc ?_ _)); refine blk_far ?_ NB227_228.out _; (with_reducible repeat (first | refine blk_drewN ?_ _ | refine blk_drew ?_ | refine blk_alloc ?_ _)); refine blk_far ?_ NB227_228.out _; (with_reducible repeat (first | refine blk_drewN ?_ _ | refine blk_drew ?_ | refine blk_alloc ?_ _)); refine blk_put (cs := #[.int .i64 t233, .int .i64 0]) ?_ 1 _ rfl; (with_reducible repeat (first | refine blk_drewN ?_ _ | refine blk_drew ?_ | refine blk_alloc ?_ _)); refine blk_put (cs := #[.int .i64 0, .int .i64 0]) ?_ 0 _ rfl; (with_reducible repeat (first | refine blk_drewN ?_ _ | refine blk_drew ?_ | refine blk_alloc ?_ _)); refine blk_far ?_ NB227_226.out _; (with_reducible repeat (first | refine blk_drewN ?_ _ | refine blk_drew ?_ | refine blk_alloc ?_ _)); refine blk_far ?_ NB227_226.out _; (with_reducible repeat (first | refine blk_drewN ?_ _ | refine blk_drew ?_ | refine blk_alloc ?_ _)); refine blk_far ?_ NB227_225.out _; (with_reducible repeat (first | refine blk_drewN ?_ _ | refine blk_drew ?_ | refine blk_alloc ?_ _)); refine blk_far ?_ NB227_225.out _; (with_reducible repeat (first | refine blk_drewN ?_ _ | refine blk_drew ?_ | refine blk_alloc ?_ _)); exact BK227.out) Try.underlying33 rfl (by kernel_rfl) (.cell gb228 33 #[.int .i64 t241, .int .i64 t242] (0, 0) _ rfl (by (with_reducible repeat (first | refine blk_drewN ?_ _ | refine blk_drew ?_ | refine blk_alloc ?_ _)); refine blk_put (cs := #[.int .i64 t241, .int .i64 0]) ?_ 1 _ rfl; (with_reducible repeat (first | refine blk_drewN ?_ _ | refine blk_drew ?_ | refine blk_alloc ?_ _)); refine blk_put (cs := #[.int .i64 0, .int .i64 0]) ?_ 0 _ rfl; (with_reducible repeat (first | refine blk_drewN ?_ _ | refine blk_drew ?_ | refine blk_alloc ?_ _)); refine blk_far ?_ NB228_227.out _; (with_reducible repeat (first | refine blk_drewN ?_ _ | refine blk_drew ?_ | refine blk_alloc ?_ _)); refine blk_far ?_ NB228_227.out _; (with_reducible repeat (first | refine blk_drewN ?_ _ | refine blk_drew ?_ | refine blk_alloc ?_ _)); refine blk_far ?_ NB228_226.out _; (with_reducible repeat (first | refine blk_drewN ?_ _ | refine blk_drew ?_ | refine blk_alloc ?_ _)); refine blk_far ?_ NB228_226.out _; (with_reducible repeat (first | refine blk_drewN ?_ _ | refine blk_drew ?_ | refine blk_alloc ?_ _)); refine blk_far ?_ NB228_225.out _; (with_reducible repeat (first | refine blk_drewN ?_ _ | refine blk_drew ?_ | refine blk_alloc ?_ _)); refine blk_far ?_ NB228_225.out _; (with_reducible repeat (first | refine blk_drewN ?_ _ | refine blk_drew ?_ | refine blk_alloc ?_ _)); exact BK228.out) Try.underlying33 rfl (by kernel_rfl) .nil))))) rfl ?_
    exact ⟨er, by repeat (first | (with_reducible first | exact HI0.out | apply IsS93.alloc | apply IsS93.drewN | apply IsS93.drew | apply IsS93.set_1 | refine IsS93.far ?_ NB0_225.out _ | refine IsS93.far ?_ NB0_226.out _ | refine IsS93.far ?_ NB0_227.out _ | refine IsS93.far ?_ NB0_228.out _ | refine IsS93.far ?_ NB0_232.out _ | refine IsS93.far ?_ NB0_236.out _ | refine IsS93.far ?_ NB0_240.out _ | refine IsS93.far ?_ NB0_244.out _) | exact HI0.out), by repeat (first | (with_reducible first | exact HB.out | apply below_alloc | apply pw_below_drewN | apply below_drew1 | refine below_set ?_ (IsS93.ge HI0.out) | refine below_set ?_ GE225.out | refine below_set ?_ GE226.out | refine below_set ?_ GE227.out | refine below_set ?_ GE228.out | refine below_set ?_ GE232.out | refine below_set ?_ GE236.out | refine below_set ?_ GE240.out | refine below_set ?_ GE244.out) | exact HB.out), by repeat (first | (with_reducible first | exact HK.out | apply KeepBut.set_ | apply keep_drewN | apply keep_drew | apply keep_alloc | refine keep_far ?_ GW225.out _ | refine keep_far ?_ GW226.out _ | refine keep_far ?_ GW227.out _ | refine keep_far ?_ GW228.out _ | refine keep_far ?_ GW232.out _ | refine keep_far ?_ GW236.out _ | refine keep_far ?_ GW240.out _ | refine keep_far ?_ GW244.out _) | exact HK.out)⟩
   ·rw [if_neg c113] at H
    have c113b0 : (t245 == 2) = false := beq_eq_false_iff_ne.mpr c113
    have c113b1 : (t245 != 2) = true := bne_iff_ne.mpr c113
    simp only [Option.some.injEq, Prod.mk.injEq] at H
    obtain ⟨rfl, rfl, rfl, rfl, rfl, rfl, rfl, rfl, rfl⟩ := H
    try go_wp2_with fail
    have n0_ := Aside0.mk (blk_drew BK225.out)
    have n1_ := Aside0.mk (blk_drew BK226.out)
    have n2_ := Aside0.mk (blk_drew BK227.out)
    have n3_ := Aside0.mk (blk_drew BK228.out)
    have n4_ := Aside0.mk (blk_drew BK232.out)
    have n5_ := Aside0.mk (blk_drew BK236.out)
    have n6_ := Aside0.mk (blk_drew BK240.out)
    have n7_ := Aside0.mk (blk_drew BK244.out)
    have n8_ := Aside0.mk (IsS93.drew HI0.out)
    have n9_ := Aside0.mk (keep_drew HK.out)
    have n10_ := Aside0.mk (below_drew1 HB.out)
    clear BK225 BK226 BK227 BK228 BK232 BK236 BK240 BK244 HI0 HK HB
    have BK225 := n0_
    have BK226 := n1_
    have BK227 := n2_
    have BK228 := n3_
    have BK232 := n4_
    have BK236 := n5_
    have BK240 := n6_
    have BK244 := n7_
    have HI0 := n8_
    have HK := n9_
    have HB := n10_
    clear n0_ n1_ n2_ n3_ n4_ n5_ n6_ n7_ n8_ n9_ n10_
    refine start_ (n := 8) (S := fun w' => w'.cell? ⟨gb232, 0, none⟩ = some (.int .i64 t229) ∧ w'.cell? ⟨gb232, 1, none⟩ = some (.int .i64 t230) ∧ w'.cell? ⟨gb236, 0, none⟩ = some (.int .i64 t233) ∧ w'.cell? ⟨gb236, 1, none⟩ = some (.int .i64 t234) ∧ w'.cell? ⟨gb240, 0, none⟩ = some (.int .i64 t237) ∧ w'.cell? ⟨gb240, 1, none⟩ = some (.int .i64 t238) ∧ w'.cell? ⟨gb244, 0, none⟩ = some (.int .i64 t241) ∧ w'.cell? ⟨gb244, 1, none⟩ = some (.int .i64 t242)) (ds := []) #[false,false,false,false,false,false,false,false] (by kernel_rfl) rfl rfl ⟨(blk_cell BK232.out 0).trans rfl, (blk_cell BK232.out 1).trans rfl, (blk_cell BK236.out 0).trans rfl, (blk_cell BK236.out 1).trans rfl, (blk_cell BK240.out 0).trans rfl, (blk_cell BK240.out 1).trans rfl, (blk_cell BK244.out 0).trans rfl, (blk_cell BK244.out 1).trans rfl⟩ (fun hHeld => ?_); refine with_tabW spec_l92Lines.tab12 spec_l92Lines.bits12 (fun HT_ HW_ => ?_)
    generalize w50.drew = w209 at BK225 BK226 BK227 BK228 BK232 BK236 BK240 BK244 HI0 HK HB hHeld ⊢
    refine take_ (i := 0) (N := some 80) (v := ?_) (a' := ?_) #[true,false,false,false,false,false,false,false] rfl rfl (take_ofW HT_.out HW_.out (by kernel_rfl)) (fun _ _ _ h => h) (Or.inl ⟨by rfl, ?_⟩) hHeld ?_ ?_
    rotate_left
    ·rintro w' ⟨s0, s1, s2, s3, s4, s5, s6, s7⟩
     go_simp
     with_reducible rfl
    rotate_left
    ·simp only [Act.put, List.setIfInBounds_toArray, List.set_cons_zero, List.set_cons_succ, i64_w, i32_w]
     rfl
    refine take_ (i := 1) (N := some 81) (v := ?_) (a' := ?_) #[true,true,false,false,false,false,false,false] rfl rfl (take_ofW HT_.out HW_.out (by kernel_rfl)) (fun _ _ _ h => h) (Or.inl ⟨by rfl, ?_⟩) hHeld ?_ ?_
    rotate_left
    ·rintro w' ⟨s0, s1, s2, s3, s4, s5, s6, s7⟩
     go_simp
     with_reducible rfl
    rotate_left
    ·simp only [Act.put, List.setIfInBounds_toArray, List.set_cons_zero, List.set_cons_succ, i64_w, i32_w]
     rfl
    refine take_ (i := 2) (N := some 82) (v := ?_) (a' := ?_) #[true,true,true,false,false,false,false,false] rfl rfl (take_ofW HT_.out HW_.out (by kernel_rfl)) (fun _ _ _ h => h) (Or.inl ⟨by rfl, ?_⟩) hHeld ?_ ?_
    rotate_left
    ·rintro w' ⟨s0, s1, s2, s3, s4, s5, s6, s7⟩
     go_simp
     with_reducible rfl
    rotate_left
    ·simp only [Act.put, List.setIfInBounds_toArray, List.set_cons_zero, List.set_cons_succ, i64_w, i32_w]
     rfl
    refine take_ (i := 3) (N := some 83) (v := ?_) (a' := ?_) #[true,true,true,true,false,false,false,false] rfl rfl (take_ofW HT_.out HW_.out (by kernel_rfl)) (fun _ _ _ h => h) (Or.inl ⟨by rfl, ?_⟩) hHeld ?_ ?_
    rotate_left
    ·rintro w' ⟨s0, s1, s2, s3, s4, s5, s6, s7⟩
     go_simp
     with_reducible rfl
    rotate_left
    ·simp only [Act.put, List.setIfInBounds_toArray, List.set_cons_zero, List.set_cons_succ, i64_w, i32_w]
     rfl
    refine one_ (i := 4) (N := none) #[true,true,true,true,true,false,false,false] rfl rfl (one_of HT_.out (by kernel_rfl)) (by decide) (fun K hK => ?_)
    have hs210 : w209.cell? ⟨gb225, 0, none⟩ = some (.int .i64 0) := (blk_cell BK225.out 0).trans rfl
    have hfs210 := blk_frozen BK225.out 0
    have hns210_1 := NB226_225.out
    have hns210_2 := NB227_225.out
    have hns210_3 := NB228_225.out
    have hns210_4 := NB232_225.out
    have hns210_5 := NB236_225.out
    have hns210_6 := NB240_225.out
    have hns210_7 := NB244_225.out
    have hms210_1 := NB225_226.out
    have hms210_2 := NB225_227.out
    have hms210_3 := NB225_228.out
    have hms210_4 := NB225_232.out
    have hms210_5 := NB225_236.out
    have hms210_6 := NB225_240.out
    have hms210_7 := NB225_244.out
    have hs211 : w209.cell? ⟨gb225, 1, none⟩ = some (.int .i64 0) := (blk_cell BK225.out 1).trans rfl
    have hfs211 := blk_frozen BK225.out 1
    have hns211_1 := NB226_225.out
    have hns211_2 := NB227_225.out
    have hns211_3 := NB228_225.out
    have hns211_4 := NB232_225.out
    have hns211_5 := NB236_225.out
    have hns211_6 := NB240_225.out
    have hns211_7 := NB244_225.out
    have hms211_1 := NB225_226.out
    have hms211_2 := NB225_227.out
    have hms211_3 := NB225_228.out
    have hms211_4 := NB225_232.out
    have hms211_5 := NB225_236.out
    have hms211_6 := NB225_240.out
    have hms211_7 := NB225_244.out
    refine skip_ (w1 := ?_) (by rfl) rfl ?_ ?_
    rotate_left
    ·go_simp
     rfl
    refine hK.out _ _ ⟨((cell_far (p := ⟨gb225, _, none⟩) NB232_225.out _).trans (((cell_far (p := ⟨gb225, _, none⟩) NB232_225.out _).trans (hHeld.1)))), ((cell_far (p := ⟨gb225, _, none⟩) NB232_225.out _).trans (((cell_far (p := ⟨gb225, _, none⟩) NB232_225.out _).trans (hHeld.2.1)))), ((cell_far (p := ⟨gb225, _, none⟩) NB236_225.out _).trans (((cell_far (p := ⟨gb225, _, none⟩) NB236_225.out _).trans (hHeld.2.2.1)))), ((cell_far (p := ⟨gb225, _, none⟩) NB236_225.out _).trans (((cell_far (p := ⟨gb225, _, none⟩) NB236_225.out _).trans (hHeld.2.2.2.1)))), ((cell_far (p := ⟨gb225, _, none⟩) NB240_225.out _).trans (((cell_far (p := ⟨gb225, _, none⟩) NB240_225.out _).trans (hHeld.2.2.2.2.1)))), ((cell_far (p := ⟨gb225, _, none⟩) NB240_225.out _).trans (((cell_far (p := ⟨gb225, _, none⟩) NB240_225.out _).trans (hHeld.2.2.2.2.2.1)))), ((cell_far (p := ⟨gb225, _, none⟩) NB244_225.out _).trans (((cell_far (p := ⟨gb225, _, none⟩) NB244_225.out _).trans (hHeld.2.2.2.2.2.2.1)))), ((cell_far (p := ⟨gb225, _, none⟩) NB244_225.out _).trans (((cell_far (p := ⟨gb225, _, none⟩) NB244_225.out _).trans (hHeld.2.2.2.2.2.2.2))))⟩ (fun hHeld => ?_)
    clear hK K
    refine one_ (i := 5) (N := none) #[true,true,true,true,true,true,false,false] rfl rfl (one_of HT_.out (by kernel_rfl)) (by decide) (fun K hK => ?_)
    have hs212 : w209.cell? ⟨gb226, 0, none⟩ = some (.int .i64 0) := (blk_cell BK226.out 0).trans rfl
    have hfs212 := blk_frozen BK226.out 0
    have hns212_0 := NB225_226.out
    have hns212_2 := NB227_226.out
    have hns212_3 := NB228_226.out
    have hns212_4 := NB232_226.out
    have hns212_5 := NB236_226.out
    have hns212_6 := NB240_226.out
    have hns212_7 := NB244_226.out
    have hms212_0 := NB226_225.out
    have hms212_2 := NB226_227.out
    have hms212_3 := NB226_228.out
    have hms212_4 := NB226_232.out
    have hms212_5 := NB226_236.out
    have hms212_6 := NB226_240.out
    have hms212_7 := NB226_244.out
    have hs213 : w209.cell? ⟨gb226, 1, none⟩ = some (.int .i64 0) := (blk_cell BK226.out 1).trans rfl
    have hfs213 := blk_frozen BK226.out 1
    have hns213_0 := NB225_226.out
    have hns213_2 := NB227_226.out
    have hns213_3 := NB228_226.out
    have hns213_4 := NB232_226.out
    have hns213_5 := NB236_226.out
    have hns213_6 := NB240_226.out
    have hns213_7 := NB244_226.out
    have hms213_0 := NB226_225.out
    have hms213_2 := NB226_227.out
    have hms213_3 := NB226_228.out
    have hms213_4 := NB226_232.out
    have hms213_5 := NB226_236.out
    have hms213_6 := NB226_240.out
    have hms213_7 := NB226_244.out
    refine skip_ (w1 := ?_) (by rfl) rfl ?_ ?_
    rotate_left
    ·go_simp
     rfl
    refine hK.out _ _ ⟨((cell_far (p := ⟨gb226, _, none⟩) NB232_226.out _).trans (((cell_far (p := ⟨gb226, _, none⟩) NB232_226.out _).trans (hHeld.1)))), ((cell_far (p := ⟨gb226, _, none⟩) NB232_226.out _).trans (((cell_far (p := ⟨gb226, _, none⟩) NB232_226.out _).trans (hHeld.2.1)))), ((cell_far (p := ⟨gb226, _, none⟩) NB236_226.out _).trans (((cell_far (p := ⟨gb226, _, none⟩) NB236_226.out _).trans (hHeld.2.2.1)))), ((cell_far (p := ⟨gb226, _, none⟩) NB236_226.out _).trans (((cell_far (p := ⟨gb226, _, none⟩) NB236_226.out _).trans (hHeld.2.2.2.1)))), ((cell_far (p := ⟨gb226, _, none⟩) NB240_226.out _).trans (((cell_far (p := ⟨gb226, _, none⟩) NB240_226.out _).trans (hHeld.2.2.2.2.1)))), ((cell_far (p := ⟨gb226, _, none⟩) NB240_226.out _).trans (((cell_far (p := ⟨gb226, _, none⟩) NB240_226.out _).trans (hHeld.2.2.2.2.2.1)))), ((cell_far (p := ⟨gb226, _, none⟩) NB244_226.out _).trans (((cell_far (p := ⟨gb226, _, none⟩) NB244_226.out _).trans (hHeld.2.2.2.2.2.2.1)))), ((cell_far (p := ⟨gb226, _, none⟩) NB244_226.out _).trans (((cell_far (p := ⟨gb226, _, none⟩) NB244_226.out _).trans (hHeld.2.2.2.2.2.2.2))))⟩ (fun hHeld => ?_)
    clear hK K
    refine one_ (i := 6) (N := none) #[true,true,true,true,true,true,true,false] rfl rfl (one_of HT_.out (by kernel_rfl)) (by decide) (fun K hK => ?_)
    have hs214 : w209.cell? ⟨gb227, 0, none⟩ = some (.int .i64 0) := (blk_cell BK227.out 0).trans rfl
    have hfs214 := blk_frozen BK227.out 0
    have hns214_0 := NB225_227.out
    have hns214_1 := NB226_227.out
    have hns214_3 := NB228_227.out
    have hns214_4 := NB232_227.out
    have hns214_5 := NB236_227.out
    have hns214_6 := NB240_227.out
    have hns214_7 := NB244_227.out
    have hms214_0 := NB227_225.out
    have hms214_1 := NB227_226.out
    have hms214_3 := NB227_228.out
    have hms214_4 := NB227_232.out
    have hms214_5 := NB227_236.out
    have hms214_6 := NB227_240.out
    have hms214_7 := NB227_244.out
    have hs215 : w209.cell? ⟨gb227, 1, none⟩ = some (.int .i64 0) := (blk_cell BK227.out 1).trans rfl
    have hfs215 := blk_frozen BK227.out 1
    have hns215_0 := NB225_227.out
    have hns215_1 := NB226_227.out
    have hns215_3 := NB228_227.out
    have hns215_4 := NB232_227.out
    have hns215_5 := NB236_227.out
    have hns215_6 := NB240_227.out
    have hns215_7 := NB244_227.out
    have hms215_0 := NB227_225.out
    have hms215_1 := NB227_226.out
    have hms215_3 := NB227_228.out
    have hms215_4 := NB227_232.out
    have hms215_5 := NB227_236.out
    have hms215_6 := NB227_240.out
    have hms215_7 := NB227_244.out
    refine skip_ (w1 := ?_) (by rfl) rfl ?_ ?_
    rotate_left
    ·go_simp
     rfl
    refine hK.out _ _ ⟨((cell_far (p := ⟨gb227, _, none⟩) NB232_227.out _).trans (((cell_far (p := ⟨gb227, _, none⟩) NB232_227.out _).trans (hHeld.1)))), ((cell_far (p := ⟨gb227, _, none⟩) NB232_227.out _).trans (((cell_far (p := ⟨gb227, _, none⟩) NB232_227.out _).trans (hHeld.2.1)))), ((cell_far (p := ⟨gb227, _, none⟩) NB236_227.out _).trans (((cell_far (p := ⟨gb227, _, none⟩) NB236_227.out _).trans (hHeld.2.2.1)))), ((cell_far (p := ⟨gb227, _, none⟩) NB236_227.out _).trans (((cell_far (p := ⟨gb227, _, none⟩) NB236_227.out _).trans (hHeld.2.2.2.1)))), ((cell_far (p := ⟨gb227, _, none⟩) NB240_227.out _).trans (((cell_far (p := ⟨gb227, _, none⟩) NB240_227.out _).trans (hHeld.2.2.2.2.1)))), ((cell_far (p := ⟨gb227, _, none⟩) NB240_227.out _).trans (((cell_far (p := ⟨gb227, _, none⟩) NB240_227.out _).trans (hHeld.2.2.2.2.2.1)))), ((cell_far (p := ⟨gb227, _, none⟩) NB244_227.out _).trans (((cell_far (p := ⟨gb227, _, none⟩) NB244_227.out _).trans (hHeld.2.2.2.2.2.2.1)))), ((cell_far (p := ⟨gb227, _, none⟩) NB244_227.out _).trans (((cell_far (p := ⟨gb227, _, none⟩) NB244_227.out _).trans (hHeld.2.2.2.2.2.2.2))))⟩ (fun hHeld => ?_)
    clear hK K
    refine one_ (i := 7) (N := none) #[true,true,true,true,true,true,true,true] rfl rfl (one_of HT_.out (by kernel_rfl)) (by decide) (fun K hK => ?_)
    have hs216 : w209.cell? ⟨gb228, 0, none⟩ = some (.int .i64 0) := (blk_cell BK228.out 0).trans rfl
    have hfs216 := blk_frozen BK228.out 0
    have hns216_0 := NB225_228.out
    have hns216_1 := NB226_228.out
    have hns216_2 := NB227_228.out
    have hns216_4 := NB232_228.out
    have hns216_5 := NB236_228.out
    have hns216_6 := NB240_228.out
    have hns216_7 := NB244_228.out
    have hms216_0 := NB228_225.out
    have hms216_1 := NB228_226.out
    have hms216_2 := NB228_227.out
    have hms216_4 := NB228_232.out
    have hms216_5 := NB228_236.out
    have hms216_6 := NB228_240.out
    have hms216_7 := NB228_244.out
    have hs217 : w209.cell? ⟨gb228, 1, none⟩ = some (.int .i64 0) := (blk_cell BK228.out 1).trans rfl
    have hfs217 := blk_frozen BK228.out 1
    have hns217_0 := NB225_228.out
    have hns217_1 := NB226_228.out
    have hns217_2 := NB227_228.out
    have hns217_4 := NB232_228.out
    have hns217_5 := NB236_228.out
    have hns217_6 := NB240_228.out
    have hns217_7 := NB244_228.out
    have hms217_0 := NB228_225.out
    have hms217_1 := NB228_226.out
    have hms217_2 := NB228_227.out
    have hms217_4 := NB228_232.out
    have hms217_5 := NB228_236.out
    have hms217_6 := NB228_240.out
    have hms217_7 := NB228_244.out
    refine skip_ (w1 := ?_) (by rfl) rfl ?_ ?_
    rotate_left
    ·go_simp
     rfl
    refine hK.out _ _ ⟨((cell_far (p := ⟨gb228, _, none⟩) NB232_228.out _).trans (((cell_far (p := ⟨gb228, _, none⟩) NB232_228.out _).trans (hHeld.1)))), ((cell_far (p := ⟨gb228, _, none⟩) NB232_228.out _).trans (((cell_far (p := ⟨gb228, _, none⟩) NB232_228.out _).trans (hHeld.2.1)))), ((cell_far (p := ⟨gb228, _, none⟩) NB236_228.out _).trans (((cell_far (p := ⟨gb228, _, none⟩) NB236_228.out _).trans (hHeld.2.2.1)))), ((cell_far (p := ⟨gb228, _, none⟩) NB236_228.out _).trans (((cell_far (p := ⟨gb228, _, none⟩) NB236_228.out _).trans (hHeld.2.2.2.1)))), ((cell_far (p := ⟨gb228, _, none⟩) NB240_228.out _).trans (((cell_far (p := ⟨gb228, _, none⟩) NB240_228.out _).trans (hHeld.2.2.2.2.1)))), ((cell_far (p := ⟨gb228, _, none⟩) NB240_228.out _).trans (((cell_far (p := ⟨gb228, _, none⟩) NB240_228.out _).trans (hHeld.2.2.2.2.2.1)))), ((cell_far (p := ⟨gb228, _, none⟩) NB244_228.out _).trans (((cell_far (p := ⟨gb228, _, none⟩) NB244_228.out _).trans (hHeld.2.2.2.2.2.2.1)))), ((cell_far (p := ⟨gb228, _, none⟩) NB244_228.out _).trans (((cell_far (p := ⟨gb228, _, none⟩) NB244_228.out _).trans (hHeld.2.2.2.2.2.2.2))))⟩ (fun hHeld => ?_)
    clear hK K
    refine done_ (done_of HT_.out (by kernel_rfl)) ?_
    try go_wp2
    refine bodyPost_ret (results_list (rs := [.cell 2 33, .cell 3 33, .cell 4 33, .cell 5 33]) rfl (by simp) (.cell gb225 33 #[.int .i64 t229, .int .i64 t230] (0, 0) _ rfl (by (with_reducible repeat (first | refine blk_drewN ?_ _ | refine blk_drew ?_ | refine blk_alloc ?_ _)); refine blk_far ?_ NB225_228.out _; (with_reducible repeat (first | refine blk_drewN ?_ _ | refine blk_drew ?_ | refine blk_alloc ?_ _)); refine blk_far ?_ NB225_228.out _; (with_reducible repeat (first | refine blk_drewN ?_ _ | refine blk_drew ?_ | refine blk_alloc ?_ _)); refine blk_far ?_ NB225_227.out _; (with_reducible repeat (first | refine blk_drewN ?_ _ | refine blk_drew ?_ | refine blk_alloc ?_ _)); refine blk_far ?_ NB225_227.out _; (with_reducible repeat (first | refine blk_drewN ?_ _ | refine blk_drew ?_ | refine blk_alloc ?_ _)); refine blk_far ?_ NB225_226.out _; (with_reducible repeat (first | refine blk_drewN ?_ _ | refine blk_drew ?_ | refine blk_alloc ?_ _)); refine blk_far ?_ NB225_226.out _; (with_reducible repeat (first | refine blk_drewN ?_ _ | refine blk_drew ?_ | refine blk_alloc ?_ _)); refine blk_put (cs := #[.int .i64 t229, .int .i64 0]) ?_ 1 _ rfl; (with_reducible repeat (first | refine blk_drewN ?_ _ | refine blk_drew ?_ | refine blk_alloc ?_ _)); refine blk_put (cs := #[.int .i64 0, .int .i64 0]) ?_ 0 _ rfl; (with_reducible repeat (first | refine blk_drewN ?_ _ | refine blk_drew ?_ | refine blk_alloc ?_ _)); exact BK225.out) Try.underlying33 rfl (by kernel_rfl) (.cell gb226 33 #[.int .i64 t233, .int .i64 t234] (0, 0) _ rfl (by (with_reducible repeat (first | refine blk_drewN ?_ _ | refine blk_drew ?_ | refine blk_alloc ?_ _)); refine blk_far ?_ NB226_228.out _; (with_reducible repeat (first | refine blk_drewN ?_ _ | refine blk_drew ?_ | refine blk_alloc ?_ _)); refine blk_far ?_ NB226_228.out _; (with_reducible repeat (first | refine blk_drewN ?_ _ | refine blk_drew ?_ | refine blk_alloc ?_ _)); refine blk_far ?_ NB226_227.out _; (with_reducible repeat (first | refine blk_drewN ?_ _ | refine blk_drew ?_ | refine blk_alloc ?_ _)); refine blk_far ?_ NB226_227.out _; (with_reducible repeat (first | refine blk_drewN ?_ _ | refine blk_drew ?_ | refine blk_alloc ?_ _)); refine blk_put (cs := #[.int .i64 t233, .int .i64 0]) ?_ 1 _ rfl; (with_reducible repeat (first | refine blk_drewN ?_ _ | refine blk_drew ?_ | refine blk_alloc ?_ _)); refine blk_put (cs := #[.int .i64 0, .int .i64 0]) ?_ 0 _ rfl; (with_reducible repeat (first | refine blk_drewN ?_ _ | refine blk_drew ?_ | refine blk_alloc ?_ _)); refine blk_far ?_ NB226_225.out _; (with_reducible repeat (first | refine blk_drewN ?_ _ | refine blk_drew ?_ | refine blk_alloc ?_ _)); refine blk_far ?_ NB226_225.out _; (with_reducible repeat (first | refine blk_drewN ?_ _ | refine blk_drew ?_ | refine blk_alloc ?_ _)); exact BK226.out) Try.underlying33 rfl (by kernel_rfl) (.cell gb227 33 #[.int .i64 t237, .int .i64 t238] (0, 0) _ rfl (by (with_reducible repeat (first | refine blk_drewN ?_ _ | refine blk_drew ?_ | refine blk_alloc ?_ _)); refine blk_far ?_ NB227_228.out _; (with_reducible repeat (first | refine blk_drewN ?_ _ | refine blk_drew ?_ | refine blk_alloc ?_ _)); refine blk_far ?_ NB227_228.out _; (with_reducible repeat (first | refine blk_drewN ?_ _ | refine blk_drew ?_ | refine blk_alloc ?_ _)); refine blk_put (cs := #[.int .i64 t237, .int .i64 0]) ?_ 1 _ rfl; (with_reducible repeat (first | refine blk_drewN ?_ _ | refine blk_drew ?_ | refine blk_alloc ?_ _)); refine blk_put (cs := #[.int .i64 0, .int .i64 0]) ?_ 0 _ rfl; (with_reducible repeat (first | refine blk_drewN ?_ _ | refine blk_drew ?_ | refine blk_alloc ?_ _)); refine blk_far ?_ NB227_226.out _; (with_reducible repeat (first | refine blk_drewN ?_ _ | refine blk_drew ?_ | refine blk_alloc ?_ _)); refine blk_far ?_ NB227_226.out _; (with_reducible repeat (first | refine blk_drewN ?_ _ | refine blk_drew ?_ | refine blk_alloc ?_ _)); refine blk_far ?_ NB227_225.out _; (with_reducible repeat (first | refine blk_drewN ?_ _ | refine blk_drew ?_ | refine blk_alloc ?_ _)); refine blk_far ?_ NB227_225.out _; (with_reducible repeat (first | refine blk_drewN ?_ _ | refine blk_drew ?_ | refine blk_alloc ?_ _)); exact BK227.out) Try.underlying33 rfl (by kernel_rfl) (.cell gb228 33 #[.int .i64 t241, .int .i64 t242] (0, 0) _ rfl (by (with_reducible repeat (first | refine blk_drewN ?_ _ | refine blk_drew ?_ | refine blk_alloc ?_ _)); refine blk_put (cs := #[.int .i64 t241, .int .i64 0]) ?_ 1 _ rfl; (with_reducible repeat (first | refine blk_drewN ?_ _ | refine blk_drew ?_ | refine blk_alloc ?_ _)); refine blk_put (cs := #[.int .i64 0, .int .i64 0]) ?_ 0 _ rfl; (with_reducible repeat (first | refine blk_drewN ?_ _ | refine blk_drew ?_ | refine blk_alloc ?_ _)); refine blk_far ?_ NB228_227.out _; (with_reducible repeat (first | refine blk_drewN ?_ _ | refine blk_drew ?_ | refine blk_alloc ?_ _)); refine blk_far ?_ NB228_227.out _; (with_reducible repeat (first | refine blk_drewN ?_ _ | refine blk_drew ?_ | refine blk_alloc ?_ _)); refine blk_far ?_ NB228_226.out _; (with_reducible repeat (first | refine blk_drewN ?_ _ | refine blk_drew ?_ | refine blk_alloc ?_ _)); refine blk_far ?_ NB228_226.out _; (with_reducible repeat (first | refine blk_drewN ?_ _ | refine blk_drew ?_ | refine blk_alloc ?_ _)); refine blk_far ?_ NB228_225.out _; (with_reducible repeat (first | refine blk_drewN ?_ _ | refine blk_drew ?_ | refine blk_alloc ?_ _)); refine blk_far ?_ NB228_225.out _; (with_reducible repeat (first | refine blk_drewN ?_ _ | refine blk_drew ?_ | refine blk_alloc ?_ _)); exact BK228.out) Try.underlying33 rfl (by kernel_rfl) .nil))))) rfl ?_
    exact ⟨er, by repeat (first | (with_reducible first | exact HI0.out | apply IsS93.alloc | apply IsS93.drewN | apply IsS93.drew | apply IsS93.set_1 | refine IsS93.far ?_ NB0_225.out _ | refine IsS93.far ?_ NB0_226.out _ | refine IsS93.far ?_ NB0_227.out _ | refine IsS93.far ?_ NB0_228.out _ | refine IsS93.far ?_ NB0_232.out _ | refine IsS93.far ?_ NB0_236.out _ | refine IsS93.far ?_ NB0_240.out _ | refine IsS93.far ?_ NB0_244.out _) | exact HI0.out), by repeat (first | (with_reducible first | exact HB.out | apply below_alloc | apply pw_below_drewN | apply below_drew1 | refine below_set ?_ (IsS93.ge HI0.out) | refine below_set ?_ GE225.out | refine below_set ?_ GE226.out | refine below_set ?_ GE227.out | refine below_set ?_ GE228.out | refine below_set ?_ GE232.out | refine below_set ?_ GE236.out | refine below_set ?_ GE240.out | refine below_set ?_ GE244.out) | exact HB.out), by repeat (first | (with_reducible first | exact HK.out | apply KeepBut.set_ | apply keep_drewN | apply keep_drew | apply keep_alloc | refine keep_far ?_ GW225.out _ | refine keep_far ?_ GW226.out _ | refine keep_far ?_ GW227.out _ | refine keep_far ?_ GW228.out _ | refine keep_far ?_ GW232.out _ | refine keep_far ?_ GW236.out _ | refine keep_far ?_ GW240.out _ | refine keep_far ?_ GW244.out _) | exact HK.out)⟩
def spec_DrawCrossInner.f (k : Nat) (l0 : List Int) : Option (Int × Int × Int × Int × Int × Int × Int × Int) := (spec_l6Open.f l0).bind fun bt251 => ((spec_l92Lines.f k bt251.1 bt251.2).bind fun bt254 => (some (bt254.1, bt254.2.1, bt254.2.2.1, bt254.2.2.2.1, bt254.2.2.2.2.1, bt254.2.2.2.2.2.1, bt254.2.2.2.2.2.2.1, bt254.2.2.2.2.2.2.2.1)))
theorem spec_DrawCrossInner.mono : ∀ a0 k, LeO (spec_DrawCrossInner.f k a0) (spec_DrawCrossInner.f (k + 1) a0) := by
 intro a0 k
 unfold spec_DrawCrossInner.f
 repeat' first
   | (with_reducible exact spec_l92Lines.mono _ _ _)
   | (with_reducible exact LeO.refl _)
   | (with_reducible exact LeO.none _)
   | (with_reducible refine LeO.ite ?_ ?_)
   | (with_reducible refine LeO.bind ?_ (fun _ => ?_))
   | exact spec_l92Lines.mono _ _ _
   | exact LeO.none _
   | refine LeO.ite ?_ ?_
   | refine LeO.bind ?_ (fun _ => ?_)
set_option maxHeartbeats 8000000 in
set_option maxRecDepth 100000 in
theorem spec_DrawCrossInner.calls (k : Nat) (A0 : Option Addr) (c0 : Nat) (l0 : List Int) (r1 : Int) (r2 : Int) (r3 : Int) (r4 : Int) (r5 : Int) (r6 : Int) (r7 : Int) (r8 : Int) (w : World) (hr0 : Kd.C (Kd.int .u8) w A0 l0.length l0) (hc0 : l0.length ≤ c0) (h : spec_DrawCrossInner.f k l0 = some (r1, r2, r3, r4, r5, r6, r7, r8)) :
  Calls Try.prog 27 #[.slice A0 l0.length c0] w fun e w' => e = .returned (.tuple #[.agg #[.int .i64 r1, .int .i64 r2], .agg #[.int .i64 r3, .int .i64 r4], .agg #[.int .i64 r5, .int .i64 r6], .agg #[.int .i64 r7, .int .i64 r8]]) ∧ Below w.heap.size w w' := by
 have hu33 := Try.underlying33
 have HR0 := Aside0.mk hr0
 have HC0 := Aside0.mk hc0
 clear hr0 hc0
 have HB := Aside0.mk (Below.refl w.heap.size w)
 have H : ((spec_l6Open.f l0).bind fun bt251 => ((spec_l92Lines.f k bt251.1 bt251.2).bind fun bt254 => (some (bt254.1, bt254.2.1, bt254.2.2.1, bt254.2.2.2.1, bt254.2.2.2.2.1, bt254.2.2.2.2.2.1, bt254.2.2.2.2.2.2.1, bt254.2.2.2.2.2.2.2.1)))) = some (r1, r2, r3, r4, r5, r6, r7, r8) := h
 clear h
 replace H := Option.bind_eq_some_iff.mp H
 obtain ⟨⟨t251, t252⟩, A20, H⟩ := H
 replace H : ((spec_l92Lines.f k t251 t252).bind fun bt254 => (some (bt254.1, bt254.2.1, bt254.2.2.1, bt254.2.2.2.1, bt254.2.2.2.2.1, bt254.2.2.2.2.2.1, bt254.2.2.2.2.2.2.1, bt254.2.2.2.2.2.2.2.1))) = some (r1, r2, r3, r4, r5, r6, r7, r8) := H
 have A2 := Aside0.mk A20
 clear A20
 replace H := Option.bind_eq_some_iff.mp H
 obtain ⟨⟨t254, t255, t256, t257, t258, t259, t260, t261, t262⟩, A30, H⟩ := H
 replace H : (some (t254, t255, t256, t257, t258, t259, t260, t261)) = some (r1, r2, r3, r4, r5, r6, r7, r8) := H
 have A3 := Aside0.mk A30
 clear A30
 simp only [Option.some.injEq, Prod.mk.injEq] at H
 obtain ⟨rfl, rfl, rfl, rfl, rfl, rfl, rfl, rfl⟩ := H
 go_enter Try.func27, Try.ntmps27
 go_wp2_with (first | ((with_reducible refine gate_dst (N := 2) rfl ?_); refine box_event ?hg (N := 2) ?hd (cs := #[.int .i64 0, .int .i64 0]) (t := 33) ?hr ?_; (case hd => rfl); (case hg => rfl); (case hr => first | (go_simp; done) | (go_simp; rfl)); intro gb247 hg w4 hbox hb; have n0_ := Aside0.mk (below_step (lb HB.out) hb); have n1_ := Aside0.mk (hbox); have n2_ := Aside0.mk ((by rw [hg]; exact (below_size (lb HB.out)) : w.heap.size ≤ gb247)); have n3_ := Aside0.mk ((by rw [hg]; exact (below_size (lb HB.out)) : w.heap.size ≤ gb247)); clear HB; have HB := n0_; have BK247 := n1_; have GW247 := n2_; have GE247 := n3_; clear n0_ n1_ n2_ n3_; clear hb hbox hg) | ((with_reducible refine gate_dst (N := 3) rfl ?_); refine box_event ?hg (N := 3) ?hd (cs := #[.int .i64 0, .int .i64 0]) (t := 33) ?hr ?_; (case hd => rfl); (case hg => rfl); (case hr => first | (go_simp; done) | (go_simp; rfl)); intro gb248 hg w5 hbox hb; have n0_ := Aside0.mk (blk_below (bf BK247.out) hb); have n1_ := Aside0.mk (below_step (lb HB.out) hb); have n2_ := Aside0.mk (hbox); have n3_ := Aside0.mk ((by rw [hg]; exact (below_size (lb HB.out)) : w.heap.size ≤ gb248)); have n4_ := Aside0.mk ((by rw [hg]; exact (below_size (lb HB.out)) : w.heap.size ≤ gb248)); have n5_ := Aside0.mk ((by rw [hg]; exact Nat.ne_of_lt (blk_lt (bf BK247.out)) : gb247 ≠ gb248)); have n6_ := Aside0.mk ((by rw [hg]; exact Nat.ne_of_gt (blk_lt (bf BK247.out)) : gb248 ≠ gb247)); clear BK247; clear HB; have BK247 := n0_; have HB := n1_; have BK248 := n2_; have GW248 := n3_; have GE248 := n4_; have NB247_248 := n5_; have NB248_247 := n6_; clear n0_ n1_ n2_ n3_ n4_ n5_ n6_; clear hb hbox hg) | ((with_reducible refine gate_dst (N := 4) rfl ?_); refine box_event ?hg (N := 4) ?hd (cs := #[.int .i64 0, .int .i64 0]) (t := 33) ?hr ?_; (case hd => rfl); (case hg => rfl); (case hr => first | (go_simp; done) | (go_simp; rfl)); intro gb249 hg w6 hbox hb; have n0_ := Aside0.mk (blk_below (bf BK247.out) hb); have n1_ := Aside0.mk (blk_below (bf BK248.out) hb); have n2_ := Aside0.mk (below_step (lb HB.out) hb); have n3_ := Aside0.mk (hbox); have n4_ := Aside0.mk ((by rw [hg]; exact (below_size (lb HB.out)) : w.heap.size ≤ gb249)); have n5_ := Aside0.mk ((by rw [hg]; exact (below_size (lb HB.out)) : w.heap.size ≤ gb249)); have n6_ := Aside0.mk ((by rw [hg]; exact Nat.ne_of_lt (blk_lt (bf BK247.out)) : gb247 ≠ gb249)); have n7_ := Aside0.mk ((by rw [hg]; exact Nat.ne_of_gt (blk_lt (bf BK247.out)) : gb249 ≠ gb247)); have n8_ := Aside0.mk ((by rw [hg]; exact Nat.ne_of_lt (blk_lt (bf BK248.out)) : gb248 ≠ gb249)); have n9_ := Aside0.mk ((by rw [hg]; exact Nat.ne_of_gt (blk_lt (bf BK248.out)) : gb249 ≠ gb248)); clear BK247; clear BK248; clear HB; have BK247 := n0_; have BK248 := n1_; have HB := n2_; have BK249 := n3_; have GW249 := n4_; have GE249 := n5_; have NB247_249 := n6_; have NB249_247 := n7_; have NB248_249 := n8_; have NB249_248 := n9_; clear n0_ n1_ n2_ n3_ n4_ n5_ n6_ n7_ n8_ n9_; clear hb hbox hg) | ((with_reducible refine gate_dst (N := 5) rfl ?_); refine box_event ?hg (N := 5) ?hd (cs := #[.int .i64 0, .int .i64 0]) (t := 33) ?hr ?_; (case hd => rfl); (case hg => rfl); (case hr => first | (go_simp; done) | (go_simp; rfl)); intro gb250 hg w7 hbox hb; have n0_ := Aside0.mk (blk_below (bf BK247.out) hb); have n1_ := Aside0.mk (blk_below (bf BK248.out) hb); have n2_ := Aside0.mk (blk_below (bf BK249.out) hb); have n3_ := Aside0.mk (below_step (lb HB.out) hb); have n4_ := Aside0.mk (hbox); have n5_ := Aside0.mk ((by rw [hg]; exact (below_size (lb HB.out)) : w.heap.size ≤ gb250)); have n6_ := Aside0.mk ((by rw [hg]; exact (below_size (lb HB.out)) : w.heap.size ≤ gb250)); have n7_ := Aside0.mk ((by rw [hg]; exact Nat.ne_of_lt (blk_lt (bf BK247.out)) : gb247 ≠ gb250)); have n8_ := Aside0.mk ((by rw [hg]; exact Nat.ne_of_gt (blk_lt (bf BK247.out)) : gb250 ≠ gb247)); have n9_ := Aside0.mk ((by rw [hg]; exact Nat.ne_of_lt (blk_lt (bf BK248.out)) : gb248 ≠ gb250)); have n10_ := Aside0.mk ((by rw [hg]; exact Nat.ne_of_gt (blk_lt (bf BK248.out)) : gb250 ≠ gb248)); have n11_ := Aside0.mk ((by rw [hg]; exact Nat.ne_of_lt (blk_lt (bf BK249.out)) : gb249 ≠ gb250)); have n12_ := Aside0.mk ((by rw [hg]; exact Nat.ne_of_gt (blk_lt (bf BK249.out)) : gb250 ≠ gb249)); clear BK247; clear BK248; clear BK249; clear HB; have BK247 := n0_; have BK248 := n1_; have BK249 := n2_; have HB := n3_; have BK250 := n4_; have GW250 := n5_; have GE250 := n6_; have NB247_250 := n7_; have NB250_247 := n8_; have NB248_250 := n9_; have NB250_248 := n10_; have NB249_250 := n11_; have NB250_249 := n12_; clear n0_ n1_ n2_ n3_ n4_ n5_ n6_ n7_ n8_ n9_ n10_ n11_ n12_; clear hb hbox hg) | ((with_reducible refine gate_callee (f := 34) rfl ?_); refine goesL_ (some 7) rfl rfl Try.func34 (by kernel_rfl) rfl #[.slice A0 l0.length c0] rfl al ?_; (with_reducible refine (spec_l6Open.calls _ _ l0 t251 t252 w _ ?side1 ?side2 ?side3 A2.out).mono ?_); (case side1 => repeat (first | (with_reducible first | exact HB.out | apply below_alloc | apply pw_below_drewN | apply below_drew1 | refine below_set ?_ GE247.out | refine below_set ?_ GE248.out | refine below_set ?_ GE249.out | refine below_set ?_ GE250.out) | exact HB.out)); (case side2 => exact HR0.out); (case side3 => exact HC0.out); rintro e w8 ⟨g253, rfl, hi, hb, hb2⟩; refine ⟨_, rfl, ?_⟩; have n0_ := Aside0.mk (blk_below (bf BK247.out) hb2); have n1_ := Aside0.mk (blk_below (bf BK248.out) hb2); have n2_ := Aside0.mk (blk_below (bf BK249.out) hb2); have n3_ := Aside0.mk (blk_below (bf BK250.out) hb2); have n4_ := Aside0.mk (hb); have n5_ := Aside0.mk (hi); have n6_ := Aside0.mk (IsS93.ne_blk hi (blk_below (bf BK247.out) hb2) (by decide)); have n7_ := Aside0.mk (Ne.symm (IsS93.ne_blk hi (blk_below (bf BK247.out) hb2) (by decide))); have n8_ := Aside0.mk (IsS93.ne_blk hi (blk_below (bf BK248.out) hb2) (by decide)); have n9_ := Aside0.mk (Ne.symm (IsS93.ne_blk hi (blk_below (bf BK248.out) hb2) (by decide))); have n10_ := Aside0.mk (IsS93.ne_blk hi (blk_below (bf BK249.out) hb2) (by decide)); have n11_ := Aside0.mk (Ne.symm (IsS93.ne_blk hi (blk_below (bf BK249.out) hb2) (by decide))); have n12_ := Aside0.mk (IsS93.ne_blk hi (blk_below (bf BK250.out) hb2) (by decide)); have n13_ := Aside0.mk (Ne.symm (IsS93.ne_blk hi (blk_below (bf BK250.out) hb2) (by decide))); clear BK247; clear BK248; clear BK249; clear BK250; clear HB; have BK247 := n0_; have BK248 := n1_; have BK249 := n2_; have BK250 := n3_; have HB := n4_; have HI253 := n5_; have NB253_247 := n6_; have NB247_253 := n7_; have NB253_248 := n8_; have NB248_253 := n9_; have NB253_249 := n10_; have NB249_253 := n11_; have NB253_250 := n12_; have NB250_253 := n13_; clear n0_ n1_ n2_ n3_ n4_ n5_ n6_ n7_ n8_ n9_ n10_ n11_ n12_ n13_; (try clear hb); (try clear hb2); (try clear hk); (try clear hi)) | ((with_reducible refine gate_callee (f := 57) rfl ?_); refine goesL_ (some 8) rfl rfl Try.func57 (by kernel_rfl) rfl #[.pointer (some ⟨g253, 0, none⟩)] rfl al ?_; (with_reducible refine (spec_l92Lines.calls k g253 t251 t252 t254 t255 t256 t257 t258 t259 t260 t261 t262 w _ ?side1 ?side2 A3.out).mono ?_); (case side1 => repeat (first | (with_reducible first | exact HI253.out | apply IsS93.alloc | apply IsS93.drewN | apply IsS93.drew | apply IsS93.set_1 | refine IsS93.far ?_ NB253_247.out _ | refine IsS93.far ?_ NB253_248.out _ | refine IsS93.far ?_ NB253_249.out _ | refine IsS93.far ?_ NB253_250.out _) | exact HI253.out)); (case side2 => repeat (first | (with_reducible first | exact HB.out | apply below_alloc | apply pw_below_drewN | apply below_drew1 | refine below_set ?_ (IsS93.ge HI253.out) | refine below_set ?_ GE247.out | refine below_set ?_ GE248.out | refine below_set ?_ GE249.out | refine below_set ?_ GE250.out) | exact HB.out)); rintro e w9 ⟨rfl, hi, hb, hk⟩; refine ⟨_, rfl, ?_⟩; have n0_ := Aside0.mk (KeepBut.blk hk (g' := gb247) (o := .cells #[.int .i64 0, .int .i64 0] 33 (0, 0)) (bf BK247.out) NB247_253.out (by simp)); have n1_ := Aside0.mk (KeepBut.blk hk (g' := gb248) (o := .cells #[.int .i64 0, .int .i64 0] 33 (0, 0)) (bf BK248.out) NB248_253.out (by simp)); have n2_ := Aside0.mk (KeepBut.blk hk (g' := gb249) (o := .cells #[.int .i64 0, .int .i64 0] 33 (0, 0)) (bf BK249.out) NB249_253.out (by simp)); have n3_ := Aside0.mk (KeepBut.blk hk (g' := gb250) (o := .cells #[.int .i64 0, .int .i64 0] 33 (0, 0)) (bf BK250.out) NB250_253.out (by simp)); have n4_ := Aside0.mk (hb); have n5_ := Aside0.mk (hi); clear BK247; clear BK248; clear BK249; clear BK250; clear HB; clear HI253; have BK247 := n0_; have BK248 := n1_; have BK249 := n2_; have BK250 := n3_; have HB := n4_; have HI253 := n5_; clear n0_ n1_ n2_ n3_ n4_ n5_; (try clear hb); (try clear hb2); (try clear hk); (try clear hi); have hnb10 := NB247_248.out; have hnc10 := NB248_247.out; have hnb11 := NB247_249.out; have hnc11 := NB249_247.out; have hnb12 := NB247_250.out; have hnc12 := NB250_247.out; have hnb13 := NB247_253.out; have hnc13 := NB253_247.out; have hcz14_0 : w9.cell? ⟨gb247, 0, none⟩ = some (.int .i64 0) := (blk_cell BK247.out 0).trans rfl; have hcz14_1 : w9.cell? ⟨gb247, 1, none⟩ = some (.int .i64 0) := (blk_cell BK247.out 1).trans rfl; have hfz14_0 := blk_frozen BK247.out 0; have hfz14_1 := blk_frozen BK247.out 1; have hnb15 := NB248_249.out; have hnc15 := NB249_248.out; have hnb16 := NB248_250.out; have hnc16 := NB250_248.out; have hnb17 := NB248_253.out; have hnc17 := NB253_248.out; have hcz18_0 : w9.cell? ⟨gb248, 0, none⟩ = some (.int .i64 0) := (blk_cell BK248.out 0).trans rfl; have hcz18_1 : w9.cell? ⟨gb248, 1, none⟩ = some (.int .i64 0) := (blk_cell BK248.out 1).trans rfl; have hfz18_0 := blk_frozen BK248.out 0; have hfz18_1 := blk_frozen BK248.out 1; have hnb19 := NB249_250.out; have hnc19 := NB250_249.out; have hnb20 := NB249_253.out; have hnc20 := NB253_249.out; have hcz21_0 : w9.cell? ⟨gb249, 0, none⟩ = some (.int .i64 0) := (blk_cell BK249.out 0).trans rfl; have hcz21_1 : w9.cell? ⟨gb249, 1, none⟩ = some (.int .i64 0) := (blk_cell BK249.out 1).trans rfl; have hfz21_0 := blk_frozen BK249.out 0; have hfz21_1 := blk_frozen BK249.out 1; have hnb22 := NB250_253.out; have hnc22 := NB253_250.out; have hcz23_0 : w9.cell? ⟨gb250, 0, none⟩ = some (.int .i64 0) := (blk_cell BK250.out 0).trans rfl; have hcz23_1 : w9.cell? ⟨gb250, 1, none⟩ = some (.int .i64 0) := (blk_cell BK250.out 1).trans rfl; have hfz23_0 := blk_frozen BK250.out 0; have hfz23_1 := blk_frozen BK250.out 1))
 refine bodyPost_ret (results_list (rs := [.cell 2 33, .cell 3 33, .cell 4 33, .cell 5 33]) rfl (by simp) (.cell gb247 33 #[.int .i64 t254, .int .i64 t255] (0, 0) _ rfl (by (with_reducible repeat (first | refine blk_drewN ?_ _ | refine blk_drew ?_ | refine blk_alloc ?_ _)); refine blk_far ?_ NB247_250.out _; (with_reducible repeat (first | refine blk_drewN ?_ _ | refine blk_drew ?_ | refine blk_alloc ?_ _)); refine blk_far ?_ NB247_250.out _; (with_reducible repeat (first | refine blk_drewN ?_ _ | refine blk_drew ?_ | refine blk_alloc ?_ _)); refine blk_far ?_ NB247_249.out _; (with_reducible repeat (first | refine blk_drewN ?_ _ | refine blk_drew ?_ | refine blk_alloc ?_ _)); refine blk_far ?_ NB247_249.out _; (with_reducible repeat (first | refine blk_drewN ?_ _ | refine blk_drew ?_ | refine blk_alloc ?_ _)); refine blk_far ?_ NB247_248.out _; (with_reducible repeat (first | refine blk_drewN ?_ _ | refine blk_drew ?_ | refine blk_alloc ?_ _)); refine blk_far ?_ NB247_248.out _; (with_reducible repeat (first | refine blk_drewN ?_ _ | refine blk_drew ?_ | refine blk_alloc ?_ _)); refine blk_put (cs := #[.int .i64 t254, .int .i64 0]) ?_ 1 _ rfl; (with_reducible repeat (first | refine blk_drewN ?_ _ | refine blk_drew ?_ | refine blk_alloc ?_ _)); refine blk_put (cs := #[.int .i64 0, .int .i64 0]) ?_ 0 _ rfl; (with_reducible repeat (first | refine blk_drewN ?_ _ | refine blk_drew ?_ | refine blk_alloc ?_ _)); exact BK247.out) Try.underlying33 rfl (by kernel_rfl) (.cell gb248 33 #[.int .i64 t256, .int .i64 t257] (0, 0) _ rfl (by (with_reducible repeat (first | refine blk_drewN ?_ _ | refine blk_drew ?_ | refine blk_alloc ?_ _)); refine blk_far ?_ NB248_250.out _; (with_reducible repeat (first | refine blk_drewN ?_ _ | refine blk_drew ?_ | refine blk_alloc ?_ _)); refine blk_far ?_ NB248_250.out _; (with_reducible repeat (first | refine blk_drewN ?_ _ | refine blk_drew ?_ | refine blk_alloc ?_ _)); refine blk_far ?_ NB248_249.out _; (with_reducible repeat (first | refine blk_drewN ?_ _ | refine blk_drew ?_ | refine blk_alloc ?_ _)); refine blk_far ?_ NB248_249.out _; (with_reducible repeat (first | refine blk_drewN ?_ _ | refine blk_drew ?_ | refine blk_alloc ?_ _)); refine blk_put (cs := #[.int .i64 t256, .int .i64 0]) ?_ 1 _ rfl; (with_reducible repeat (first | refine blk_drewN ?_ _ | refine blk_drew ?_ | refine blk_alloc ?_ _)); refine blk_put (cs := #[.int .i64 0, .int .i64 0]) ?_ 0 _ rfl; (with_reducible repeat (first | refine blk_drewN ?_ _ | refine blk_drew ?_ | refine blk_alloc ?_ _)); refine blk_far ?_ NB248_247.out _; (with_reducible repeat (first | refine blk_drewN ?_ _ | refine blk_drew ?_ | refine blk_alloc ?_ _)); refine blk_far ?_ NB248_247.out _; (with_reducible repeat (first | refine blk_drewN ?_ _ | refine blk_drew ?_ | refine blk_alloc ?_ _)); exact BK248.out) Try.underlying33 rfl (by kernel_rfl) (.cell gb249 33 #[.int .i64 t258, .int .i64 t259] (0, 0) _ rfl (by (with_reducible repeat (first | refine blk_drewN ?_ _ | refine blk_drew ?_ | refine blk_alloc ?_ _)); refine blk_far ?_ NB249_250.out _; (with_reducible repeat (first | refine blk_drewN ?_ _ | refine blk_drew ?_ | refine blk_alloc ?_ _)); refine blk_far ?_ NB249_250.out _; (with_reducible repeat (first | refine blk_drewN ?_ _ | refine blk_drew ?_ | refine blk_alloc ?_ _)); refine blk_put (cs := #[.int .i64 t258, .int .i64 0]) ?_ 1 _ rfl; (with_reducible repeat (first | refine blk_drewN ?_ _ | refine blk_drew ?_ | refine blk_alloc ?_ _)); refine blk_put (cs := #[.int .i64 0, .int .i64 0]) ?_ 0 _ rfl; (with_reducible repeat (first | refine blk_drewN ?_ _ | refine blk_drew ?_ | refine blk_alloc ?_ _)); refine blk_far ?_ NB249_248.out _; (with_reducible repeat (first | refine blk_drewN ?_ _ | refine blk_drew ?_ | refine blk_alloc ?_ _)); refine blk_far ?_ NB249_248.out _; (with_reducible repeat (first | refine blk_drewN ?_ _ | refine blk_drew ?_ | refine blk_alloc ?_ _)); refine blk_far ?_ NB249_247.out _; (with_reducible repeat (first | refine blk_drewN ?_ _ | refine blk_drew ?_ | refine blk_alloc ?_ _)); refine blk_far ?_ NB249_247.out _; (with_reducible repeat (first | refine blk_drewN ?_ _ | refine blk_drew ?_ | refine blk_alloc ?_ _)); exact BK249.out) Try.underlying33 rfl (by kernel_rfl) (.cell gb250 33 #[.int .i64 t260, .int .i64 t261] (0, 0) _ rfl (by (with_reducible repeat (first | refine blk_drewN ?_ _ | refine blk_drew ?_ | refine blk_alloc ?_ _)); refine blk_put (cs := #[.int .i64 t260, .int .i64 0]) ?_ 1 _ rfl; (with_reducible repeat (first | refine blk_drewN ?_ _ | refine blk_drew ?_ | refine blk_alloc ?_ _)); refine blk_put (cs := #[.int .i64 0, .int .i64 0]) ?_ 0 _ rfl; (with_reducible repeat (first | refine blk_drewN ?_ _ | refine blk_drew ?_ | refine blk_alloc ?_ _)); refine blk_far ?_ NB250_249.out _; (with_reducible repeat (first | refine blk_drewN ?_ _ | refine blk_drew ?_ | refine blk_alloc ?_ _)); refine blk_far ?_ NB250_249.out _; (with_reducible repeat (first | refine blk_drewN ?_ _ | refine blk_drew ?_ | refine blk_alloc ?_ _)); refine blk_far ?_ NB250_248.out _; (with_reducible repeat (first | refine blk_drewN ?_ _ | refine blk_drew ?_ | refine blk_alloc ?_ _)); refine blk_far ?_ NB250_248.out _; (with_reducible repeat (first | refine blk_drewN ?_ _ | refine blk_drew ?_ | refine blk_alloc ?_ _)); refine blk_far ?_ NB250_247.out _; (with_reducible repeat (first | refine blk_drewN ?_ _ | refine blk_drew ?_ | refine blk_alloc ?_ _)); refine blk_far ?_ NB250_247.out _; (with_reducible repeat (first | refine blk_drewN ?_ _ | refine blk_drew ?_ | refine blk_alloc ?_ _)); exact BK250.out) Try.underlying33 rfl (by kernel_rfl) .nil))))) rfl ?_
 exact ⟨er, by repeat (first | (with_reducible first | exact HB.out | apply below_alloc | apply pw_below_drewN | apply below_drew1 | refine below_set ?_ (IsS93.ge HI253.out) | refine below_set ?_ GE247.out | refine below_set ?_ GE248.out | refine below_set ?_ GE249.out | refine below_set ?_ GE250.out) | exact HB.out)⟩
end Go.Proofs.Ytfonigbkoligmaa.P
-- squeezed

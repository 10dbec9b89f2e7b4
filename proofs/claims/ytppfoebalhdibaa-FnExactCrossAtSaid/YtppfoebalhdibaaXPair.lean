import Derived.Test.YtppfoebalhdibaaProg
import Derived.Test.YtppfoebalhdibaaXMake
import Derived.Below
import Derived.Deep.Draws
import Derived.Deep.AppendLies
import Derived.Maps.AppendAt
import Derived.OwnWalk
import Derived.Laws.BytesArg
import Derived.Laws.MakeOwn
import Derived.Laws.OwnMore
import Derived.Deep.OwnRows
import Derived.Tactics
import Derived.Lib.ConvBytes
import Derived.Laws.Slices
import Derived.WalkKit
import Derived.KernelRfl
import Derived.RowKit3
import Derived.Deep.LoopGhost
import Derived.Deep.QuietTactic
import Derived.BigQuiet
import Derived.WideLaws
import Derived.Deep.DeepCutAuto
import Derived.Deep.CutBlock
import Derived.Deep.RegionHeld3
import Derived.Laws.Rows
import Derived.Lib.AppendStr
import Derived.ArgAppend
import Derived.Laws.IdiomCopy
import Derived.OrdersHeld
import Derived.Laws.BitsLemmas
import Derived.RowKit
import Derived.Test.YtppfoebalhdibaaWWords
import Derived.Test.YtppfoebalhdibaaWLast
import Derived.Test.YtppfoebalhdibaaWTab
import Derived.Test.YtppfoebalhdibaaWQPut
import Derived.Test.YtppfoebalhdibaaWApart
import Derived.Test.YtppfoebalhdibaaWArr
import Derived.Test.YtppfoebalhdibaaWZeros
import Derived.Test.YtppfoebalhdibaaWFoot
import Derived.Test.YtppfoebalhdibaaWKept
import Derived.Test.YtppfoebalhdibaaWShare
import Derived.Test.YtppfoebalhdibaaWN
import Derived.Test.YtppfoebalhdibaaWFootNe
import Derived.Test.YtppfoebalhdibaaWEqStruct
import Derived.Test.YtppfoebalhdibaaWRepsOne
import Derived.Test.YtppfoebalhdibaaWGuard
import Derived.Test.YtppfoebalhdibaaWNEv
import Derived.Test.YtppfoebalhdibaaWMore
import Derived.Test.YtppfoebalhdibaaWSized
import Derived.Deep.RegionHeld3
set_option linter.unusedVariables false
namespace Go.Proofs.YtppfoebalhdibaaW.PrintWords
open Go.RowKit Go.Proofs.YtppfoebalhdibaaW.PrintLast Go.Proofs.YtppfoebalhdibaaW.PrintMore
theorem pairOf_calls (x y : Int) (w : World) : Calls Try.prog 22 #[.agg #[.int .i64 x, .int .i64 y]] w fun e w' => e = .returned (.agg #[.int .i64 x, .int .i64 y]) ∧ Below w.heap.size w w' := by
  go_enter Try.func22, Try.ntmps22
  go_wp2
  have h1 := heap_alloc_new (w.alloc (.cells #[.int .i64 x, .int .i64 y] 28)) (.cells #[.int .i64 x, .int .i64 y] 42)
  rw [show (w.alloc (.cells #[.int .i64 x, .int .i64 y] 28)).heap.size = w.heap.size + 1 by simp] at h1
  exact bodyPost_ret (results_cell_row rfl _ _ (w.heap.size + 1) 42 #[.int .i64 x, .int .i64 y] (0, 0) _ rfl h1 Try.underlying42 rfl (by kernel_rfl)) rfl ⟨rfl, below_alloc (below_alloc (Below.refl _ _) _) _⟩
theorem three_last (w : World) (X Y Z : Obj) : (((w.alloc X).alloc Y).alloc Z).heap[w.heap.size + 1 + 1]? = some Z := by
  have h := heap_alloc_new ((w.alloc X).alloc Y) Z
  rwa [show ((w.alloc X).alloc Y).heap.size = w.heap.size + 1 + 1 by simp] at h
theorem pairMinus_calls (x y a b : Int) (w : World) : Calls Try.prog 23 #[.agg #[.int .i64 x, .int .i64 y], .agg #[.int .i64 a, .int .i64 b]] w fun e w' => e = .returned (.agg #[.int .i64 (wrap64 (x - a)), .int .i64 (wrap64 (y - b))]) ∧ Below w.heap.size w w' := by
  go_enter Try.func23, Try.ntmps23
  go_wp2
  exact bodyPost_ret (results_cell_row rfl _ _ (w.heap.size + 1 + 1) 42 #[.int .i64 (wrap64 (x - a)), .int .i64 (wrap64 (y - b))] (0, 0) _ rfl (three_last w _ _ _) Try.underlying42 rfl (by kernel_rfl)) rfl ⟨rfl, below_alloc (below_alloc (below_alloc (Below.refl _ _) _) _) _⟩
def crI (x y a b : Int) : Int := wrap64 (wrap64 (x * b) - wrap64 (a * y))
theorem pairCross_calls (x y a b : Int) (w : World) : Calls Try.prog 24 #[.agg #[.int .i64 x, .int .i64 y], .agg #[.int .i64 a, .int .i64 b]] w fun e w' => e = .returned (.int .i64 (wrap64 (wrap64 (x * b) - wrap64 (a * y)))) ∧ Below w.heap.size w w' := by
  go_enter Try.func24, Try.ntmps24
  go_wp2
  go_ret
  exact ⟨rfl, below_alloc (below_alloc (Below.refl _ _) _) _⟩
theorem within_calls (n m : Int) (w : World) : Calls Try.prog 25 #[.int .i64 n, .int .i64 m] w fun e w' => e = .returned (.bool (decide (wrap64 (-m) ≤ n ∧ n ≤ m))) ∧ w' = w := by
  by_cases h : wrap64 (-m) ≤ n
  · go_enter Try.func25, Try.ntmps25
    go_wp2
    go_ret
    exact ⟨by simp [h], rfl⟩
  · go_enter Try.func25, Try.ntmps25
    go_wp2
    go_ret
    exact ⟨by rw [decide_eq_false (by omega : ¬ wrap64 (-m) ≤ n), Bool.false_and]; rfl, rfl⟩
def inR (x y m : Int) : Bool := decide (wrap64 (-m) ≤ x ∧ x ≤ m) && decide (wrap64 (-m) ≤ y ∧ y ≤ m)
theorem pairIn_calls (x y m : Int) (w : World) : Calls Try.prog 28 #[.agg #[.int .i64 x, .int .i64 y], .int .i64 m] w fun e w' => e = .returned (.bool (inR x y m)) ∧ Below w.heap.size w w' := by
  cases h : decide (wrap64 (-m) ≤ x ∧ x ≤ m) with
  | true =>
    go_enter Try.func28, Try.ntmps28
    go_wp2_with (first | (go_at_call 25; (with_reducible refine (within_calls x m _).mono ?_); rintro e w' ⟨rfl, rfl⟩; rw [h]) | (go_at_call 25; (with_reducible refine (within_calls y m _).mono ?_); rintro e w' ⟨rfl, rfl⟩))
    go_ret
    exact ⟨by unfold inR; rw [h, Bool.true_and, Bool.decide_and]; rfl, below_alloc (Below.refl _ _) _⟩
  | false =>
    go_enter Try.func28, Try.ntmps28
    go_wp2_with (first | (go_at_call 25; (with_reducible refine (within_calls x m _).mono ?_); rintro e w' ⟨rfl, rfl⟩; rw [h]) | (go_at_call 25; (with_reducible refine (within_calls y m _).mono ?_); rintro e w' ⟨rfl, rfl⟩))
    go_ret
    exact ⟨by unfold inR; rw [h, Bool.false_and]; rfl, below_alloc (Below.refl _ _) _⟩
theorem PointValid_calls (x y : Int) (w : World) : Calls Try.prog 21 #[.agg #[.int .i64 x, .int .i64 y]] w fun e w' => e = .returned (.bool (inR x y 10000)) ∧ Below w.heap.size w w' := by
  have hb0 := below_alloc (Below.refl w.heap.size w) (.cells #[.int .i64 x, .int .i64 y] 28)
  have HB0 := Aside0.mk hb0
  clear hb0
  go_enter Try.func21, Try.ntmps21
  go_wp2_with (first | (go_at_call 22; (with_reducible refine (pairOf_calls x y _).mono ?_); rintro e w' ⟨rfl, hb⟩; have HB1 := Aside0.mk hb; clear hb) | (go_at_call 28; (with_reducible refine (pairIn_calls x y 10000 _).mono ?_); rintro e w'' ⟨rfl, hb⟩; have HB2 := Aside0.mk hb; clear hb))
  go_ret
  exact ⟨rfl, below_then (below_then HB0.out HB0.out.size HB1.out) (below_then HB0.out HB0.out.size HB1.out).size HB2.out⟩
def Mv (w W : World) (x y a b u v : Int) : Prop := Below w.heap.size w W ∧ W.heap[w.heap.size]? = some (.cells #[.int .i64 x, .int .i64 y] 28 (0, 0)) ∧ W.heap[w.heap.size + 1]? = some (.cells #[.int .i64 a, .int .i64 b] 28 (0, 0)) ∧ W.heap[w.heap.size + 1 + 1]? = some (.cells #[.int .i64 u, .int .i64 v] 28 (0, 0))
theorem Mv.new (w : World) (x y a b : Int) : Mv w (((w.alloc (.cells #[.int .i64 x, .int .i64 y] 28)).alloc (.cells #[.int .i64 a, .int .i64 b] 28)).alloc (.cells #[.int .i64 0, .int .i64 0] 28)) x y a b 0 0 := by
  have bx := heap_alloc_new w (.cells #[.int .i64 x, .int .i64 y] 28)
  have by' := heap_alloc_new (w.alloc (.cells #[.int .i64 x, .int .i64 y] 28)) (.cells #[.int .i64 a, .int .i64 b] 28)
  generalize h1 : w.alloc (.cells #[.int .i64 x, .int .i64 y] 28) = w1 at *
  have s1 : w1.heap.size = w.heap.size + 1 := by rw [← h1]; simp
  have b1 : Below w.heap.size w w1 := by rw [← h1]; exact below_alloc (Below.refl _ _) _
  generalize h2 : w1.alloc (.cells #[.int .i64 a, .int .i64 b] 28) = w2 at *
  have s2 : w2.heap.size = w1.heap.size + 1 := by rw [← h2]; simp
  have b2 : Below w1.heap.size w1 w2 := by rw [← h2]; exact below_alloc (Below.refl _ _) _
  have b3 := below_alloc (Below.refl w2.heap.size w2) (.cells #[.int .i64 0, .int .i64 0] 28)
  have bz := heap_alloc_new w2 (.cells #[.int .i64 0, .int .i64 0] 28)
  refine ⟨below_then (below_then b1 b1.size b2) (below_then b1 b1.size b2).size b3, ?_, ?_, ?_⟩
  · exact (b3.block _ (by omega)).trans ((b2.block _ (by omega)).trans bx)
  · rw [s1] at by'; exact (b3.block _ (by omega)).trans by'
  · rw [s2, s1] at bz; exact bz
theorem Mv.keep {w W W' : World} {x y a b u v : Int} (h : Mv w W x y a b u v) (hb : Below W.heap.size W W') : Mv w W' x y a b u v := by
  obtain ⟨h1, h2, h3, h4⟩ := h
  exact ⟨below_then h1 h1.size hb, (hb.block _ (lt_of_block h2)).trans h2, (hb.block _ (lt_of_block h3)).trans h3, (hb.block _ (lt_of_block h4)).trans h4⟩
theorem Mv.cells {w W : World} {x y a b u v : Int} (h : Mv w W x y a b u v) : W.cell? ⟨w.heap.size, 0, none⟩ = some (.int .i64 x) ∧ W.cell? ⟨w.heap.size, 1, none⟩ = some (.int .i64 y) ∧ W.cell? ⟨w.heap.size + 1, 0, none⟩ = some (.int .i64 a) ∧ W.cell? ⟨w.heap.size + 1, 1, none⟩ = some (.int .i64 b) ∧
    W.cell? ⟨w.heap.size + 1 + 1, 0, none⟩ = some (.int .i64 u) ∧ W.cell? ⟨w.heap.size + 1 + 1, 1, none⟩ = some (.int .i64 v) ∧ W.frozen? ⟨w.heap.size + 1 + 1, 0, none⟩ = false ∧ W.frozen? ⟨w.heap.size + 1 + 1, 1, none⟩ = false := by
  obtain ⟨h1, h2, h3, h4⟩ := h
  exact ⟨blk_cell h2 0, blk_cell h2 1, blk_cell h3 0, blk_cell h3 1, blk_cell h4 0, blk_cell h4 1, blk_frozen h4 0, blk_frozen h4 1⟩
theorem Mv.after {w W : World} {x y a b u v : Int} (h : Mv w W x y a b u v) {B : Nat} (hB : w.heap.size + 1 + 1 < B) (p q : Value) : Mv w ((W.setCell ⟨B, 0, none⟩ p).setCell ⟨B, 1, none⟩ q) x y a b u v := by
  obtain ⟨h1, h2, h3, h4⟩ := h
  refine ⟨(h1.setCell (p := ⟨B, 0, none⟩) (by show w.heap.size ≤ B; omega) _).setCell (p := ⟨B, 1, none⟩) (by show w.heap.size ≤ B; omega) _, ?_, ?_, ?_⟩
  · rw [Below.heap_setCell _ _ _ _ (by show w.heap.size ≠ B; omega), Below.heap_setCell _ _ _ _ (by show w.heap.size ≠ B; omega)]; exact h2
  · rw [Below.heap_setCell _ _ _ _ (by show w.heap.size + 1 ≠ B; omega), Below.heap_setCell _ _ _ _ (by show w.heap.size + 1 ≠ B; omega)]; exact h3
  · rw [Below.heap_setCell _ _ _ _ (by show w.heap.size + 1 + 1 ≠ B; omega), Below.heap_setCell _ _ _ _ (by show w.heap.size + 1 + 1 ≠ B; omega)]; exact h4
theorem Mv.put {w W : World} {x y a b u v : Int} (h : Mv w W x y a b u v) (p q : Int) : Mv w ((W.setCell ⟨w.heap.size + 1 + 1, 0, none⟩ (.int .i64 p)).setCell ⟨w.heap.size + 1 + 1, 1, none⟩ (.int .i64 q)) x y a b p q := by
  obtain ⟨h1, h2, h3, h4⟩ := h
  refine ⟨(h1.setCell (p := ⟨w.heap.size + 1 + 1, 0, none⟩) (by show w.heap.size ≤ w.heap.size + 1 + 1; omega) _).setCell (p := ⟨w.heap.size + 1 + 1, 1, none⟩) (by show w.heap.size ≤ w.heap.size + 1 + 1; omega) _, ?_, ?_, ?_⟩
  · rw [Below.heap_setCell _ _ _ _ (by show w.heap.size ≠ w.heap.size + 1 + 1; omega), Below.heap_setCell _ _ _ _ (by show w.heap.size ≠ w.heap.size + 1 + 1; omega)]; exact h2
  · rw [Below.heap_setCell _ _ _ _ (by show w.heap.size + 1 ≠ w.heap.size + 1 + 1; omega), Below.heap_setCell _ _ _ _ (by show w.heap.size + 1 ≠ w.heap.size + 1 + 1; omega)]; exact h3
  · exact blk_put (blk_put h4 0 _ rfl) 1 _ rfl
end Go.Proofs.YtppfoebalhdibaaW.PrintWords

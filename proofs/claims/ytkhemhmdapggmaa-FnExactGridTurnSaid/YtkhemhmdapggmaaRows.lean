/-
  No cell of these rows narrows 'for every input' (looked for: loops, veiled, ifaces, maps, wideKeys, modest, calm, conditions, laid).
  DERIVED. THE GIVEN ROWS OF THIS SEAT. 12 by the template 'for every input the law returns true; each argument reads behind the call as it read before'; 0 by the template 'total and deterministic' (their statements: YtkhemhmdapggmaaTotals.lean).
  GIVEN WITH THE SEED: the statements are not yours to turn. If you find one false, say at which input.
  Laid BY PROGRAM, IN A SANDBOX (cutbox-rows.mjs): the forced cells as the released guide's own fill.sh prints them over the translation 157e2db14526d5be… (all of the seat's roots in one cut). By AI agents, Wed Nov 11 2026. No macro, syntax, notation, axiom, sorry.
-/
import Derived.Test.YtkhemhmdapggmaaChecked
import GoSem.Claim
import GoSem.ClaimJoined
import GoSem.ClaimMapViews
import Derived.JoinedTies
import Derived.KernelRfl
namespace Go.Proofs.Ytkhemhmdapggmaa
/- THE CELL 'sum', in the pinned program and in every row, IS THE sha256 OF THE DUMP (.gsa) THAT YtkhemhmdapggmaaProg.lean LOADS. Nothing in Lean hashes anything: it is a label: what it is worth is what the hold of that sum in a sandbox is worth. -/
noncomputable def Try.pinned : Pinned := { name := "ytkhemhmdapggmaa", sum := "157e2db14526d5be981df1306afa81aa5ebfcc915bf7a04ab31ebccb6c8d50f8", checked := Try.checked }
namespace Rows
def none {H : Type} : Left H := { results := [], args := [] }

/-- 'laws.FnExactGridValid': WHATEVER THE INPUT: true; the input reads as it did. -/
def fnExactGridValidSpec : ChangeSpec := { name := "fnExactGridValid", fn := fun _ => fun
  | [d] => { results := [.lit (.bool true)], args := [d] }
  | _ => none }
def fnExactGridValidRow : OpenClaim := { program := "ytkhemhmdapggmaa", sum := "157e2db14526d5be981df1306afa81aa5ebfcc915bf7a04ab31ebccb6c8d50f8", func := "loop.example/levellingnet/laws.FnExactGridValid", spec := "fnExactGridValid", apart := false }
def FnExactGridValidSaid : Prop := fnExactGridValidRow.holds Try.pinned (OpenSpec.ofChange fnExactGridValidSpec)

/-- ITS FALSE NEIGHBOUR: 'it returns false'. Refute it at one input. -/
def fnExactGridValidWrong : ChangeSpec := { name := "fnExactGridValid", fn := fun _ => fun
  | [d] => { results := [.lit (.bool false)], args := [d] }
  | _ => none }
def FnExactGridValidWrongFalsely : Prop := fnExactGridValidRow.holds Try.pinned (OpenSpec.ofChange fnExactGridValidWrong)

/-- 'laws.FnExactGridCase': WHATEVER THE INPUT: true; the input reads as it did. -/
def fnExactGridCaseSpec : ChangeSpec := { name := "fnExactGridCase", fn := fun _ => fun
  | [d1, d2, d3, d4] => { results := [.lit (.bool true)], args := [d1, d2, d3, d4] }
  | _ => none }
def fnExactGridCaseRow : OpenClaim := { program := "ytkhemhmdapggmaa", sum := "157e2db14526d5be981df1306afa81aa5ebfcc915bf7a04ab31ebccb6c8d50f8", func := "loop.example/levellingnet/laws.FnExactGridCase", spec := "fnExactGridCase", apart := false }
def FnExactGridCaseSaid : Prop := fnExactGridCaseRow.holds Try.pinned (OpenSpec.ofChange fnExactGridCaseSpec)

/-- ITS FALSE NEIGHBOUR: 'it returns false'. Refute it at one input. -/
def fnExactGridCaseWrong : ChangeSpec := { name := "fnExactGridCase", fn := fun _ => fun
  | [d1, d2, d3, d4] => { results := [.lit (.bool false)], args := [d1, d2, d3, d4] }
  | _ => none }
def FnExactGridCaseWrongFalsely : Prop := fnExactGridCaseRow.holds Try.pinned (OpenSpec.ofChange fnExactGridCaseWrong)

/-- 'laws.FnExactGridHigh': WHATEVER THE INPUT: true; the input reads as it did. -/
def fnExactGridHighSpec : ChangeSpec := { name := "fnExactGridHigh", fn := fun _ => fun
  | [d1, d2] => { results := [.lit (.bool true)], args := [d1, d2] }
  | _ => none }
def fnExactGridHighRow : OpenClaim := { program := "ytkhemhmdapggmaa", sum := "157e2db14526d5be981df1306afa81aa5ebfcc915bf7a04ab31ebccb6c8d50f8", func := "loop.example/levellingnet/laws.FnExactGridHigh", spec := "fnExactGridHigh", unfollowed := true, recurses := true, apart := false }
def FnExactGridHighSaid : Prop := fnExactGridHighRow.holds Try.pinned (OpenSpec.ofChange fnExactGridHighSpec)

/-- ITS FALSE NEIGHBOUR: 'it returns false'. Refute it at one input. -/
def fnExactGridHighWrong : ChangeSpec := { name := "fnExactGridHigh", fn := fun _ => fun
  | [d1, d2] => { results := [.lit (.bool false)], args := [d1, d2] }
  | _ => none }
def FnExactGridHighWrongFalsely : Prop := fnExactGridHighRow.holds Try.pinned (OpenSpec.ofChange fnExactGridHighWrong)

/-- 'laws.FnExactGridCuts': WHATEVER THE INPUT: true; the input reads as it did. -/
def fnExactGridCutsSpec : ChangeSpec := { name := "fnExactGridCuts", fn := fun _ => fun
  | [d1, d2] => { results := [.lit (.bool true)], args := [d1, d2] }
  | _ => none }
def fnExactGridCutsRow : OpenClaim := { program := "ytkhemhmdapggmaa", sum := "157e2db14526d5be981df1306afa81aa5ebfcc915bf7a04ab31ebccb6c8d50f8", func := "loop.example/levellingnet/laws.FnExactGridCuts", spec := "fnExactGridCuts", unfollowed := true, recurses := true, apart := false }
def FnExactGridCutsSaid : Prop := fnExactGridCutsRow.holds Try.pinned (OpenSpec.ofChange fnExactGridCutsSpec)

/-- ITS FALSE NEIGHBOUR: 'it returns false'. Refute it at one input. -/
def fnExactGridCutsWrong : ChangeSpec := { name := "fnExactGridCuts", fn := fun _ => fun
  | [d1, d2] => { results := [.lit (.bool false)], args := [d1, d2] }
  | _ => none }
def FnExactGridCutsWrongFalsely : Prop := fnExactGridCutsRow.holds Try.pinned (OpenSpec.ofChange fnExactGridCutsWrong)

/-- 'laws.FnExactGridRidge': WHATEVER THE INPUT: true; the input reads as it did. -/
def fnExactGridRidgeSpec : ChangeSpec := { name := "fnExactGridRidge", fn := fun _ => fun
  | [d1, d2] => { results := [.lit (.bool true)], args := [d1, d2] }
  | _ => none }
def fnExactGridRidgeRow : OpenClaim := { program := "ytkhemhmdapggmaa", sum := "157e2db14526d5be981df1306afa81aa5ebfcc915bf7a04ab31ebccb6c8d50f8", func := "loop.example/levellingnet/laws.FnExactGridRidge", spec := "fnExactGridRidge", unfollowed := true, recurses := true, apart := false }
def FnExactGridRidgeSaid : Prop := fnExactGridRidgeRow.holds Try.pinned (OpenSpec.ofChange fnExactGridRidgeSpec)

/-- ITS FALSE NEIGHBOUR: 'it returns false'. Refute it at one input. -/
def fnExactGridRidgeWrong : ChangeSpec := { name := "fnExactGridRidge", fn := fun _ => fun
  | [d1, d2] => { results := [.lit (.bool false)], args := [d1, d2] }
  | _ => none }
def FnExactGridRidgeWrongFalsely : Prop := fnExactGridRidgeRow.holds Try.pinned (OpenSpec.ofChange fnExactGridRidgeWrong)

/-- 'laws.FnExactGridTurn': WHATEVER THE INPUT: true; the input reads as it did. -/
def fnExactGridTurnSpec : ChangeSpec := { name := "fnExactGridTurn", fn := fun _ => fun
  | [d] => { results := [.lit (.bool true)], args := [d] }
  | _ => none }
def fnExactGridTurnRow : OpenClaim := { program := "ytkhemhmdapggmaa", sum := "157e2db14526d5be981df1306afa81aa5ebfcc915bf7a04ab31ebccb6c8d50f8", func := "loop.example/levellingnet/laws.FnExactGridTurn", spec := "fnExactGridTurn", apart := false }
def FnExactGridTurnSaid : Prop := fnExactGridTurnRow.holds Try.pinned (OpenSpec.ofChange fnExactGridTurnSpec)

/-- ITS FALSE NEIGHBOUR: 'it returns false'. Refute it at one input. -/
def fnExactGridTurnWrong : ChangeSpec := { name := "fnExactGridTurn", fn := fun _ => fun
  | [d] => { results := [.lit (.bool false)], args := [d] }
  | _ => none }
def FnExactGridTurnWrongFalsely : Prop := fnExactGridTurnRow.holds Try.pinned (OpenSpec.ofChange fnExactGridTurnWrong)

/-- 'laws.FnExactGridLines': WHATEVER THE INPUT: true; the input reads as it did. -/
def fnExactGridLinesSpec : ChangeSpec := { name := "fnExactGridLines", fn := fun _ => fun
  | [d1, d2] => { results := [.lit (.bool true)], args := [d1, d2] }
  | _ => none }
def fnExactGridLinesRow : OpenClaim := { program := "ytkhemhmdapggmaa", sum := "157e2db14526d5be981df1306afa81aa5ebfcc915bf7a04ab31ebccb6c8d50f8", func := "loop.example/levellingnet/laws.FnExactGridLines", spec := "fnExactGridLines", unfollowed := true, recurses := true, apart := false }
def FnExactGridLinesSaid : Prop := fnExactGridLinesRow.holds Try.pinned (OpenSpec.ofChange fnExactGridLinesSpec)

/-- ITS FALSE NEIGHBOUR: 'it returns false'. Refute it at one input. -/
def fnExactGridLinesWrong : ChangeSpec := { name := "fnExactGridLines", fn := fun _ => fun
  | [d1, d2] => { results := [.lit (.bool false)], args := [d1, d2] }
  | _ => none }
def FnExactGridLinesWrongFalsely : Prop := fnExactGridLinesRow.holds Try.pinned (OpenSpec.ofChange fnExactGridLinesWrong)

/-- 'laws.FnHigh': WHATEVER THE INPUT: true; the input reads as it did. -/
def fnHighSpec : ChangeSpec := { name := "fnHigh", fn := fun _ => fun
  | [d] => { results := [.lit (.bool true)], args := [d] }
  | _ => none }
def fnHighRow : OpenClaim := { program := "ytkhemhmdapggmaa", sum := "157e2db14526d5be981df1306afa81aa5ebfcc915bf7a04ab31ebccb6c8d50f8", func := "loop.example/levellingnet/laws.FnHigh", spec := "fnHigh", unfollowed := true, recurses := true, apart := false }
def FnHighSaid : Prop := fnHighRow.holds Try.pinned (OpenSpec.ofChange fnHighSpec)

/-- ITS FALSE NEIGHBOUR: 'it returns false'. Refute it at one input. -/
def fnHighWrong : ChangeSpec := { name := "fnHigh", fn := fun _ => fun
  | [d] => { results := [.lit (.bool false)], args := [d] }
  | _ => none }
def FnHighWrongFalsely : Prop := fnHighRow.holds Try.pinned (OpenSpec.ofChange fnHighWrong)

/-- 'laws.FnCase': WHATEVER THE INPUT: true; the input reads as it did. -/
def fnCaseSpec : ChangeSpec := { name := "fnCase", fn := fun _ => fun
  | [d] => { results := [.lit (.bool true)], args := [d] }
  | _ => none }
def fnCaseRow : OpenClaim := { program := "ytkhemhmdapggmaa", sum := "157e2db14526d5be981df1306afa81aa5ebfcc915bf7a04ab31ebccb6c8d50f8", func := "loop.example/levellingnet/laws.FnCase", spec := "fnCase", apart := false }
def FnCaseSaid : Prop := fnCaseRow.holds Try.pinned (OpenSpec.ofChange fnCaseSpec)

/-- ITS FALSE NEIGHBOUR: 'it returns false'. Refute it at one input. -/
def fnCaseWrong : ChangeSpec := { name := "fnCase", fn := fun _ => fun
  | [d] => { results := [.lit (.bool false)], args := [d] }
  | _ => none }
def FnCaseWrongFalsely : Prop := fnCaseRow.holds Try.pinned (OpenSpec.ofChange fnCaseWrong)

/-- 'laws.FnCuts': WHATEVER THE INPUT: true; the input reads as it did. -/
def fnCutsSpec : ChangeSpec := { name := "fnCuts", fn := fun _ => fun
  | [d] => { results := [.lit (.bool true)], args := [d] }
  | _ => none }
def fnCutsRow : OpenClaim := { program := "ytkhemhmdapggmaa", sum := "157e2db14526d5be981df1306afa81aa5ebfcc915bf7a04ab31ebccb6c8d50f8", func := "loop.example/levellingnet/laws.FnCuts", spec := "fnCuts", unfollowed := true, recurses := true, apart := false }
def FnCutsSaid : Prop := fnCutsRow.holds Try.pinned (OpenSpec.ofChange fnCutsSpec)

/-- ITS FALSE NEIGHBOUR: 'it returns false'. Refute it at one input. -/
def fnCutsWrong : ChangeSpec := { name := "fnCuts", fn := fun _ => fun
  | [d] => { results := [.lit (.bool false)], args := [d] }
  | _ => none }
def FnCutsWrongFalsely : Prop := fnCutsRow.holds Try.pinned (OpenSpec.ofChange fnCutsWrong)

/-- 'laws.FnContours': WHATEVER THE INPUT: true; the input reads as it did. -/
def fnContoursSpec : ChangeSpec := { name := "fnContours", fn := fun _ => fun
  | [d] => { results := [.lit (.bool true)], args := [d] }
  | _ => none }
def fnContoursRow : OpenClaim := { program := "ytkhemhmdapggmaa", sum := "157e2db14526d5be981df1306afa81aa5ebfcc915bf7a04ab31ebccb6c8d50f8", func := "loop.example/levellingnet/laws.FnContours", spec := "fnContours", unfollowed := true, recurses := true, apart := false }
def FnContoursSaid : Prop := fnContoursRow.holds Try.pinned (OpenSpec.ofChange fnContoursSpec)

/-- ITS FALSE NEIGHBOUR: 'it returns false'. Refute it at one input. -/
def fnContoursWrong : ChangeSpec := { name := "fnContours", fn := fun _ => fun
  | [d] => { results := [.lit (.bool false)], args := [d] }
  | _ => none }
def FnContoursWrongFalsely : Prop := fnContoursRow.holds Try.pinned (OpenSpec.ofChange fnContoursWrong)

/-- 'laws.FnGridTurn': WHATEVER THE INPUT: true; the input reads as it did. -/
def fnGridTurnSpec : ChangeSpec := { name := "fnGridTurn", fn := fun _ => fun
  | [d1, d2] => { results := [.lit (.bool true)], args := [d1, d2] }
  | _ => none }
def fnGridTurnRow : OpenClaim := { program := "ytkhemhmdapggmaa", sum := "157e2db14526d5be981df1306afa81aa5ebfcc915bf7a04ab31ebccb6c8d50f8", func := "loop.example/levellingnet/laws.FnGridTurn", spec := "fnGridTurn", unfollowed := true, recurses := true, apart := false }
def FnGridTurnSaid : Prop := fnGridTurnRow.holds Try.pinned (OpenSpec.ofChange fnGridTurnSpec)

/-- ITS FALSE NEIGHBOUR: 'it returns false'. Refute it at one input. -/
def fnGridTurnWrong : ChangeSpec := { name := "fnGridTurn", fn := fun _ => fun
  | [d1, d2] => { results := [.lit (.bool false)], args := [d1, d2] }
  | _ => none }
def FnGridTurnWrongFalsely : Prop := fnGridTurnRow.holds Try.pinned (OpenSpec.ofChange fnGridTurnWrong)

/- THE SECOND FORM. 'bulk': how many values and letters a reading holds, each counted each time it is reached (what is shared counts as often as it is met; a slice's spare places count too). A statement '..UptoSaid' is the law's where the arguments, and the package variables that the reading takes, are together of bulk at most 1048576: NARROWER than '..Said'. Prove '..Said' where nothing that the law and all that it calls make is longer than what came in: it says more and counts as full. Else prove '..UptoSaid'. A law counts once. -/
mutual
def uptoBulk {H : Type} : DataW H → Nat
  | .lit (.string bytes) => bytes.length + 1
  | .lit _ => 1
  | .nil => 1
  | .ptr d => uptoBulk d + 1
  | .slice elems spare => uptoBulkAll elems + uptoBulkAll spare + 1
  | .agg parts => uptoBulkAll parts + 1
  | .iface _ d => uptoBulk d + 1
  | .map entries => uptoBulkEntries entries + 1
  | .held _ => 1
def uptoBulkAll {H : Type} : List (DataW H) → Nat
  | [] => 0
  | d :: r => uptoBulk d + uptoBulkAll r
def uptoBulkEntries {H : Type} : List (Lit × DataW H) → Nat
  | [] => 0
  | x :: r => uptoBulkEntry x + uptoBulkEntries r
def uptoBulkEntry {H : Type} : Lit × DataW H → Nat
  | (.string bytes, d) => bytes.length + uptoBulk d + 1
  | (_, d) => uptoBulk d + 1
 end
def uptoSmall : (H : Type) → List (DataW H) → Bool := fun _ ds => decide (uptoBulkAll ds ≤ 1048576)
def OpenSpec.upto (s : _root_.Go.ChangeSpec) : _root_.Go.OpenSpec := { _root_.Go.OpenSpec.ofChange s with cond := some uptoSmall }

/-- 'laws.FnExactGridValid', WHERE WHAT IT READS IS OF BULK AT MOST 1048576: true; the input reads as it did. -/
def fnExactGridValidUptoRow : OpenClaim := { program := "ytkhemhmdapggmaa", sum := "157e2db14526d5be981df1306afa81aa5ebfcc915bf7a04ab31ebccb6c8d50f8", func := "loop.example/levellingnet/laws.FnExactGridValid", spec := "fnExactGridValid", apart := false, narrowed := true }
def FnExactGridValidUptoSaid : Prop := fnExactGridValidUptoRow.holds Try.pinned (OpenSpec.upto fnExactGridValidSpec)

/-- 'laws.FnExactGridCase', WHERE WHAT IT READS IS OF BULK AT MOST 1048576: true; the input reads as it did. -/
def fnExactGridCaseUptoRow : OpenClaim := { program := "ytkhemhmdapggmaa", sum := "157e2db14526d5be981df1306afa81aa5ebfcc915bf7a04ab31ebccb6c8d50f8", func := "loop.example/levellingnet/laws.FnExactGridCase", spec := "fnExactGridCase", apart := false, narrowed := true }
def FnExactGridCaseUptoSaid : Prop := fnExactGridCaseUptoRow.holds Try.pinned (OpenSpec.upto fnExactGridCaseSpec)

/-- 'laws.FnExactGridHigh', WHERE WHAT IT READS IS OF BULK AT MOST 1048576: true; the input reads as it did. -/
def fnExactGridHighUptoRow : OpenClaim := { program := "ytkhemhmdapggmaa", sum := "157e2db14526d5be981df1306afa81aa5ebfcc915bf7a04ab31ebccb6c8d50f8", func := "loop.example/levellingnet/laws.FnExactGridHigh", spec := "fnExactGridHigh", unfollowed := true, recurses := true, apart := false, narrowed := true }
def FnExactGridHighUptoSaid : Prop := fnExactGridHighUptoRow.holds Try.pinned (OpenSpec.upto fnExactGridHighSpec)

/-- 'laws.FnExactGridCuts', WHERE WHAT IT READS IS OF BULK AT MOST 1048576: true; the input reads as it did. -/
def fnExactGridCutsUptoRow : OpenClaim := { program := "ytkhemhmdapggmaa", sum := "157e2db14526d5be981df1306afa81aa5ebfcc915bf7a04ab31ebccb6c8d50f8", func := "loop.example/levellingnet/laws.FnExactGridCuts", spec := "fnExactGridCuts", unfollowed := true, recurses := true, apart := false, narrowed := true }
def FnExactGridCutsUptoSaid : Prop := fnExactGridCutsUptoRow.holds Try.pinned (OpenSpec.upto fnExactGridCutsSpec)

/-- 'laws.FnExactGridRidge', WHERE WHAT IT READS IS OF BULK AT MOST 1048576: true; the input reads as it did. -/
def fnExactGridRidgeUptoRow : OpenClaim := { program := "ytkhemhmdapggmaa", sum := "157e2db14526d5be981df1306afa81aa5ebfcc915bf7a04ab31ebccb6c8d50f8", func := "loop.example/levellingnet/laws.FnExactGridRidge", spec := "fnExactGridRidge", unfollowed := true, recurses := true, apart := false, narrowed := true }
def FnExactGridRidgeUptoSaid : Prop := fnExactGridRidgeUptoRow.holds Try.pinned (OpenSpec.upto fnExactGridRidgeSpec)

/-- 'laws.FnExactGridTurn', WHERE WHAT IT READS IS OF BULK AT MOST 1048576: true; the input reads as it did. -/
def fnExactGridTurnUptoRow : OpenClaim := { program := "ytkhemhmdapggmaa", sum := "157e2db14526d5be981df1306afa81aa5ebfcc915bf7a04ab31ebccb6c8d50f8", func := "loop.example/levellingnet/laws.FnExactGridTurn", spec := "fnExactGridTurn", apart := false, narrowed := true }
def FnExactGridTurnUptoSaid : Prop := fnExactGridTurnUptoRow.holds Try.pinned (OpenSpec.upto fnExactGridTurnSpec)

/-- 'laws.FnExactGridLines', WHERE WHAT IT READS IS OF BULK AT MOST 1048576: true; the input reads as it did. -/
def fnExactGridLinesUptoRow : OpenClaim := { program := "ytkhemhmdapggmaa", sum := "157e2db14526d5be981df1306afa81aa5ebfcc915bf7a04ab31ebccb6c8d50f8", func := "loop.example/levellingnet/laws.FnExactGridLines", spec := "fnExactGridLines", unfollowed := true, recurses := true, apart := false, narrowed := true }
def FnExactGridLinesUptoSaid : Prop := fnExactGridLinesUptoRow.holds Try.pinned (OpenSpec.upto fnExactGridLinesSpec)

/-- 'laws.FnHigh', WHERE WHAT IT READS IS OF BULK AT MOST 1048576: true; the input reads as it did. -/
def fnHighUptoRow : OpenClaim := { program := "ytkhemhmdapggmaa", sum := "157e2db14526d5be981df1306afa81aa5ebfcc915bf7a04ab31ebccb6c8d50f8", func := "loop.example/levellingnet/laws.FnHigh", spec := "fnHigh", unfollowed := true, recurses := true, apart := false, narrowed := true }
def FnHighUptoSaid : Prop := fnHighUptoRow.holds Try.pinned (OpenSpec.upto fnHighSpec)

/-- 'laws.FnCase', WHERE WHAT IT READS IS OF BULK AT MOST 1048576: true; the input reads as it did. -/
def fnCaseUptoRow : OpenClaim := { program := "ytkhemhmdapggmaa", sum := "157e2db14526d5be981df1306afa81aa5ebfcc915bf7a04ab31ebccb6c8d50f8", func := "loop.example/levellingnet/laws.FnCase", spec := "fnCase", apart := false, narrowed := true }
def FnCaseUptoSaid : Prop := fnCaseUptoRow.holds Try.pinned (OpenSpec.upto fnCaseSpec)

/-- 'laws.FnCuts', WHERE WHAT IT READS IS OF BULK AT MOST 1048576: true; the input reads as it did. -/
def fnCutsUptoRow : OpenClaim := { program := "ytkhemhmdapggmaa", sum := "157e2db14526d5be981df1306afa81aa5ebfcc915bf7a04ab31ebccb6c8d50f8", func := "loop.example/levellingnet/laws.FnCuts", spec := "fnCuts", unfollowed := true, recurses := true, apart := false, narrowed := true }
def FnCutsUptoSaid : Prop := fnCutsUptoRow.holds Try.pinned (OpenSpec.upto fnCutsSpec)

/-- 'laws.FnContours', WHERE WHAT IT READS IS OF BULK AT MOST 1048576: true; the input reads as it did. -/
def fnContoursUptoRow : OpenClaim := { program := "ytkhemhmdapggmaa", sum := "157e2db14526d5be981df1306afa81aa5ebfcc915bf7a04ab31ebccb6c8d50f8", func := "loop.example/levellingnet/laws.FnContours", spec := "fnContours", unfollowed := true, recurses := true, apart := false, narrowed := true }
def FnContoursUptoSaid : Prop := fnContoursUptoRow.holds Try.pinned (OpenSpec.upto fnContoursSpec)

/-- 'laws.FnGridTurn', WHERE WHAT IT READS IS OF BULK AT MOST 1048576: true; the input reads as it did. -/
def fnGridTurnUptoRow : OpenClaim := { program := "ytkhemhmdapggmaa", sum := "157e2db14526d5be981df1306afa81aa5ebfcc915bf7a04ab31ebccb6c8d50f8", func := "loop.example/levellingnet/laws.FnGridTurn", spec := "fnGridTurn", unfollowed := true, recurses := true, apart := false, narrowed := true }
def FnGridTurnUptoSaid : Prop := fnGridTurnUptoRow.holds Try.pinned (OpenSpec.upto fnGridTurnSpec)

end Rows
end Go.Proofs.Ytkhemhmdapggmaa

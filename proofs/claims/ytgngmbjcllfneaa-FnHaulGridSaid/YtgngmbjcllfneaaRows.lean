/-
  No cell of these rows narrows 'for every input' (looked for: loops, veiled, ifaces, maps, wideKeys, modest, calm, conditions, laid).
  DERIVED. THE GIVEN ROWS OF THIS SEAT. 11 by the template 'for every input the law returns true; each argument reads behind the call as it read before'; 0 by the template 'total and deterministic' (their statements: YtgngmbjcllfneaaTotals.lean).
  GIVEN WITH THE SEED: the statements are not yours to turn. If you find one false, say at which input.
  Laid BY PROGRAM, IN A SANDBOX (cutbox-rows.mjs): the forced cells as the released guide's own fill.sh prints them over the translation f85c982ae87f095e… (all of the seat's roots in one cut). By AI agents, Wed Nov 11 2026. No macro, syntax, notation, axiom, sorry.
-/
import Derived.Test.YtgngmbjcllfneaaChecked
import GoSem.Claim
import GoSem.ClaimJoined
import GoSem.ClaimMapViews
import Derived.JoinedTies
import Derived.KernelRfl
namespace Go.Proofs.Ytgngmbjcllfneaa
/- THE CELL 'sum', in the pinned program and in every row, IS THE sha256 OF THE DUMP (.gsa) THAT YtgngmbjcllfneaaProg.lean LOADS. Nothing in Lean hashes anything: it is a label: what it is worth is what the hold of that sum in a sandbox is worth. -/
noncomputable def Try.pinned : Pinned := { name := "ytgngmbjcllfneaa", sum := "f85c982ae87f095e8421b985997bcaf1f342810a5168fad9f1a0dc042d666407", checked := Try.checked }
namespace Rows
def none {H : Type} : Left H := { results := [], args := [] }

/-- 'laws.FnExactEarthCut': WHATEVER THE INPUT: true; the input reads as it did. -/
def fnExactEarthCutSpec : ChangeSpec := { name := "fnExactEarthCut", fn := fun _ => fun
  | [d1, d2] => { results := [.lit (.bool true)], args := [d1, d2] }
  | _ => none }
def fnExactEarthCutRow : OpenClaim := { program := "ytgngmbjcllfneaa", sum := "f85c982ae87f095e8421b985997bcaf1f342810a5168fad9f1a0dc042d666407", func := "loop.example/levellingnet/laws.FnExactEarthCut", spec := "fnExactEarthCut", unfollowed := true, recurses := true, apart := false }
def FnExactEarthCutSaid : Prop := fnExactEarthCutRow.holds Try.pinned (OpenSpec.ofChange fnExactEarthCutSpec)

/-- ITS FALSE NEIGHBOUR: 'it returns false'. Refute it at one input. -/
def fnExactEarthCutWrong : ChangeSpec := { name := "fnExactEarthCut", fn := fun _ => fun
  | [d1, d2] => { results := [.lit (.bool false)], args := [d1, d2] }
  | _ => none }
def FnExactEarthCutWrongFalsely : Prop := fnExactEarthCutRow.holds Try.pinned (OpenSpec.ofChange fnExactEarthCutWrong)

/-- 'laws.FnExactEarthFill': WHATEVER THE INPUT: true; the input reads as it did. -/
def fnExactEarthFillSpec : ChangeSpec := { name := "fnExactEarthFill", fn := fun _ => fun
  | [d1, d2] => { results := [.lit (.bool true)], args := [d1, d2] }
  | _ => none }
def fnExactEarthFillRow : OpenClaim := { program := "ytgngmbjcllfneaa", sum := "f85c982ae87f095e8421b985997bcaf1f342810a5168fad9f1a0dc042d666407", func := "loop.example/levellingnet/laws.FnExactEarthFill", spec := "fnExactEarthFill", unfollowed := true, recurses := true, apart := false }
def FnExactEarthFillSaid : Prop := fnExactEarthFillRow.holds Try.pinned (OpenSpec.ofChange fnExactEarthFillSpec)

/-- ITS FALSE NEIGHBOUR: 'it returns false'. Refute it at one input. -/
def fnExactEarthFillWrong : ChangeSpec := { name := "fnExactEarthFill", fn := fun _ => fun
  | [d1, d2] => { results := [.lit (.bool false)], args := [d1, d2] }
  | _ => none }
def FnExactEarthFillWrongFalsely : Prop := fnExactEarthFillRow.holds Try.pinned (OpenSpec.ofChange fnExactEarthFillWrong)

/-- 'laws.FnExactEarthMove': WHATEVER THE INPUT: true; the input reads as it did. -/
def fnExactEarthMoveSpec : ChangeSpec := { name := "fnExactEarthMove", fn := fun _ => fun
  | [d1, d2] => { results := [.lit (.bool true)], args := [d1, d2] }
  | _ => none }
def fnExactEarthMoveRow : OpenClaim := { program := "ytgngmbjcllfneaa", sum := "f85c982ae87f095e8421b985997bcaf1f342810a5168fad9f1a0dc042d666407", func := "loop.example/levellingnet/laws.FnExactEarthMove", spec := "fnExactEarthMove", unfollowed := true, recurses := true, apart := false }
def FnExactEarthMoveSaid : Prop := fnExactEarthMoveRow.holds Try.pinned (OpenSpec.ofChange fnExactEarthMoveSpec)

/-- ITS FALSE NEIGHBOUR: 'it returns false'. Refute it at one input. -/
def fnExactEarthMoveWrong : ChangeSpec := { name := "fnExactEarthMove", fn := fun _ => fun
  | [d1, d2] => { results := [.lit (.bool false)], args := [d1, d2] }
  | _ => none }
def FnExactEarthMoveWrongFalsely : Prop := fnExactEarthMoveRow.holds Try.pinned (OpenSpec.ofChange fnExactEarthMoveWrong)

/-- 'laws.FnExactEarthLevel': WHATEVER THE INPUT: true; the input reads as it did. -/
def fnExactEarthLevelSpec : ChangeSpec := { name := "fnExactEarthLevel", fn := fun _ => fun
  | [d] => { results := [.lit (.bool true)], args := [d] }
  | _ => none }
def fnExactEarthLevelRow : OpenClaim := { program := "ytgngmbjcllfneaa", sum := "f85c982ae87f095e8421b985997bcaf1f342810a5168fad9f1a0dc042d666407", func := "loop.example/levellingnet/laws.FnExactEarthLevel", spec := "fnExactEarthLevel", unfollowed := true, recurses := true, apart := false }
def FnExactEarthLevelSaid : Prop := fnExactEarthLevelRow.holds Try.pinned (OpenSpec.ofChange fnExactEarthLevelSpec)

/-- ITS FALSE NEIGHBOUR: 'it returns false'. Refute it at one input. -/
def fnExactEarthLevelWrong : ChangeSpec := { name := "fnExactEarthLevel", fn := fun _ => fun
  | [d] => { results := [.lit (.bool false)], args := [d] }
  | _ => none }
def FnExactEarthLevelWrongFalsely : Prop := fnExactEarthLevelRow.holds Try.pinned (OpenSpec.ofChange fnExactEarthLevelWrong)

/-- 'laws.FnExactEarthFlat': WHATEVER THE INPUT: true; the input reads as it did. -/
def fnExactEarthFlatSpec : ChangeSpec := { name := "fnExactEarthFlat", fn := fun _ => fun
  | [d] => { results := [.lit (.bool true)], args := [d] }
  | _ => none }
def fnExactEarthFlatRow : OpenClaim := { program := "ytgngmbjcllfneaa", sum := "f85c982ae87f095e8421b985997bcaf1f342810a5168fad9f1a0dc042d666407", func := "loop.example/levellingnet/laws.FnExactEarthFlat", spec := "fnExactEarthFlat", unfollowed := true, recurses := true, apart := false }
def FnExactEarthFlatSaid : Prop := fnExactEarthFlatRow.holds Try.pinned (OpenSpec.ofChange fnExactEarthFlatSpec)

/-- ITS FALSE NEIGHBOUR: 'it returns false'. Refute it at one input. -/
def fnExactEarthFlatWrong : ChangeSpec := { name := "fnExactEarthFlat", fn := fun _ => fun
  | [d] => { results := [.lit (.bool false)], args := [d] }
  | _ => none }
def FnExactEarthFlatWrongFalsely : Prop := fnExactEarthFlatRow.holds Try.pinned (OpenSpec.ofChange fnExactEarthFlatWrong)

/-- 'laws.FnCut': WHATEVER THE INPUT: true; the input reads as it did. -/
def fnCutSpec : ChangeSpec := { name := "fnCut", fn := fun _ => fun
  | [d] => { results := [.lit (.bool true)], args := [d] }
  | _ => none }
def fnCutRow : OpenClaim := { program := "ytgngmbjcllfneaa", sum := "f85c982ae87f095e8421b985997bcaf1f342810a5168fad9f1a0dc042d666407", func := "loop.example/levellingnet/laws.FnCut", spec := "fnCut", unfollowed := true, recurses := true, apart := false }
def FnCutSaid : Prop := fnCutRow.holds Try.pinned (OpenSpec.ofChange fnCutSpec)

/-- ITS FALSE NEIGHBOUR: 'it returns false'. Refute it at one input. -/
def fnCutWrong : ChangeSpec := { name := "fnCut", fn := fun _ => fun
  | [d] => { results := [.lit (.bool false)], args := [d] }
  | _ => none }
def FnCutWrongFalsely : Prop := fnCutRow.holds Try.pinned (OpenSpec.ofChange fnCutWrong)

/-- 'laws.FnEarthMove': WHATEVER THE INPUT: true; the input reads as it did. -/
def fnEarthMoveSpec : ChangeSpec := { name := "fnEarthMove", fn := fun _ => fun
  | [d] => { results := [.lit (.bool true)], args := [d] }
  | _ => none }
def fnEarthMoveRow : OpenClaim := { program := "ytgngmbjcllfneaa", sum := "f85c982ae87f095e8421b985997bcaf1f342810a5168fad9f1a0dc042d666407", func := "loop.example/levellingnet/laws.FnEarthMove", spec := "fnEarthMove", unfollowed := true, recurses := true, apart := false }
def FnEarthMoveSaid : Prop := fnEarthMoveRow.holds Try.pinned (OpenSpec.ofChange fnEarthMoveSpec)

/-- ITS FALSE NEIGHBOUR: 'it returns false'. Refute it at one input. -/
def fnEarthMoveWrong : ChangeSpec := { name := "fnEarthMove", fn := fun _ => fun
  | [d] => { results := [.lit (.bool false)], args := [d] }
  | _ => none }
def FnEarthMoveWrongFalsely : Prop := fnEarthMoveRow.holds Try.pinned (OpenSpec.ofChange fnEarthMoveWrong)

/-- 'laws.FnEarthFlat': WHATEVER THE INPUT: true; the input reads as it did. -/
def fnEarthFlatSpec : ChangeSpec := { name := "fnEarthFlat", fn := fun _ => fun
  | [d1, d2] => { results := [.lit (.bool true)], args := [d1, d2] }
  | _ => none }
def fnEarthFlatRow : OpenClaim := { program := "ytgngmbjcllfneaa", sum := "f85c982ae87f095e8421b985997bcaf1f342810a5168fad9f1a0dc042d666407", func := "loop.example/levellingnet/laws.FnEarthFlat", spec := "fnEarthFlat", unfollowed := true, recurses := true, apart := false }
def FnEarthFlatSaid : Prop := fnEarthFlatRow.holds Try.pinned (OpenSpec.ofChange fnEarthFlatSpec)

/-- ITS FALSE NEIGHBOUR: 'it returns false'. Refute it at one input. -/
def fnEarthFlatWrong : ChangeSpec := { name := "fnEarthFlat", fn := fun _ => fun
  | [d1, d2] => { results := [.lit (.bool false)], args := [d1, d2] }
  | _ => none }
def FnEarthFlatWrongFalsely : Prop := fnEarthFlatRow.holds Try.pinned (OpenSpec.ofChange fnEarthFlatWrong)

/-- 'laws.FnFillLevel': WHATEVER THE INPUT: true; the input reads as it did. -/
def fnFillLevelSpec : ChangeSpec := { name := "fnFillLevel", fn := fun _ => fun
  | [d] => { results := [.lit (.bool true)], args := [d] }
  | _ => none }
def fnFillLevelRow : OpenClaim := { program := "ytgngmbjcllfneaa", sum := "f85c982ae87f095e8421b985997bcaf1f342810a5168fad9f1a0dc042d666407", func := "loop.example/levellingnet/laws.FnFillLevel", spec := "fnFillLevel", unfollowed := true, recurses := true, apart := false }
def FnFillLevelSaid : Prop := fnFillLevelRow.holds Try.pinned (OpenSpec.ofChange fnFillLevelSpec)

/-- ITS FALSE NEIGHBOUR: 'it returns false'. Refute it at one input. -/
def fnFillLevelWrong : ChangeSpec := { name := "fnFillLevel", fn := fun _ => fun
  | [d] => { results := [.lit (.bool false)], args := [d] }
  | _ => none }
def FnFillLevelWrongFalsely : Prop := fnFillLevelRow.holds Try.pinned (OpenSpec.ofChange fnFillLevelWrong)

/-- 'laws.FnEarthLevel': WHATEVER THE INPUT: true; the input reads as it did. -/
def fnEarthLevelSpec : ChangeSpec := { name := "fnEarthLevel", fn := fun _ => fun
  | [d] => { results := [.lit (.bool true)], args := [d] }
  | _ => none }
def fnEarthLevelRow : OpenClaim := { program := "ytgngmbjcllfneaa", sum := "f85c982ae87f095e8421b985997bcaf1f342810a5168fad9f1a0dc042d666407", func := "loop.example/levellingnet/laws.FnEarthLevel", spec := "fnEarthLevel", unfollowed := true, recurses := true, apart := false }
def FnEarthLevelSaid : Prop := fnEarthLevelRow.holds Try.pinned (OpenSpec.ofChange fnEarthLevelSpec)

/-- ITS FALSE NEIGHBOUR: 'it returns false'. Refute it at one input. -/
def fnEarthLevelWrong : ChangeSpec := { name := "fnEarthLevel", fn := fun _ => fun
  | [d] => { results := [.lit (.bool false)], args := [d] }
  | _ => none }
def FnEarthLevelWrongFalsely : Prop := fnEarthLevelRow.holds Try.pinned (OpenSpec.ofChange fnEarthLevelWrong)

/-- 'laws.FnHaulGrid': WHATEVER THE INPUT: true; the input reads as it did. -/
def fnHaulGridSpec : ChangeSpec := { name := "fnHaulGrid", fn := fun _ => fun
  | [d] => { results := [.lit (.bool true)], args := [d] }
  | _ => none }
def fnHaulGridRow : OpenClaim := { program := "ytgngmbjcllfneaa", sum := "f85c982ae87f095e8421b985997bcaf1f342810a5168fad9f1a0dc042d666407", func := "loop.example/levellingnet/laws.FnHaulGrid", spec := "fnHaulGrid", unfollowed := true, recurses := true, apart := false }
def FnHaulGridSaid : Prop := fnHaulGridRow.holds Try.pinned (OpenSpec.ofChange fnHaulGridSpec)

/-- ITS FALSE NEIGHBOUR: 'it returns false'. Refute it at one input. -/
def fnHaulGridWrong : ChangeSpec := { name := "fnHaulGrid", fn := fun _ => fun
  | [d] => { results := [.lit (.bool false)], args := [d] }
  | _ => none }
def FnHaulGridWrongFalsely : Prop := fnHaulGridRow.holds Try.pinned (OpenSpec.ofChange fnHaulGridWrong)

/- THE SECOND FORM. 'bulk': how many values and letters a reading holds, each counted each time it is reached (what is shared counts as often as it is met; a slice's spare places count too). A statement '..UptoSaid' is the law's where the arguments, and the package variables that the reading takes, are together of bulk at most 1048576: NARROWER than '..Said'. Prove '..Said' where nothing that the law and all that it calls make is longer than what came in: it says more and counts as full. Else prove '..UptoSaid'. A law counts once. -/
mutual
def uptoBulk {H : Type} : DataW H → Nat
  | .lit (.string bytes) => bytes.length + 1
  | .lit _ => 1
  | .nil => 1
  | .ptr d => uptoBulk d + 1
  | .slice elems spare => uptoBulkAll elems + uptoBulkAll spare + 1
  | .agg parts => uptoBulkAll parts + 1
  | .iface _ d => uptoBulk d + 1
  | .map entries => uptoBulkEntries entries + 1
  | .held _ => 1
def uptoBulkAll {H : Type} : List (DataW H) → Nat
  | [] => 0
  | d :: r => uptoBulk d + uptoBulkAll r
def uptoBulkEntries {H : Type} : List (Lit × DataW H) → Nat
  | [] => 0
  | x :: r => uptoBulkEntry x + uptoBulkEntries r
def uptoBulkEntry {H : Type} : Lit × DataW H → Nat
  | (.string bytes, d) => bytes.length + uptoBulk d + 1
  | (_, d) => uptoBulk d + 1
 end
def uptoSmall : (H : Type) → List (DataW H) → Bool := fun _ ds => decide (uptoBulkAll ds ≤ 1048576)
def OpenSpec.upto (s : _root_.Go.ChangeSpec) : _root_.Go.OpenSpec := { _root_.Go.OpenSpec.ofChange s with cond := some uptoSmall }

/-- 'laws.FnExactEarthCut', WHERE WHAT IT READS IS OF BULK AT MOST 1048576: true; the input reads as it did. -/
def fnExactEarthCutUptoRow : OpenClaim := { program := "ytgngmbjcllfneaa", sum := "f85c982ae87f095e8421b985997bcaf1f342810a5168fad9f1a0dc042d666407", func := "loop.example/levellingnet/laws.FnExactEarthCut", spec := "fnExactEarthCut", unfollowed := true, recurses := true, apart := false, narrowed := true }
def FnExactEarthCutUptoSaid : Prop := fnExactEarthCutUptoRow.holds Try.pinned (OpenSpec.upto fnExactEarthCutSpec)

/-- 'laws.FnExactEarthFill', WHERE WHAT IT READS IS OF BULK AT MOST 1048576: true; the input reads as it did. -/
def fnExactEarthFillUptoRow : OpenClaim := { program := "ytgngmbjcllfneaa", sum := "f85c982ae87f095e8421b985997bcaf1f342810a5168fad9f1a0dc042d666407", func := "loop.example/levellingnet/laws.FnExactEarthFill", spec := "fnExactEarthFill", unfollowed := true, recurses := true, apart := false, narrowed := true }
def FnExactEarthFillUptoSaid : Prop := fnExactEarthFillUptoRow.holds Try.pinned (OpenSpec.upto fnExactEarthFillSpec)

/-- 'laws.FnExactEarthMove', WHERE WHAT IT READS IS OF BULK AT MOST 1048576: true; the input reads as it did. -/
def fnExactEarthMoveUptoRow : OpenClaim := { program := "ytgngmbjcllfneaa", sum := "f85c982ae87f095e8421b985997bcaf1f342810a5168fad9f1a0dc042d666407", func := "loop.example/levellingnet/laws.FnExactEarthMove", spec := "fnExactEarthMove", unfollowed := true, recurses := true, apart := false, narrowed := true }
def FnExactEarthMoveUptoSaid : Prop := fnExactEarthMoveUptoRow.holds Try.pinned (OpenSpec.upto fnExactEarthMoveSpec)

/-- 'laws.FnExactEarthLevel', WHERE WHAT IT READS IS OF BULK AT MOST 1048576: true; the input reads as it did. -/
def fnExactEarthLevelUptoRow : OpenClaim := { program := "ytgngmbjcllfneaa", sum := "f85c982ae87f095e8421b985997bcaf1f342810a5168fad9f1a0dc042d666407", func := "loop.example/levellingnet/laws.FnExactEarthLevel", spec := "fnExactEarthLevel", unfollowed := true, recurses := true, apart := false, narrowed := true }
def FnExactEarthLevelUptoSaid : Prop := fnExactEarthLevelUptoRow.holds Try.pinned (OpenSpec.upto fnExactEarthLevelSpec)

/-- 'laws.FnExactEarthFlat', WHERE WHAT IT READS IS OF BULK AT MOST 1048576: true; the input reads as it did. -/
def fnExactEarthFlatUptoRow : OpenClaim := { program := "ytgngmbjcllfneaa", sum := "f85c982ae87f095e8421b985997bcaf1f342810a5168fad9f1a0dc042d666407", func := "loop.example/levellingnet/laws.FnExactEarthFlat", spec := "fnExactEarthFlat", unfollowed := true, recurses := true, apart := false, narrowed := true }
def FnExactEarthFlatUptoSaid : Prop := fnExactEarthFlatUptoRow.holds Try.pinned (OpenSpec.upto fnExactEarthFlatSpec)

/-- 'laws.FnCut', WHERE WHAT IT READS IS OF BULK AT MOST 1048576: true; the input reads as it did. -/
def fnCutUptoRow : OpenClaim := { program := "ytgngmbjcllfneaa", sum := "f85c982ae87f095e8421b985997bcaf1f342810a5168fad9f1a0dc042d666407", func := "loop.example/levellingnet/laws.FnCut", spec := "fnCut", unfollowed := true, recurses := true, apart := false, narrowed := true }
def FnCutUptoSaid : Prop := fnCutUptoRow.holds Try.pinned (OpenSpec.upto fnCutSpec)

/-- 'laws.FnEarthMove', WHERE WHAT IT READS IS OF BULK AT MOST 1048576: true; the input reads as it did. -/
def fnEarthMoveUptoRow : OpenClaim := { program := "ytgngmbjcllfneaa", sum := "f85c982ae87f095e8421b985997bcaf1f342810a5168fad9f1a0dc042d666407", func := "loop.example/levellingnet/laws.FnEarthMove", spec := "fnEarthMove", unfollowed := true, recurses := true, apart := false, narrowed := true }
def FnEarthMoveUptoSaid : Prop := fnEarthMoveUptoRow.holds Try.pinned (OpenSpec.upto fnEarthMoveSpec)

/-- 'laws.FnEarthFlat', WHERE WHAT IT READS IS OF BULK AT MOST 1048576: true; the input reads as it did. -/
def fnEarthFlatUptoRow : OpenClaim := { program := "ytgngmbjcllfneaa", sum := "f85c982ae87f095e8421b985997bcaf1f342810a5168fad9f1a0dc042d666407", func := "loop.example/levellingnet/laws.FnEarthFlat", spec := "fnEarthFlat", unfollowed := true, recurses := true, apart := false, narrowed := true }
def FnEarthFlatUptoSaid : Prop := fnEarthFlatUptoRow.holds Try.pinned (OpenSpec.upto fnEarthFlatSpec)

/-- 'laws.FnFillLevel', WHERE WHAT IT READS IS OF BULK AT MOST 1048576: true; the input reads as it did. -/
def fnFillLevelUptoRow : OpenClaim := { program := "ytgngmbjcllfneaa", sum := "f85c982ae87f095e8421b985997bcaf1f342810a5168fad9f1a0dc042d666407", func := "loop.example/levellingnet/laws.FnFillLevel", spec := "fnFillLevel", unfollowed := true, recurses := true, apart := false, narrowed := true }
def FnFillLevelUptoSaid : Prop := fnFillLevelUptoRow.holds Try.pinned (OpenSpec.upto fnFillLevelSpec)

/-- 'laws.FnEarthLevel', WHERE WHAT IT READS IS OF BULK AT MOST 1048576: true; the input reads as it did. -/
def fnEarthLevelUptoRow : OpenClaim := { program := "ytgngmbjcllfneaa", sum := "f85c982ae87f095e8421b985997bcaf1f342810a5168fad9f1a0dc042d666407", func := "loop.example/levellingnet/laws.FnEarthLevel", spec := "fnEarthLevel", unfollowed := true, recurses := true, apart := false, narrowed := true }
def FnEarthLevelUptoSaid : Prop := fnEarthLevelUptoRow.holds Try.pinned (OpenSpec.upto fnEarthLevelSpec)

/-- 'laws.FnHaulGrid', WHERE WHAT IT READS IS OF BULK AT MOST 1048576: true; the input reads as it did. -/
def fnHaulGridUptoRow : OpenClaim := { program := "ytgngmbjcllfneaa", sum := "f85c982ae87f095e8421b985997bcaf1f342810a5168fad9f1a0dc042d666407", func := "loop.example/levellingnet/laws.FnHaulGrid", spec := "fnHaulGrid", unfollowed := true, recurses := true, apart := false, narrowed := true }
def FnHaulGridUptoSaid : Prop := fnHaulGridUptoRow.holds Try.pinned (OpenSpec.upto fnHaulGridSpec)

end Rows
end Go.Proofs.Ytgngmbjcllfneaa

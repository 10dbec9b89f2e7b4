/-
  No cell of these rows narrows 'for every input' (looked for: loops, veiled, ifaces, maps, wideKeys, modest, calm, conditions, laid).
  DERIVED. THE GIVEN ROWS OF THIS SEAT. 9 by the template 'for every input the law returns true; each argument reads behind the call as it read before'; 0 by the template 'total and deterministic' (their statements: YtgoejfdciejikaaTotals.lean).
  GIVEN WITH THE SEED: the statements are not yours to turn. If you find one false, say at which input.
  Laid BY PROGRAM, IN A SANDBOX (cutbox-rows.mjs): the forced cells as the released guide's own fill.sh prints them over the translation a1f493e831fa46d7… (all of the seat's roots in one cut). By AI agents, Wed Nov 11 2026. No macro, syntax, notation, axiom, sorry.
-/
import Derived.Test.YtgoejfdciejikaaChecked
import GoSem.Claim
import GoSem.ClaimJoined
import GoSem.ClaimMapViews
import Derived.JoinedTies
import Derived.KernelRfl
namespace Go.Proofs.Ytgoejfdciejikaa
/- THE CELL 'sum', in the pinned program and in every row, IS THE sha256 OF THE DUMP (.gsa) THAT YtgoejfdciejikaaProg.lean LOADS. Nothing in Lean hashes anything: it is a label: what it is worth is what the hold of that sum in a sandbox is worth. -/
noncomputable def Try.pinned : Pinned := { name := "ytgoejfdciejikaa", sum := "a1f493e831fa46d707a43ac9e87b10c30521671d852aaeee739d1167d47e84ae", checked := Try.checked }
namespace Rows
def none {H : Type} : Left H := { results := [], args := [] }

/-- 'laws.FnExactCrossSame': WHATEVER THE INPUT: true; the input reads as it did. -/
def fnExactCrossSameSpec : ChangeSpec := { name := "fnExactCrossSame", fn := fun _ => fun
  | [d1, d2, d3, d4] => { results := [.lit (.bool true)], args := [d1, d2, d3, d4] }
  | _ => none }
def fnExactCrossSameRow : OpenClaim := { program := "ytgoejfdciejikaa", sum := "a1f493e831fa46d707a43ac9e87b10c30521671d852aaeee739d1167d47e84ae", func := "loop.example/levellingnet/laws.FnExactCrossSame", spec := "fnExactCrossSame", apart := false }
def FnExactCrossSameSaid : Prop := fnExactCrossSameRow.holds Try.pinned (OpenSpec.ofChange fnExactCrossSameSpec)

/-- ITS FALSE NEIGHBOUR: 'it returns false'. Refute it at one input. -/
def fnExactCrossSameWrong : ChangeSpec := { name := "fnExactCrossSame", fn := fun _ => fun
  | [d1, d2, d3, d4] => { results := [.lit (.bool false)], args := [d1, d2, d3, d4] }
  | _ => none }
def FnExactCrossSameWrongFalsely : Prop := fnExactCrossSameRow.holds Try.pinned (OpenSpec.ofChange fnExactCrossSameWrong)

/-- 'laws.FnExactCrossInner': WHATEVER THE INPUT: true; the input reads as it did. -/
def fnExactCrossInnerSpec : ChangeSpec := { name := "fnExactCrossInner", fn := fun _ => fun
  | [d1, d2, d3, d4] => { results := [.lit (.bool true)], args := [d1, d2, d3, d4] }
  | _ => none }
def fnExactCrossInnerRow : OpenClaim := { program := "ytgoejfdciejikaa", sum := "a1f493e831fa46d707a43ac9e87b10c30521671d852aaeee739d1167d47e84ae", func := "loop.example/levellingnet/laws.FnExactCrossInner", spec := "fnExactCrossInner", apart := false }
def FnExactCrossInnerSaid : Prop := fnExactCrossInnerRow.holds Try.pinned (OpenSpec.ofChange fnExactCrossInnerSpec)

/-- ITS FALSE NEIGHBOUR: 'it returns false'. Refute it at one input. -/
def fnExactCrossInnerWrong : ChangeSpec := { name := "fnExactCrossInner", fn := fun _ => fun
  | [d1, d2, d3, d4] => { results := [.lit (.bool false)], args := [d1, d2, d3, d4] }
  | _ => none }
def FnExactCrossInnerWrongFalsely : Prop := fnExactCrossInnerRow.holds Try.pinned (OpenSpec.ofChange fnExactCrossInnerWrong)

/-- 'laws.FnExactCrossOf': WHATEVER THE INPUT: true; the input reads as it did. -/
def fnExactCrossOfSpec : ChangeSpec := { name := "fnExactCrossOf", fn := fun _ => fun
  | [d1, d2, d3, d4] => { results := [.lit (.bool true)], args := [d1, d2, d3, d4] }
  | _ => none }
def fnExactCrossOfRow : OpenClaim := { program := "ytgoejfdciejikaa", sum := "a1f493e831fa46d707a43ac9e87b10c30521671d852aaeee739d1167d47e84ae", func := "loop.example/levellingnet/laws.FnExactCrossOf", spec := "fnExactCrossOf", apart := false }
def FnExactCrossOfSaid : Prop := fnExactCrossOfRow.holds Try.pinned (OpenSpec.ofChange fnExactCrossOfSpec)

/-- ITS FALSE NEIGHBOUR: 'it returns false'. Refute it at one input. -/
def fnExactCrossOfWrong : ChangeSpec := { name := "fnExactCrossOf", fn := fun _ => fun
  | [d1, d2, d3, d4] => { results := [.lit (.bool false)], args := [d1, d2, d3, d4] }
  | _ => none }
def FnExactCrossOfWrongFalsely : Prop := fnExactCrossOfRow.holds Try.pinned (OpenSpec.ofChange fnExactCrossOfWrong)

/-- 'laws.FnExactCrossAt': WHATEVER THE INPUT: true; the input reads as it did. -/
def fnExactCrossAtSpec : ChangeSpec := { name := "fnExactCrossAt", fn := fun _ => fun
  | [d1, d2, d3, d4] => { results := [.lit (.bool true)], args := [d1, d2, d3, d4] }
  | _ => none }
def fnExactCrossAtRow : OpenClaim := { program := "ytgoejfdciejikaa", sum := "a1f493e831fa46d707a43ac9e87b10c30521671d852aaeee739d1167d47e84ae", func := "loop.example/levellingnet/laws.FnExactCrossAt", spec := "fnExactCrossAt", apart := false }
def FnExactCrossAtSaid : Prop := fnExactCrossAtRow.holds Try.pinned (OpenSpec.ofChange fnExactCrossAtSpec)

/-- ITS FALSE NEIGHBOUR: 'it returns false'. Refute it at one input. -/
def fnExactCrossAtWrong : ChangeSpec := { name := "fnExactCrossAt", fn := fun _ => fun
  | [d1, d2, d3, d4] => { results := [.lit (.bool false)], args := [d1, d2, d3, d4] }
  | _ => none }
def FnExactCrossAtWrongFalsely : Prop := fnExactCrossAtRow.holds Try.pinned (OpenSpec.ofChange fnExactCrossAtWrong)

/-- 'laws.FnCrossInner': WHATEVER THE INPUT: true; the input reads as it did. -/
def fnCrossInnerSpec : ChangeSpec := { name := "fnCrossInner", fn := fun _ => fun
  | [d] => { results := [.lit (.bool true)], args := [d] }
  | _ => none }
def fnCrossInnerRow : OpenClaim := { program := "ytgoejfdciejikaa", sum := "a1f493e831fa46d707a43ac9e87b10c30521671d852aaeee739d1167d47e84ae", func := "loop.example/levellingnet/laws.FnCrossInner", spec := "fnCrossInner", apart := false }
def FnCrossInnerSaid : Prop := fnCrossInnerRow.holds Try.pinned (OpenSpec.ofChange fnCrossInnerSpec)

/-- ITS FALSE NEIGHBOUR: 'it returns false'. Refute it at one input. -/
def fnCrossInnerWrong : ChangeSpec := { name := "fnCrossInner", fn := fun _ => fun
  | [d] => { results := [.lit (.bool false)], args := [d] }
  | _ => none }
def FnCrossInnerWrongFalsely : Prop := fnCrossInnerRow.holds Try.pinned (OpenSpec.ofChange fnCrossInnerWrong)

/-- 'laws.FnCrossSame': WHATEVER THE INPUT: true; the input reads as it did. -/
def fnCrossSameSpec : ChangeSpec := { name := "fnCrossSame", fn := fun _ => fun
  | [d] => { results := [.lit (.bool true)], args := [d] }
  | _ => none }
def fnCrossSameRow : OpenClaim := { program := "ytgoejfdciejikaa", sum := "a1f493e831fa46d707a43ac9e87b10c30521671d852aaeee739d1167d47e84ae", func := "loop.example/levellingnet/laws.FnCrossSame", spec := "fnCrossSame", apart := false }
def FnCrossSameSaid : Prop := fnCrossSameRow.holds Try.pinned (OpenSpec.ofChange fnCrossSameSpec)

/-- ITS FALSE NEIGHBOUR: 'it returns false'. Refute it at one input. -/
def fnCrossSameWrong : ChangeSpec := { name := "fnCrossSame", fn := fun _ => fun
  | [d] => { results := [.lit (.bool false)], args := [d] }
  | _ => none }
def FnCrossSameWrongFalsely : Prop := fnCrossSameRow.holds Try.pinned (OpenSpec.ofChange fnCrossSameWrong)

/-- 'laws.FnCross': WHATEVER THE INPUT: true; the input reads as it did. -/
def fnCrossSpec : ChangeSpec := { name := "fnCross", fn := fun _ => fun
  | [d] => { results := [.lit (.bool true)], args := [d] }
  | _ => none }
def fnCrossRow : OpenClaim := { program := "ytgoejfdciejikaa", sum := "a1f493e831fa46d707a43ac9e87b10c30521671d852aaeee739d1167d47e84ae", func := "loop.example/levellingnet/laws.FnCross", spec := "fnCross", apart := false }
def FnCrossSaid : Prop := fnCrossRow.holds Try.pinned (OpenSpec.ofChange fnCrossSpec)

/-- ITS FALSE NEIGHBOUR: 'it returns false'. Refute it at one input. -/
def fnCrossWrong : ChangeSpec := { name := "fnCross", fn := fun _ => fun
  | [d] => { results := [.lit (.bool false)], args := [d] }
  | _ => none }
def FnCrossWrongFalsely : Prop := fnCrossRow.holds Try.pinned (OpenSpec.ofChange fnCrossWrong)

/-- 'laws.FnCrossOf': WHATEVER THE INPUT: true; the input reads as it did. -/
def fnCrossOfSpec : ChangeSpec := { name := "fnCrossOf", fn := fun _ => fun
  | [d] => { results := [.lit (.bool true)], args := [d] }
  | _ => none }
def fnCrossOfRow : OpenClaim := { program := "ytgoejfdciejikaa", sum := "a1f493e831fa46d707a43ac9e87b10c30521671d852aaeee739d1167d47e84ae", func := "loop.example/levellingnet/laws.FnCrossOf", spec := "fnCrossOf", unfollowed := true, recurses := true, apart := false }
def FnCrossOfSaid : Prop := fnCrossOfRow.holds Try.pinned (OpenSpec.ofChange fnCrossOfSpec)

/-- ITS FALSE NEIGHBOUR: 'it returns false'. Refute it at one input. -/
def fnCrossOfWrong : ChangeSpec := { name := "fnCrossOf", fn := fun _ => fun
  | [d] => { results := [.lit (.bool false)], args := [d] }
  | _ => none }
def FnCrossOfWrongFalsely : Prop := fnCrossOfRow.holds Try.pinned (OpenSpec.ofChange fnCrossOfWrong)

/-- 'laws.FnCrossQuad': WHATEVER THE INPUT: true; the input reads as it did. -/
def fnCrossQuadSpec : ChangeSpec := { name := "fnCrossQuad", fn := fun _ => fun
  | [d] => { results := [.lit (.bool true)], args := [d] }
  | _ => none }
def fnCrossQuadRow : OpenClaim := { program := "ytgoejfdciejikaa", sum := "a1f493e831fa46d707a43ac9e87b10c30521671d852aaeee739d1167d47e84ae", func := "loop.example/levellingnet/laws.FnCrossQuad", spec := "fnCrossQuad", unfollowed := true, recurses := true, apart := false }
def FnCrossQuadSaid : Prop := fnCrossQuadRow.holds Try.pinned (OpenSpec.ofChange fnCrossQuadSpec)

/-- ITS FALSE NEIGHBOUR: 'it returns false'. Refute it at one input. -/
def fnCrossQuadWrong : ChangeSpec := { name := "fnCrossQuad", fn := fun _ => fun
  | [d] => { results := [.lit (.bool false)], args := [d] }
  | _ => none }
def FnCrossQuadWrongFalsely : Prop := fnCrossQuadRow.holds Try.pinned (OpenSpec.ofChange fnCrossQuadWrong)

/- THE SECOND FORM. 'bulk': how many values and letters a reading holds, each counted each time it is reached (what is shared counts as often as it is met; a slice's spare places count too). A statement '..UptoSaid' is the law's where the arguments, and the package variables that the reading takes, are together of bulk at most 1048576: NARROWER than '..Said'. Prove '..Said' where nothing that the law and all that it calls make is longer than what came in: it says more and counts as full. Else prove '..UptoSaid'. A law counts once. -/
mutual
def uptoBulk {H : Type} : DataW H → Nat
  | .lit (.string bytes) => bytes.length + 1
  | .lit _ => 1
  | .nil => 1
  | .ptr d => uptoBulk d + 1
  | .slice elems spare => uptoBulkAll elems + uptoBulkAll spare + 1
  | .agg parts => uptoBulkAll parts + 1
  | .iface _ d => uptoBulk d + 1
  | .map entries => uptoBulkEntries entries + 1
  | .held _ => 1
def uptoBulkAll {H : Type} : List (DataW H) → Nat
  | [] => 0
  | d :: r => uptoBulk d + uptoBulkAll r
def uptoBulkEntries {H : Type} : List (Lit × DataW H) → Nat
  | [] => 0
  | x :: r => uptoBulkEntry x + uptoBulkEntries r
def uptoBulkEntry {H : Type} : Lit × DataW H → Nat
  | (.string bytes, d) => bytes.length + uptoBulk d + 1
  | (_, d) => uptoBulk d + 1
 end
def uptoSmall : (H : Type) → List (DataW H) → Bool := fun _ ds => decide (uptoBulkAll ds ≤ 1048576)
def OpenSpec.upto (s : _root_.Go.ChangeSpec) : _root_.Go.OpenSpec := { _root_.Go.OpenSpec.ofChange s with cond := some uptoSmall }

/-- 'laws.FnExactCrossSame', WHERE WHAT IT READS IS OF BULK AT MOST 1048576: true; the input reads as it did. -/
def fnExactCrossSameUptoRow : OpenClaim := { program := "ytgoejfdciejikaa", sum := "a1f493e831fa46d707a43ac9e87b10c30521671d852aaeee739d1167d47e84ae", func := "loop.example/levellingnet/laws.FnExactCrossSame", spec := "fnExactCrossSame", apart := false, narrowed := true }
def FnExactCrossSameUptoSaid : Prop := fnExactCrossSameUptoRow.holds Try.pinned (OpenSpec.upto fnExactCrossSameSpec)

/-- 'laws.FnExactCrossInner', WHERE WHAT IT READS IS OF BULK AT MOST 1048576: true; the input reads as it did. -/
def fnExactCrossInnerUptoRow : OpenClaim := { program := "ytgoejfdciejikaa", sum := "a1f493e831fa46d707a43ac9e87b10c30521671d852aaeee739d1167d47e84ae", func := "loop.example/levellingnet/laws.FnExactCrossInner", spec := "fnExactCrossInner", apart := false, narrowed := true }
def FnExactCrossInnerUptoSaid : Prop := fnExactCrossInnerUptoRow.holds Try.pinned (OpenSpec.upto fnExactCrossInnerSpec)

/-- 'laws.FnExactCrossOf', WHERE WHAT IT READS IS OF BULK AT MOST 1048576: true; the input reads as it did. -/
def fnExactCrossOfUptoRow : OpenClaim := { program := "ytgoejfdciejikaa", sum := "a1f493e831fa46d707a43ac9e87b10c30521671d852aaeee739d1167d47e84ae", func := "loop.example/levellingnet/laws.FnExactCrossOf", spec := "fnExactCrossOf", apart := false, narrowed := true }
def FnExactCrossOfUptoSaid : Prop := fnExactCrossOfUptoRow.holds Try.pinned (OpenSpec.upto fnExactCrossOfSpec)

/-- 'laws.FnExactCrossAt', WHERE WHAT IT READS IS OF BULK AT MOST 1048576: true; the input reads as it did. -/
def fnExactCrossAtUptoRow : OpenClaim := { program := "ytgoejfdciejikaa", sum := "a1f493e831fa46d707a43ac9e87b10c30521671d852aaeee739d1167d47e84ae", func := "loop.example/levellingnet/laws.FnExactCrossAt", spec := "fnExactCrossAt", apart := false, narrowed := true }
def FnExactCrossAtUptoSaid : Prop := fnExactCrossAtUptoRow.holds Try.pinned (OpenSpec.upto fnExactCrossAtSpec)

/-- 'laws.FnCrossInner', WHERE WHAT IT READS IS OF BULK AT MOST 1048576: true; the input reads as it did. -/
def fnCrossInnerUptoRow : OpenClaim := { program := "ytgoejfdciejikaa", sum := "a1f493e831fa46d707a43ac9e87b10c30521671d852aaeee739d1167d47e84ae", func := "loop.example/levellingnet/laws.FnCrossInner", spec := "fnCrossInner", apart := false, narrowed := true }
def FnCrossInnerUptoSaid : Prop := fnCrossInnerUptoRow.holds Try.pinned (OpenSpec.upto fnCrossInnerSpec)

/-- 'laws.FnCrossSame', WHERE WHAT IT READS IS OF BULK AT MOST 1048576: true; the input reads as it did. -/
def fnCrossSameUptoRow : OpenClaim := { program := "ytgoejfdciejikaa", sum := "a1f493e831fa46d707a43ac9e87b10c30521671d852aaeee739d1167d47e84ae", func := "loop.example/levellingnet/laws.FnCrossSame", spec := "fnCrossSame", apart := false, narrowed := true }
def FnCrossSameUptoSaid : Prop := fnCrossSameUptoRow.holds Try.pinned (OpenSpec.upto fnCrossSameSpec)

/-- 'laws.FnCross', WHERE WHAT IT READS IS OF BULK AT MOST 1048576: true; the input reads as it did. -/
def fnCrossUptoRow : OpenClaim := { program := "ytgoejfdciejikaa", sum := "a1f493e831fa46d707a43ac9e87b10c30521671d852aaeee739d1167d47e84ae", func := "loop.example/levellingnet/laws.FnCross", spec := "fnCross", apart := false, narrowed := true }
def FnCrossUptoSaid : Prop := fnCrossUptoRow.holds Try.pinned (OpenSpec.upto fnCrossSpec)

/-- 'laws.FnCrossOf', WHERE WHAT IT READS IS OF BULK AT MOST 1048576: true; the input reads as it did. -/
def fnCrossOfUptoRow : OpenClaim := { program := "ytgoejfdciejikaa", sum := "a1f493e831fa46d707a43ac9e87b10c30521671d852aaeee739d1167d47e84ae", func := "loop.example/levellingnet/laws.FnCrossOf", spec := "fnCrossOf", unfollowed := true, recurses := true, apart := false, narrowed := true }
def FnCrossOfUptoSaid : Prop := fnCrossOfUptoRow.holds Try.pinned (OpenSpec.upto fnCrossOfSpec)

/-- 'laws.FnCrossQuad', WHERE WHAT IT READS IS OF BULK AT MOST 1048576: true; the input reads as it did. -/
def fnCrossQuadUptoRow : OpenClaim := { program := "ytgoejfdciejikaa", sum := "a1f493e831fa46d707a43ac9e87b10c30521671d852aaeee739d1167d47e84ae", func := "loop.example/levellingnet/laws.FnCrossQuad", spec := "fnCrossQuad", unfollowed := true, recurses := true, apart := false, narrowed := true }
def FnCrossQuadUptoSaid : Prop := fnCrossQuadUptoRow.holds Try.pinned (OpenSpec.upto fnCrossQuadSpec)

end Rows
end Go.Proofs.Ytgoejfdciejikaa

/-
  No cell of these rows narrows 'for every input' (looked for: loops, veiled, ifaces, maps, wideKeys, modest, calm, conditions, laid).
  DERIVED. THE GIVEN ROWS OF THIS SEAT. 12 by the template 'for every input the law returns true; each argument reads behind the call as it read before'; 0 by the template 'total and deterministic' (their statements: YtekgcfjoimdecaaTotals.lean).
  GIVEN WITH THE SEED: the statements are not yours to turn. If you find one false, say at which input.
  Laid BY PROGRAM, IN A SANDBOX (cutbox-rows.mjs): the forced cells as the released guide's own fill.sh prints them over the translation 78f591d46d6f8ca0… (all of the seat's roots in one cut). By AI agents, Wed Nov 11 2026. No macro, syntax, notation, axiom, sorry.
-/
import Derived.Test.YtekgcfjoimdecaaChecked
import GoSem.Claim
import GoSem.ClaimJoined
import GoSem.ClaimMapViews
import Derived.JoinedTies
import Derived.KernelRfl
namespace Go.Proofs.Ytekgcfjoimdecaa
/- THE CELL 'sum', in the pinned program and in every row, IS THE sha256 OF THE DUMP (.gsa) THAT YtekgcfjoimdecaaProg.lean LOADS. Nothing in Lean hashes anything: it is a label: what it is worth is what the hold of that sum in a sandbox is worth. -/
noncomputable def Try.pinned : Pinned := { name := "ytekgcfjoimdecaa", sum := "78f591d46d6f8ca01299040f8d32d93708ba6db5c17690c9399bef4ae93b133b", checked := Try.checked }
namespace Rows
def none {H : Type} : Left H := { results := [], args := [] }

/-- 'laws.FnExactHaulBalanced': WHATEVER THE INPUT: true; the input reads as it did. -/
def fnExactHaulBalancedSpec : ChangeSpec := { name := "fnExactHaulBalanced", fn := fun _ => fun
  | [d] => { results := [.lit (.bool true)], args := [d] }
  | _ => none }
def fnExactHaulBalancedRow : OpenClaim := { program := "ytekgcfjoimdecaa", sum := "78f591d46d6f8ca01299040f8d32d93708ba6db5c17690c9399bef4ae93b133b", func := "loop.example/levellingnet/laws.FnExactHaulBalanced", spec := "fnExactHaulBalanced", apart := false }
def FnExactHaulBalancedSaid : Prop := fnExactHaulBalancedRow.holds Try.pinned (OpenSpec.ofChange fnExactHaulBalancedSpec)

/-- ITS FALSE NEIGHBOUR: 'it returns false'. Refute it at one input. -/
def fnExactHaulBalancedWrong : ChangeSpec := { name := "fnExactHaulBalanced", fn := fun _ => fun
  | [d] => { results := [.lit (.bool false)], args := [d] }
  | _ => none }
def FnExactHaulBalancedWrongFalsely : Prop := fnExactHaulBalancedRow.holds Try.pinned (OpenSpec.ofChange fnExactHaulBalancedWrong)

/-- 'laws.FnExactHaulCurve': WHATEVER THE INPUT: true; the input reads as it did. -/
def fnExactHaulCurveSpec : ChangeSpec := { name := "fnExactHaulCurve", fn := fun _ => fun
  | [d] => { results := [.lit (.bool true)], args := [d] }
  | _ => none }
def fnExactHaulCurveRow : OpenClaim := { program := "ytekgcfjoimdecaa", sum := "78f591d46d6f8ca01299040f8d32d93708ba6db5c17690c9399bef4ae93b133b", func := "loop.example/levellingnet/laws.FnExactHaulCurve", spec := "fnExactHaulCurve", apart := false }
def FnExactHaulCurveSaid : Prop := fnExactHaulCurveRow.holds Try.pinned (OpenSpec.ofChange fnExactHaulCurveSpec)

/-- ITS FALSE NEIGHBOUR: 'it returns false'. Refute it at one input. -/
def fnExactHaulCurveWrong : ChangeSpec := { name := "fnExactHaulCurve", fn := fun _ => fun
  | [d] => { results := [.lit (.bool false)], args := [d] }
  | _ => none }
def FnExactHaulCurveWrongFalsely : Prop := fnExactHaulCurveRow.holds Try.pinned (OpenSpec.ofChange fnExactHaulCurveWrong)

/-- 'laws.FnExactHaulWork': WHATEVER THE INPUT: true; the input reads as it did. -/
def fnExactHaulWorkSpec : ChangeSpec := { name := "fnExactHaulWork", fn := fun _ => fun
  | [d] => { results := [.lit (.bool true)], args := [d] }
  | _ => none }
def fnExactHaulWorkRow : OpenClaim := { program := "ytekgcfjoimdecaa", sum := "78f591d46d6f8ca01299040f8d32d93708ba6db5c17690c9399bef4ae93b133b", func := "loop.example/levellingnet/laws.FnExactHaulWork", spec := "fnExactHaulWork", apart := false }
def FnExactHaulWorkSaid : Prop := fnExactHaulWorkRow.holds Try.pinned (OpenSpec.ofChange fnExactHaulWorkSpec)

/-- ITS FALSE NEIGHBOUR: 'it returns false'. Refute it at one input. -/
def fnExactHaulWorkWrong : ChangeSpec := { name := "fnExactHaulWork", fn := fun _ => fun
  | [d] => { results := [.lit (.bool false)], args := [d] }
  | _ => none }
def FnExactHaulWorkWrongFalsely : Prop := fnExactHaulWorkRow.holds Try.pinned (OpenSpec.ofChange fnExactHaulWorkWrong)

/-- 'laws.FnHaulCurve': WHATEVER THE INPUT: true; the input reads as it did. -/
def fnHaulCurveSpec : ChangeSpec := { name := "fnHaulCurve", fn := fun _ => fun
  | [d] => { results := [.lit (.bool true)], args := [d] }
  | _ => none }
def fnHaulCurveRow : OpenClaim := { program := "ytekgcfjoimdecaa", sum := "78f591d46d6f8ca01299040f8d32d93708ba6db5c17690c9399bef4ae93b133b", func := "loop.example/levellingnet/laws.FnHaulCurve", spec := "fnHaulCurve", apart := false }
def FnHaulCurveSaid : Prop := fnHaulCurveRow.holds Try.pinned (OpenSpec.ofChange fnHaulCurveSpec)

/-- ITS FALSE NEIGHBOUR: 'it returns false'. Refute it at one input. -/
def fnHaulCurveWrong : ChangeSpec := { name := "fnHaulCurve", fn := fun _ => fun
  | [d] => { results := [.lit (.bool false)], args := [d] }
  | _ => none }
def FnHaulCurveWrongFalsely : Prop := fnHaulCurveRow.holds Try.pinned (OpenSpec.ofChange fnHaulCurveWrong)

/-- 'laws.FnHaulWork': WHATEVER THE INPUT: true; the input reads as it did. -/
def fnHaulWorkSpec : ChangeSpec := { name := "fnHaulWork", fn := fun _ => fun
  | [d] => { results := [.lit (.bool true)], args := [d] }
  | _ => none }
def fnHaulWorkRow : OpenClaim := { program := "ytekgcfjoimdecaa", sum := "78f591d46d6f8ca01299040f8d32d93708ba6db5c17690c9399bef4ae93b133b", func := "loop.example/levellingnet/laws.FnHaulWork", spec := "fnHaulWork", apart := false }
def FnHaulWorkSaid : Prop := fnHaulWorkRow.holds Try.pinned (OpenSpec.ofChange fnHaulWorkSpec)

/-- ITS FALSE NEIGHBOUR: 'it returns false'. Refute it at one input. -/
def fnHaulWorkWrong : ChangeSpec := { name := "fnHaulWork", fn := fun _ => fun
  | [d] => { results := [.lit (.bool false)], args := [d] }
  | _ => none }
def FnHaulWorkWrongFalsely : Prop := fnHaulWorkRow.holds Try.pinned (OpenSpec.ofChange fnHaulWorkWrong)

/-- 'laws.FnExactHaulOk': WHATEVER THE INPUT: true; the input reads as it did. -/
def fnExactHaulOkSpec : ChangeSpec := { name := "fnExactHaulOk", fn := fun _ => fun
  | [d1, d2] => { results := [.lit (.bool true)], args := [d1, d2] }
  | _ => none }
def fnExactHaulOkRow : OpenClaim := { program := "ytekgcfjoimdecaa", sum := "78f591d46d6f8ca01299040f8d32d93708ba6db5c17690c9399bef4ae93b133b", func := "loop.example/levellingnet/laws.FnExactHaulOk", spec := "fnExactHaulOk", apart := false }
def FnExactHaulOkSaid : Prop := fnExactHaulOkRow.holds Try.pinned (OpenSpec.ofChange fnExactHaulOkSpec)

/-- ITS FALSE NEIGHBOUR: 'it returns false'. Refute it at one input. -/
def fnExactHaulOkWrong : ChangeSpec := { name := "fnExactHaulOk", fn := fun _ => fun
  | [d1, d2] => { results := [.lit (.bool false)], args := [d1, d2] }
  | _ => none }
def FnExactHaulOkWrongFalsely : Prop := fnExactHaulOkRow.holds Try.pinned (OpenSpec.ofChange fnExactHaulOkWrong)

/-- 'laws.FnExactHaulCost': WHATEVER THE INPUT: true; the input reads as it did. -/
def fnExactHaulCostSpec : ChangeSpec := { name := "fnExactHaulCost", fn := fun _ => fun
  | [d1, d2] => { results := [.lit (.bool true)], args := [d1, d2] }
  | _ => none }
def fnExactHaulCostRow : OpenClaim := { program := "ytekgcfjoimdecaa", sum := "78f591d46d6f8ca01299040f8d32d93708ba6db5c17690c9399bef4ae93b133b", func := "loop.example/levellingnet/laws.FnExactHaulCost", spec := "fnExactHaulCost", apart := false }
def FnExactHaulCostSaid : Prop := fnExactHaulCostRow.holds Try.pinned (OpenSpec.ofChange fnExactHaulCostSpec)

/-- ITS FALSE NEIGHBOUR: 'it returns false'. Refute it at one input. -/
def fnExactHaulCostWrong : ChangeSpec := { name := "fnExactHaulCost", fn := fun _ => fun
  | [d1, d2] => { results := [.lit (.bool false)], args := [d1, d2] }
  | _ => none }
def FnExactHaulCostWrongFalsely : Prop := fnExactHaulCostRow.holds Try.pinned (OpenSpec.ofChange fnExactHaulCostWrong)

/-- 'laws.FnExactHaulPlan': WHATEVER THE INPUT: true; the input reads as it did. -/
def fnExactHaulPlanSpec : ChangeSpec := { name := "fnExactHaulPlan", fn := fun _ => fun
  | [d] => { results := [.lit (.bool true)], args := [d] }
  | _ => none }
def fnExactHaulPlanRow : OpenClaim := { program := "ytekgcfjoimdecaa", sum := "78f591d46d6f8ca01299040f8d32d93708ba6db5c17690c9399bef4ae93b133b", func := "loop.example/levellingnet/laws.FnExactHaulPlan", spec := "fnExactHaulPlan", apart := false }
def FnExactHaulPlanSaid : Prop := fnExactHaulPlanRow.holds Try.pinned (OpenSpec.ofChange fnExactHaulPlanSpec)

/-- ITS FALSE NEIGHBOUR: 'it returns false'. Refute it at one input. -/
def fnExactHaulPlanWrong : ChangeSpec := { name := "fnExactHaulPlan", fn := fun _ => fun
  | [d] => { results := [.lit (.bool false)], args := [d] }
  | _ => none }
def FnExactHaulPlanWrongFalsely : Prop := fnExactHaulPlanRow.holds Try.pinned (OpenSpec.ofChange fnExactHaulPlanWrong)

/-- 'laws.FnHaulOk': WHATEVER THE INPUT: true; the input reads as it did. -/
def fnHaulOkSpec : ChangeSpec := { name := "fnHaulOk", fn := fun _ => fun
  | [d1, d2] => { results := [.lit (.bool true)], args := [d1, d2] }
  | _ => none }
def fnHaulOkRow : OpenClaim := { program := "ytekgcfjoimdecaa", sum := "78f591d46d6f8ca01299040f8d32d93708ba6db5c17690c9399bef4ae93b133b", func := "loop.example/levellingnet/laws.FnHaulOk", spec := "fnHaulOk", apart := false }
def FnHaulOkSaid : Prop := fnHaulOkRow.holds Try.pinned (OpenSpec.ofChange fnHaulOkSpec)

/-- ITS FALSE NEIGHBOUR: 'it returns false'. Refute it at one input. -/
def fnHaulOkWrong : ChangeSpec := { name := "fnHaulOk", fn := fun _ => fun
  | [d1, d2] => { results := [.lit (.bool false)], args := [d1, d2] }
  | _ => none }
def FnHaulOkWrongFalsely : Prop := fnHaulOkRow.holds Try.pinned (OpenSpec.ofChange fnHaulOkWrong)

/-- 'laws.FnHaulPlan': WHATEVER THE INPUT: true; the input reads as it did. -/
def fnHaulPlanSpec : ChangeSpec := { name := "fnHaulPlan", fn := fun _ => fun
  | [d] => { results := [.lit (.bool true)], args := [d] }
  | _ => none }
def fnHaulPlanRow : OpenClaim := { program := "ytekgcfjoimdecaa", sum := "78f591d46d6f8ca01299040f8d32d93708ba6db5c17690c9399bef4ae93b133b", func := "loop.example/levellingnet/laws.FnHaulPlan", spec := "fnHaulPlan", apart := false }
def FnHaulPlanSaid : Prop := fnHaulPlanRow.holds Try.pinned (OpenSpec.ofChange fnHaulPlanSpec)

/-- ITS FALSE NEIGHBOUR: 'it returns false'. Refute it at one input. -/
def fnHaulPlanWrong : ChangeSpec := { name := "fnHaulPlan", fn := fun _ => fun
  | [d] => { results := [.lit (.bool false)], args := [d] }
  | _ => none }
def FnHaulPlanWrongFalsely : Prop := fnHaulPlanRow.holds Try.pinned (OpenSpec.ofChange fnHaulPlanWrong)

/-- 'laws.FnHaulCost': WHATEVER THE INPUT: true; the input reads as it did. -/
def fnHaulCostSpec : ChangeSpec := { name := "fnHaulCost", fn := fun _ => fun
  | [d] => { results := [.lit (.bool true)], args := [d] }
  | _ => none }
def fnHaulCostRow : OpenClaim := { program := "ytekgcfjoimdecaa", sum := "78f591d46d6f8ca01299040f8d32d93708ba6db5c17690c9399bef4ae93b133b", func := "loop.example/levellingnet/laws.FnHaulCost", spec := "fnHaulCost", apart := false }
def FnHaulCostSaid : Prop := fnHaulCostRow.holds Try.pinned (OpenSpec.ofChange fnHaulCostSpec)

/-- ITS FALSE NEIGHBOUR: 'it returns false'. Refute it at one input. -/
def fnHaulCostWrong : ChangeSpec := { name := "fnHaulCost", fn := fun _ => fun
  | [d] => { results := [.lit (.bool false)], args := [d] }
  | _ => none }
def FnHaulCostWrongFalsely : Prop := fnHaulCostRow.holds Try.pinned (OpenSpec.ofChange fnHaulCostWrong)

/-- 'laws.FnHaulLevel': WHATEVER THE INPUT: true; the input reads as it did. -/
def fnHaulLevelSpec : ChangeSpec := { name := "fnHaulLevel", fn := fun _ => fun
  | [d] => { results := [.lit (.bool true)], args := [d] }
  | _ => none }
def fnHaulLevelRow : OpenClaim := { program := "ytekgcfjoimdecaa", sum := "78f591d46d6f8ca01299040f8d32d93708ba6db5c17690c9399bef4ae93b133b", func := "loop.example/levellingnet/laws.FnHaulLevel", spec := "fnHaulLevel", unfollowed := true, recurses := true, apart := false }
def FnHaulLevelSaid : Prop := fnHaulLevelRow.holds Try.pinned (OpenSpec.ofChange fnHaulLevelSpec)

/-- ITS FALSE NEIGHBOUR: 'it returns false'. Refute it at one input. -/
def fnHaulLevelWrong : ChangeSpec := { name := "fnHaulLevel", fn := fun _ => fun
  | [d] => { results := [.lit (.bool false)], args := [d] }
  | _ => none }
def FnHaulLevelWrongFalsely : Prop := fnHaulLevelRow.holds Try.pinned (OpenSpec.ofChange fnHaulLevelWrong)

/- THE SECOND FORM. 'bulk': how many values and letters a reading holds, each counted each time it is reached (what is shared counts as often as it is met; a slice's spare places count too). A statement '..UptoSaid' is the law's where the arguments, and the package variables that the reading takes, are together of bulk at most 1048576: NARROWER than '..Said'. Prove '..Said' where nothing that the law and all that it calls make is longer than what came in: it says more and counts as full. Else prove '..UptoSaid'. A law counts once. -/
mutual
def uptoBulk {H : Type} : DataW H → Nat
  | .lit (.string bytes) => bytes.length + 1
  | .lit _ => 1
  | .nil => 1
  | .ptr d => uptoBulk d + 1
  | .slice elems spare => uptoBulkAll elems + uptoBulkAll spare + 1
  | .agg parts => uptoBulkAll parts + 1
  | .iface _ d => uptoBulk d + 1
  | .map entries => uptoBulkEntries entries + 1
  | .held _ => 1
def uptoBulkAll {H : Type} : List (DataW H) → Nat
  | [] => 0
  | d :: r => uptoBulk d + uptoBulkAll r
def uptoBulkEntries {H : Type} : List (Lit × DataW H) → Nat
  | [] => 0
  | x :: r => uptoBulkEntry x + uptoBulkEntries r
def uptoBulkEntry {H : Type} : Lit × DataW H → Nat
  | (.string bytes, d) => bytes.length + uptoBulk d + 1
  | (_, d) => uptoBulk d + 1
 end
def uptoSmall : (H : Type) → List (DataW H) → Bool := fun _ ds => decide (uptoBulkAll ds ≤ 1048576)
def OpenSpec.upto (s : _root_.Go.ChangeSpec) : _root_.Go.OpenSpec := { _root_.Go.OpenSpec.ofChange s with cond := some uptoSmall }

/-- 'laws.FnExactHaulBalanced', WHERE WHAT IT READS IS OF BULK AT MOST 1048576: true; the input reads as it did. -/
def fnExactHaulBalancedUptoRow : OpenClaim := { program := "ytekgcfjoimdecaa", sum := "78f591d46d6f8ca01299040f8d32d93708ba6db5c17690c9399bef4ae93b133b", func := "loop.example/levellingnet/laws.FnExactHaulBalanced", spec := "fnExactHaulBalanced", apart := false, narrowed := true }
def FnExactHaulBalancedUptoSaid : Prop := fnExactHaulBalancedUptoRow.holds Try.pinned (OpenSpec.upto fnExactHaulBalancedSpec)

/-- 'laws.FnExactHaulCurve', WHERE WHAT IT READS IS OF BULK AT MOST 1048576: true; the input reads as it did. -/
def fnExactHaulCurveUptoRow : OpenClaim := { program := "ytekgcfjoimdecaa", sum := "78f591d46d6f8ca01299040f8d32d93708ba6db5c17690c9399bef4ae93b133b", func := "loop.example/levellingnet/laws.FnExactHaulCurve", spec := "fnExactHaulCurve", apart := false, narrowed := true }
def FnExactHaulCurveUptoSaid : Prop := fnExactHaulCurveUptoRow.holds Try.pinned (OpenSpec.upto fnExactHaulCurveSpec)

/-- 'laws.FnExactHaulWork', WHERE WHAT IT READS IS OF BULK AT MOST 1048576: true; the input reads as it did. -/
def fnExactHaulWorkUptoRow : OpenClaim := { program := "ytekgcfjoimdecaa", sum := "78f591d46d6f8ca01299040f8d32d93708ba6db5c17690c9399bef4ae93b133b", func := "loop.example/levellingnet/laws.FnExactHaulWork", spec := "fnExactHaulWork", apart := false, narrowed := true }
def FnExactHaulWorkUptoSaid : Prop := fnExactHaulWorkUptoRow.holds Try.pinned (OpenSpec.upto fnExactHaulWorkSpec)

/-- 'laws.FnHaulCurve', WHERE WHAT IT READS IS OF BULK AT MOST 1048576: true; the input reads as it did. -/
def fnHaulCurveUptoRow : OpenClaim := { program := "ytekgcfjoimdecaa", sum := "78f591d46d6f8ca01299040f8d32d93708ba6db5c17690c9399bef4ae93b133b", func := "loop.example/levellingnet/laws.FnHaulCurve", spec := "fnHaulCurve", apart := false, narrowed := true }
def FnHaulCurveUptoSaid : Prop := fnHaulCurveUptoRow.holds Try.pinned (OpenSpec.upto fnHaulCurveSpec)

/-- 'laws.FnHaulWork', WHERE WHAT IT READS IS OF BULK AT MOST 1048576: true; the input reads as it did. -/
def fnHaulWorkUptoRow : OpenClaim := { program := "ytekgcfjoimdecaa", sum := "78f591d46d6f8ca01299040f8d32d93708ba6db5c17690c9399bef4ae93b133b", func := "loop.example/levellingnet/laws.FnHaulWork", spec := "fnHaulWork", apart := false, narrowed := true }
def FnHaulWorkUptoSaid : Prop := fnHaulWorkUptoRow.holds Try.pinned (OpenSpec.upto fnHaulWorkSpec)

/-- 'laws.FnExactHaulOk', WHERE WHAT IT READS IS OF BULK AT MOST 1048576: true; the input reads as it did. -/
def fnExactHaulOkUptoRow : OpenClaim := { program := "ytekgcfjoimdecaa", sum := "78f591d46d6f8ca01299040f8d32d93708ba6db5c17690c9399bef4ae93b133b", func := "loop.example/levellingnet/laws.FnExactHaulOk", spec := "fnExactHaulOk", apart := false, narrowed := true }
def FnExactHaulOkUptoSaid : Prop := fnExactHaulOkUptoRow.holds Try.pinned (OpenSpec.upto fnExactHaulOkSpec)

/-- 'laws.FnExactHaulCost', WHERE WHAT IT READS IS OF BULK AT MOST 1048576: true; the input reads as it did. -/
def fnExactHaulCostUptoRow : OpenClaim := { program := "ytekgcfjoimdecaa", sum := "78f591d46d6f8ca01299040f8d32d93708ba6db5c17690c9399bef4ae93b133b", func := "loop.example/levellingnet/laws.FnExactHaulCost", spec := "fnExactHaulCost", apart := false, narrowed := true }
def FnExactHaulCostUptoSaid : Prop := fnExactHaulCostUptoRow.holds Try.pinned (OpenSpec.upto fnExactHaulCostSpec)

/-- 'laws.FnExactHaulPlan', WHERE WHAT IT READS IS OF BULK AT MOST 1048576: true; the input reads as it did. -/
def fnExactHaulPlanUptoRow : OpenClaim := { program := "ytekgcfjoimdecaa", sum := "78f591d46d6f8ca01299040f8d32d93708ba6db5c17690c9399bef4ae93b133b", func := "loop.example/levellingnet/laws.FnExactHaulPlan", spec := "fnExactHaulPlan", apart := false, narrowed := true }
def FnExactHaulPlanUptoSaid : Prop := fnExactHaulPlanUptoRow.holds Try.pinned (OpenSpec.upto fnExactHaulPlanSpec)

/-- 'laws.FnHaulOk', WHERE WHAT IT READS IS OF BULK AT MOST 1048576: true; the input reads as it did. -/
def fnHaulOkUptoRow : OpenClaim := { program := "ytekgcfjoimdecaa", sum := "78f591d46d6f8ca01299040f8d32d93708ba6db5c17690c9399bef4ae93b133b", func := "loop.example/levellingnet/laws.FnHaulOk", spec := "fnHaulOk", apart := false, narrowed := true }
def FnHaulOkUptoSaid : Prop := fnHaulOkUptoRow.holds Try.pinned (OpenSpec.upto fnHaulOkSpec)

/-- 'laws.FnHaulPlan', WHERE WHAT IT READS IS OF BULK AT MOST 1048576: true; the input reads as it did. -/
def fnHaulPlanUptoRow : OpenClaim := { program := "ytekgcfjoimdecaa", sum := "78f591d46d6f8ca01299040f8d32d93708ba6db5c17690c9399bef4ae93b133b", func := "loop.example/levellingnet/laws.FnHaulPlan", spec := "fnHaulPlan", apart := false, narrowed := true }
def FnHaulPlanUptoSaid : Prop := fnHaulPlanUptoRow.holds Try.pinned (OpenSpec.upto fnHaulPlanSpec)

/-- 'laws.FnHaulCost', WHERE WHAT IT READS IS OF BULK AT MOST 1048576: true; the input reads as it did. -/
def fnHaulCostUptoRow : OpenClaim := { program := "ytekgcfjoimdecaa", sum := "78f591d46d6f8ca01299040f8d32d93708ba6db5c17690c9399bef4ae93b133b", func := "loop.example/levellingnet/laws.FnHaulCost", spec := "fnHaulCost", apart := false, narrowed := true }
def FnHaulCostUptoSaid : Prop := fnHaulCostUptoRow.holds Try.pinned (OpenSpec.upto fnHaulCostSpec)

/-- 'laws.FnHaulLevel', WHERE WHAT IT READS IS OF BULK AT MOST 1048576: true; the input reads as it did. -/
def fnHaulLevelUptoRow : OpenClaim := { program := "ytekgcfjoimdecaa", sum := "78f591d46d6f8ca01299040f8d32d93708ba6db5c17690c9399bef4ae93b133b", func := "loop.example/levellingnet/laws.FnHaulLevel", spec := "fnHaulLevel", unfollowed := true, recurses := true, apart := false, narrowed := true }
def FnHaulLevelUptoSaid : Prop := fnHaulLevelUptoRow.holds Try.pinned (OpenSpec.upto fnHaulLevelSpec)

end Rows
end Go.Proofs.Ytekgcfjoimdecaa

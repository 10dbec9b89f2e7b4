/-
  No cell of these rows narrows 'for every input' (looked for: loops, veiled, ifaces, maps, wideKeys, modest, calm, conditions, laid).
  DERIVED. THE GIVEN ROWS OF THIS SEAT. 11 by the template 'for every input the law returns true; each argument reads behind the call as it read before'; 0 by the template 'total and deterministic' (their statements: YtkafhhiplimniaaTotals.lean).
  GIVEN WITH THE SEED: the statements are not yours to turn. If you find one false, say at which input.
  Laid BY PROGRAM, IN A SANDBOX (cutbox-rows.mjs): the forced cells as the released guide's own fill.sh prints them over the translation 826d4d38b7b4e8a6… (all of the seat's roots in one cut). By AI agents, Wed Nov 11 2026. No macro, syntax, notation, axiom, sorry.
-/
import Derived.Test.YtkafhhiplimniaaChecked
import GoSem.Claim
import GoSem.ClaimJoined
import GoSem.ClaimMapViews
import Derived.JoinedTies
import Derived.KernelRfl
namespace Go.Proofs.Ytkafhhiplimniaa
/- THE CELL 'sum', in the pinned program and in every row, IS THE sha256 OF THE DUMP (.gsa) THAT YtkafhhiplimniaaProg.lean LOADS. Nothing in Lean hashes anything: it is a label: what it is worth is what the hold of that sum in a sandbox is worth. -/
noncomputable def Try.pinned : Pinned := { name := "ytkafhhiplimniaa", sum := "826d4d38b7b4e8a6fa06bc1b8dbdc7c638443e7199a40f13f45a3731a81a6040", checked := Try.checked }
namespace Rows
def none {H : Type} : Left H := { results := [], args := [] }

/-- 'laws.FnExactTravelValid': WHATEVER THE INPUT: true; the input reads as it did. -/
def fnExactTravelValidSpec : ChangeSpec := { name := "fnExactTravelValid", fn := fun _ => fun
  | [d] => { results := [.lit (.bool true)], args := [d] }
  | _ => none }
def fnExactTravelValidRow : OpenClaim := { program := "ytkafhhiplimniaa", sum := "826d4d38b7b4e8a6fa06bc1b8dbdc7c638443e7199a40f13f45a3731a81a6040", func := "loop.example/levellingnet/laws.FnExactTravelValid", spec := "fnExactTravelValid", apart := false }
def FnExactTravelValidSaid : Prop := fnExactTravelValidRow.holds Try.pinned (OpenSpec.ofChange fnExactTravelValidSpec)

/-- ITS FALSE NEIGHBOUR: 'it returns false'. Refute it at one input. -/
def fnExactTravelValidWrong : ChangeSpec := { name := "fnExactTravelValid", fn := fun _ => fun
  | [d] => { results := [.lit (.bool false)], args := [d] }
  | _ => none }
def FnExactTravelValidWrongFalsely : Prop := fnExactTravelValidRow.holds Try.pinned (OpenSpec.ofChange fnExactTravelValidWrong)

/-- 'laws.FnExactTravelGap': WHATEVER THE INPUT: true; the input reads as it did. -/
def fnExactTravelGapSpec : ChangeSpec := { name := "fnExactTravelGap", fn := fun _ => fun
  | [d] => { results := [.lit (.bool true)], args := [d] }
  | _ => none }
def fnExactTravelGapRow : OpenClaim := { program := "ytkafhhiplimniaa", sum := "826d4d38b7b4e8a6fa06bc1b8dbdc7c638443e7199a40f13f45a3731a81a6040", func := "loop.example/levellingnet/laws.FnExactTravelGap", spec := "fnExactTravelGap", unfollowed := true, recurses := true, apart := false }
def FnExactTravelGapSaid : Prop := fnExactTravelGapRow.holds Try.pinned (OpenSpec.ofChange fnExactTravelGapSpec)

/-- ITS FALSE NEIGHBOUR: 'it returns false'. Refute it at one input. -/
def fnExactTravelGapWrong : ChangeSpec := { name := "fnExactTravelGap", fn := fun _ => fun
  | [d] => { results := [.lit (.bool false)], args := [d] }
  | _ => none }
def FnExactTravelGapWrongFalsely : Prop := fnExactTravelGapRow.holds Try.pinned (OpenSpec.ofChange fnExactTravelGapWrong)

/-- 'laws.FnExactTravelLength': WHATEVER THE INPUT: true; the input reads as it did. -/
def fnExactTravelLengthSpec : ChangeSpec := { name := "fnExactTravelLength", fn := fun _ => fun
  | [d] => { results := [.lit (.bool true)], args := [d] }
  | _ => none }
def fnExactTravelLengthRow : OpenClaim := { program := "ytkafhhiplimniaa", sum := "826d4d38b7b4e8a6fa06bc1b8dbdc7c638443e7199a40f13f45a3731a81a6040", func := "loop.example/levellingnet/laws.FnExactTravelLength", spec := "fnExactTravelLength", apart := false }
def FnExactTravelLengthSaid : Prop := fnExactTravelLengthRow.holds Try.pinned (OpenSpec.ofChange fnExactTravelLengthSpec)

/-- ITS FALSE NEIGHBOUR: 'it returns false'. Refute it at one input. -/
def fnExactTravelLengthWrong : ChangeSpec := { name := "fnExactTravelLength", fn := fun _ => fun
  | [d] => { results := [.lit (.bool false)], args := [d] }
  | _ => none }
def FnExactTravelLengthWrongFalsely : Prop := fnExactTravelLengthRow.holds Try.pinned (OpenSpec.ofChange fnExactTravelLengthWrong)

/-- 'laws.FnExactTravelEnd': WHATEVER THE INPUT: true; the input reads as it did. -/
def fnExactTravelEndSpec : ChangeSpec := { name := "fnExactTravelEnd", fn := fun _ => fun
  | [d1, d2] => { results := [.lit (.bool true)], args := [d1, d2] }
  | _ => none }
def fnExactTravelEndRow : OpenClaim := { program := "ytkafhhiplimniaa", sum := "826d4d38b7b4e8a6fa06bc1b8dbdc7c638443e7199a40f13f45a3731a81a6040", func := "loop.example/levellingnet/laws.FnExactTravelEnd", spec := "fnExactTravelEnd", unfollowed := true, recurses := true, apart := false }
def FnExactTravelEndSaid : Prop := fnExactTravelEndRow.holds Try.pinned (OpenSpec.ofChange fnExactTravelEndSpec)

/-- ITS FALSE NEIGHBOUR: 'it returns false'. Refute it at one input. -/
def fnExactTravelEndWrong : ChangeSpec := { name := "fnExactTravelEnd", fn := fun _ => fun
  | [d1, d2] => { results := [.lit (.bool false)], args := [d1, d2] }
  | _ => none }
def FnExactTravelEndWrongFalsely : Prop := fnExactTravelEndRow.holds Try.pinned (OpenSpec.ofChange fnExactTravelEndWrong)

/-- 'laws.FnExactTravelPoints': WHATEVER THE INPUT: true; the input reads as it did. -/
def fnExactTravelPointsSpec : ChangeSpec := { name := "fnExactTravelPoints", fn := fun _ => fun
  | [d1, d2] => { results := [.lit (.bool true)], args := [d1, d2] }
  | _ => none }
def fnExactTravelPointsRow : OpenClaim := { program := "ytkafhhiplimniaa", sum := "826d4d38b7b4e8a6fa06bc1b8dbdc7c638443e7199a40f13f45a3731a81a6040", func := "loop.example/levellingnet/laws.FnExactTravelPoints", spec := "fnExactTravelPoints", unfollowed := true, recurses := true, apart := false }
def FnExactTravelPointsSaid : Prop := fnExactTravelPointsRow.holds Try.pinned (OpenSpec.ofChange fnExactTravelPointsSpec)

/-- ITS FALSE NEIGHBOUR: 'it returns false'. Refute it at one input. -/
def fnExactTravelPointsWrong : ChangeSpec := { name := "fnExactTravelPoints", fn := fun _ => fun
  | [d1, d2] => { results := [.lit (.bool false)], args := [d1, d2] }
  | _ => none }
def FnExactTravelPointsWrongFalsely : Prop := fnExactTravelPointsRow.holds Try.pinned (OpenSpec.ofChange fnExactTravelPointsWrong)

/-- 'laws.FnExactTravelClose': WHATEVER THE INPUT: true; the input reads as it did. -/
def fnExactTravelCloseSpec : ChangeSpec := { name := "fnExactTravelClose", fn := fun _ => fun
  | [d] => { results := [.lit (.bool true)], args := [d] }
  | _ => none }
def fnExactTravelCloseRow : OpenClaim := { program := "ytkafhhiplimniaa", sum := "826d4d38b7b4e8a6fa06bc1b8dbdc7c638443e7199a40f13f45a3731a81a6040", func := "loop.example/levellingnet/laws.FnExactTravelClose", spec := "fnExactTravelClose", unfollowed := true, recurses := true, apart := false }
def FnExactTravelCloseSaid : Prop := fnExactTravelCloseRow.holds Try.pinned (OpenSpec.ofChange fnExactTravelCloseSpec)

/-- ITS FALSE NEIGHBOUR: 'it returns false'. Refute it at one input. -/
def fnExactTravelCloseWrong : ChangeSpec := { name := "fnExactTravelClose", fn := fun _ => fun
  | [d] => { results := [.lit (.bool false)], args := [d] }
  | _ => none }
def FnExactTravelCloseWrongFalsely : Prop := fnExactTravelCloseRow.holds Try.pinned (OpenSpec.ofChange fnExactTravelCloseWrong)

/-- 'laws.FnTravelLength': WHATEVER THE INPUT: true; the input reads as it did. -/
def fnTravelLengthSpec : ChangeSpec := { name := "fnTravelLength", fn := fun _ => fun
  | [d] => { results := [.lit (.bool true)], args := [d] }
  | _ => none }
def fnTravelLengthRow : OpenClaim := { program := "ytkafhhiplimniaa", sum := "826d4d38b7b4e8a6fa06bc1b8dbdc7c638443e7199a40f13f45a3731a81a6040", func := "loop.example/levellingnet/laws.FnTravelLength", spec := "fnTravelLength", unfollowed := true, recurses := true, apart := false }
def FnTravelLengthSaid : Prop := fnTravelLengthRow.holds Try.pinned (OpenSpec.ofChange fnTravelLengthSpec)

/-- ITS FALSE NEIGHBOUR: 'it returns false'. Refute it at one input. -/
def fnTravelLengthWrong : ChangeSpec := { name := "fnTravelLength", fn := fun _ => fun
  | [d] => { results := [.lit (.bool false)], args := [d] }
  | _ => none }
def FnTravelLengthWrongFalsely : Prop := fnTravelLengthRow.holds Try.pinned (OpenSpec.ofChange fnTravelLengthWrong)

/-- 'laws.FnTravelPoints': WHATEVER THE INPUT: true; the input reads as it did. -/
def fnTravelPointsSpec : ChangeSpec := { name := "fnTravelPoints", fn := fun _ => fun
  | [d] => { results := [.lit (.bool true)], args := [d] }
  | _ => none }
def fnTravelPointsRow : OpenClaim := { program := "ytkafhhiplimniaa", sum := "826d4d38b7b4e8a6fa06bc1b8dbdc7c638443e7199a40f13f45a3731a81a6040", func := "loop.example/levellingnet/laws.FnTravelPoints", spec := "fnTravelPoints", unfollowed := true, recurses := true, apart := false }
def FnTravelPointsSaid : Prop := fnTravelPointsRow.holds Try.pinned (OpenSpec.ofChange fnTravelPointsSpec)

/-- ITS FALSE NEIGHBOUR: 'it returns false'. Refute it at one input. -/
def fnTravelPointsWrong : ChangeSpec := { name := "fnTravelPoints", fn := fun _ => fun
  | [d] => { results := [.lit (.bool false)], args := [d] }
  | _ => none }
def FnTravelPointsWrongFalsely : Prop := fnTravelPointsRow.holds Try.pinned (OpenSpec.ofChange fnTravelPointsWrong)

/-- 'laws.FnTravel': WHATEVER THE INPUT: true; the input reads as it did. -/
def fnTravelSpec : ChangeSpec := { name := "fnTravel", fn := fun _ => fun
  | [d1, d2] => { results := [.lit (.bool true)], args := [d1, d2] }
  | _ => none }
def fnTravelRow : OpenClaim := { program := "ytkafhhiplimniaa", sum := "826d4d38b7b4e8a6fa06bc1b8dbdc7c638443e7199a40f13f45a3731a81a6040", func := "loop.example/levellingnet/laws.FnTravel", spec := "fnTravel", unfollowed := true, recurses := true, apart := false }
def FnTravelSaid : Prop := fnTravelRow.holds Try.pinned (OpenSpec.ofChange fnTravelSpec)

/-- ITS FALSE NEIGHBOUR: 'it returns false'. Refute it at one input. -/
def fnTravelWrong : ChangeSpec := { name := "fnTravel", fn := fun _ => fun
  | [d1, d2] => { results := [.lit (.bool false)], args := [d1, d2] }
  | _ => none }
def FnTravelWrongFalsely : Prop := fnTravelRow.holds Try.pinned (OpenSpec.ofChange fnTravelWrong)

/-- 'laws.FnTravelClose': WHATEVER THE INPUT: true; the input reads as it did. -/
def fnTravelCloseSpec : ChangeSpec := { name := "fnTravelClose", fn := fun _ => fun
  | [d] => { results := [.lit (.bool true)], args := [d] }
  | _ => none }
def fnTravelCloseRow : OpenClaim := { program := "ytkafhhiplimniaa", sum := "826d4d38b7b4e8a6fa06bc1b8dbdc7c638443e7199a40f13f45a3731a81a6040", func := "loop.example/levellingnet/laws.FnTravelClose", spec := "fnTravelClose", unfollowed := true, recurses := true, apart := false }
def FnTravelCloseSaid : Prop := fnTravelCloseRow.holds Try.pinned (OpenSpec.ofChange fnTravelCloseSpec)

/-- ITS FALSE NEIGHBOUR: 'it returns false'. Refute it at one input. -/
def fnTravelCloseWrong : ChangeSpec := { name := "fnTravelClose", fn := fun _ => fun
  | [d] => { results := [.lit (.bool false)], args := [d] }
  | _ => none }
def FnTravelCloseWrongFalsely : Prop := fnTravelCloseRow.holds Try.pinned (OpenSpec.ofChange fnTravelCloseWrong)

/-- 'laws.FnTravelArea': WHATEVER THE INPUT: true; the input reads as it did. -/
def fnTravelAreaSpec : ChangeSpec := { name := "fnTravelArea", fn := fun _ => fun
  | [d] => { results := [.lit (.bool true)], args := [d] }
  | _ => none }
def fnTravelAreaRow : OpenClaim := { program := "ytkafhhiplimniaa", sum := "826d4d38b7b4e8a6fa06bc1b8dbdc7c638443e7199a40f13f45a3731a81a6040", func := "loop.example/levellingnet/laws.FnTravelArea", spec := "fnTravelArea", unfollowed := true, recurses := true, apart := false }
def FnTravelAreaSaid : Prop := fnTravelAreaRow.holds Try.pinned (OpenSpec.ofChange fnTravelAreaSpec)

/-- ITS FALSE NEIGHBOUR: 'it returns false'. Refute it at one input. -/
def fnTravelAreaWrong : ChangeSpec := { name := "fnTravelArea", fn := fun _ => fun
  | [d] => { results := [.lit (.bool false)], args := [d] }
  | _ => none }
def FnTravelAreaWrongFalsely : Prop := fnTravelAreaRow.holds Try.pinned (OpenSpec.ofChange fnTravelAreaWrong)

/- THE SECOND FORM. 'bulk': how many values and letters a reading holds, each counted each time it is reached (what is shared counts as often as it is met; a slice's spare places count too). A statement '..UptoSaid' is the law's where the arguments, and the package variables that the reading takes, are together of bulk at most 1048576: NARROWER than '..Said'. Prove '..Said' where nothing that the law and all that it calls make is longer than what came in: it says more and counts as full. Else prove '..UptoSaid'. A law counts once. -/
mutual
def uptoBulk {H : Type} : DataW H → Nat
  | .lit (.string bytes) => bytes.length + 1
  | .lit _ => 1
  | .nil => 1
  | .ptr d => uptoBulk d + 1
  | .slice elems spare => uptoBulkAll elems + uptoBulkAll spare + 1
  | .agg parts => uptoBulkAll parts + 1
  | .iface _ d => uptoBulk d + 1
  | .map entries => uptoBulkEntries entries + 1
  | .held _ => 1
def uptoBulkAll {H : Type} : List (DataW H) → Nat
  | [] => 0
  | d :: r => uptoBulk d + uptoBulkAll r
def uptoBulkEntries {H : Type} : List (Lit × DataW H) → Nat
  | [] => 0
  | x :: r => uptoBulkEntry x + uptoBulkEntries r
def uptoBulkEntry {H : Type} : Lit × DataW H → Nat
  | (.string bytes, d) => bytes.length + uptoBulk d + 1
  | (_, d) => uptoBulk d + 1
 end
def uptoSmall : (H : Type) → List (DataW H) → Bool := fun _ ds => decide (uptoBulkAll ds ≤ 1048576)
def OpenSpec.upto (s : _root_.Go.ChangeSpec) : _root_.Go.OpenSpec := { _root_.Go.OpenSpec.ofChange s with cond := some uptoSmall }

/-- 'laws.FnExactTravelValid', WHERE WHAT IT READS IS OF BULK AT MOST 1048576: true; the input reads as it did. -/
def fnExactTravelValidUptoRow : OpenClaim := { program := "ytkafhhiplimniaa", sum := "826d4d38b7b4e8a6fa06bc1b8dbdc7c638443e7199a40f13f45a3731a81a6040", func := "loop.example/levellingnet/laws.FnExactTravelValid", spec := "fnExactTravelValid", apart := false, narrowed := true }
def FnExactTravelValidUptoSaid : Prop := fnExactTravelValidUptoRow.holds Try.pinned (OpenSpec.upto fnExactTravelValidSpec)

/-- 'laws.FnExactTravelGap', WHERE WHAT IT READS IS OF BULK AT MOST 1048576: true; the input reads as it did. -/
def fnExactTravelGapUptoRow : OpenClaim := { program := "ytkafhhiplimniaa", sum := "826d4d38b7b4e8a6fa06bc1b8dbdc7c638443e7199a40f13f45a3731a81a6040", func := "loop.example/levellingnet/laws.FnExactTravelGap", spec := "fnExactTravelGap", unfollowed := true, recurses := true, apart := false, narrowed := true }
def FnExactTravelGapUptoSaid : Prop := fnExactTravelGapUptoRow.holds Try.pinned (OpenSpec.upto fnExactTravelGapSpec)

/-- 'laws.FnExactTravelLength', WHERE WHAT IT READS IS OF BULK AT MOST 1048576: true; the input reads as it did. -/
def fnExactTravelLengthUptoRow : OpenClaim := { program := "ytkafhhiplimniaa", sum := "826d4d38b7b4e8a6fa06bc1b8dbdc7c638443e7199a40f13f45a3731a81a6040", func := "loop.example/levellingnet/laws.FnExactTravelLength", spec := "fnExactTravelLength", apart := false, narrowed := true }
def FnExactTravelLengthUptoSaid : Prop := fnExactTravelLengthUptoRow.holds Try.pinned (OpenSpec.upto fnExactTravelLengthSpec)

/-- 'laws.FnExactTravelEnd', WHERE WHAT IT READS IS OF BULK AT MOST 1048576: true; the input reads as it did. -/
def fnExactTravelEndUptoRow : OpenClaim := { program := "ytkafhhiplimniaa", sum := "826d4d38b7b4e8a6fa06bc1b8dbdc7c638443e7199a40f13f45a3731a81a6040", func := "loop.example/levellingnet/laws.FnExactTravelEnd", spec := "fnExactTravelEnd", unfollowed := true, recurses := true, apart := false, narrowed := true }
def FnExactTravelEndUptoSaid : Prop := fnExactTravelEndUptoRow.holds Try.pinned (OpenSpec.upto fnExactTravelEndSpec)

/-- 'laws.FnExactTravelPoints', WHERE WHAT IT READS IS OF BULK AT MOST 1048576: true; the input reads as it did. -/
def fnExactTravelPointsUptoRow : OpenClaim := { program := "ytkafhhiplimniaa", sum := "826d4d38b7b4e8a6fa06bc1b8dbdc7c638443e7199a40f13f45a3731a81a6040", func := "loop.example/levellingnet/laws.FnExactTravelPoints", spec := "fnExactTravelPoints", unfollowed := true, recurses := true, apart := false, narrowed := true }
def FnExactTravelPointsUptoSaid : Prop := fnExactTravelPointsUptoRow.holds Try.pinned (OpenSpec.upto fnExactTravelPointsSpec)

/-- 'laws.FnExactTravelClose', WHERE WHAT IT READS IS OF BULK AT MOST 1048576: true; the input reads as it did. -/
def fnExactTravelCloseUptoRow : OpenClaim := { program := "ytkafhhiplimniaa", sum := "826d4d38b7b4e8a6fa06bc1b8dbdc7c638443e7199a40f13f45a3731a81a6040", func := "loop.example/levellingnet/laws.FnExactTravelClose", spec := "fnExactTravelClose", unfollowed := true, recurses := true, apart := false, narrowed := true }
def FnExactTravelCloseUptoSaid : Prop := fnExactTravelCloseUptoRow.holds Try.pinned (OpenSpec.upto fnExactTravelCloseSpec)

/-- 'laws.FnTravelLength', WHERE WHAT IT READS IS OF BULK AT MOST 1048576: true; the input reads as it did. -/
def fnTravelLengthUptoRow : OpenClaim := { program := "ytkafhhiplimniaa", sum := "826d4d38b7b4e8a6fa06bc1b8dbdc7c638443e7199a40f13f45a3731a81a6040", func := "loop.example/levellingnet/laws.FnTravelLength", spec := "fnTravelLength", unfollowed := true, recurses := true, apart := false, narrowed := true }
def FnTravelLengthUptoSaid : Prop := fnTravelLengthUptoRow.holds Try.pinned (OpenSpec.upto fnTravelLengthSpec)

/-- 'laws.FnTravelPoints', WHERE WHAT IT READS IS OF BULK AT MOST 1048576: true; the input reads as it did. -/
def fnTravelPointsUptoRow : OpenClaim := { program := "ytkafhhiplimniaa", sum := "826d4d38b7b4e8a6fa06bc1b8dbdc7c638443e7199a40f13f45a3731a81a6040", func := "loop.example/levellingnet/laws.FnTravelPoints", spec := "fnTravelPoints", unfollowed := true, recurses := true, apart := false, narrowed := true }
def FnTravelPointsUptoSaid : Prop := fnTravelPointsUptoRow.holds Try.pinned (OpenSpec.upto fnTravelPointsSpec)

/-- 'laws.FnTravel', WHERE WHAT IT READS IS OF BULK AT MOST 1048576: true; the input reads as it did. -/
def fnTravelUptoRow : OpenClaim := { program := "ytkafhhiplimniaa", sum := "826d4d38b7b4e8a6fa06bc1b8dbdc7c638443e7199a40f13f45a3731a81a6040", func := "loop.example/levellingnet/laws.FnTravel", spec := "fnTravel", unfollowed := true, recurses := true, apart := false, narrowed := true }
def FnTravelUptoSaid : Prop := fnTravelUptoRow.holds Try.pinned (OpenSpec.upto fnTravelSpec)

/-- 'laws.FnTravelClose', WHERE WHAT IT READS IS OF BULK AT MOST 1048576: true; the input reads as it did. -/
def fnTravelCloseUptoRow : OpenClaim := { program := "ytkafhhiplimniaa", sum := "826d4d38b7b4e8a6fa06bc1b8dbdc7c638443e7199a40f13f45a3731a81a6040", func := "loop.example/levellingnet/laws.FnTravelClose", spec := "fnTravelClose", unfollowed := true, recurses := true, apart := false, narrowed := true }
def FnTravelCloseUptoSaid : Prop := fnTravelCloseUptoRow.holds Try.pinned (OpenSpec.upto fnTravelCloseSpec)

/-- 'laws.FnTravelArea', WHERE WHAT IT READS IS OF BULK AT MOST 1048576: true; the input reads as it did. -/
def fnTravelAreaUptoRow : OpenClaim := { program := "ytkafhhiplimniaa", sum := "826d4d38b7b4e8a6fa06bc1b8dbdc7c638443e7199a40f13f45a3731a81a6040", func := "loop.example/levellingnet/laws.FnTravelArea", spec := "fnTravelArea", unfollowed := true, recurses := true, apart := false, narrowed := true }
def FnTravelAreaUptoSaid : Prop := fnTravelAreaUptoRow.holds Try.pinned (OpenSpec.upto fnTravelAreaSpec)

end Rows
end Go.Proofs.Ytkafhhiplimniaa

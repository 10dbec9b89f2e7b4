import Derived.Test.YtppfoebalhdibaaWMore
import Derived.Deep.Slices
import Derived.Deep.Strs
import Derived.SizedLaws
set_option linter.unusedVariables false
namespace Go.Proofs.YtppfoebalhdibaaW.PrintWords
open Go.RowKit Go.ChangeShapes Go.WideShapes Go.Deep
section
variable {H : Type} {enc : TypeId × Value → H} {P : Program} {w : World} {base : Nat} {held : Bool} {spare : Nat → Bool}
end
end Go.Proofs.YtppfoebalhdibaaW.PrintWords

import Derived.Test.YtfonigbkoligmaaWWords
import Derived.Test.YtfonigbkoligmaaWApart
import Derived.Test.YtfonigbkoligmaaWN
import Derived.Test.YtfonigbkoligmaaWNEv
set_option linter.unusedVariables false
namespace Go.Proofs.YtfonigbkoligmaaW.PrintWords
open Go.RowKit
namespace Kd
section
variable {P : Program} {α : Type} {W : World} {ops : Array Oper} {rest : List Oper} {o : Oper} {a : Act} {Q : Exit → Act → World → Prop} {Kc : Act → World → Prop}
end
section
variable {P : Program} {α : Type} {W : World} {ops : Array Oper} {rest : List Oper} {o : Oper} {a : Act} {Q : Exit → Act → World → Prop} {Kc : Act → World → Prop}
end
end Kd
end Go.Proofs.YtfonigbkoligmaaW.PrintWords

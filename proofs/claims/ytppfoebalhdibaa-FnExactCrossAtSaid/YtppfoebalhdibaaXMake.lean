import Derived.Test.YtppfoebalhdibaaWWords
import Derived.Test.YtppfoebalhdibaaWApart
import Derived.Test.YtppfoebalhdibaaWN
import Derived.Test.YtppfoebalhdibaaWNEv
set_option linter.unusedVariables false
namespace Go.Proofs.YtppfoebalhdibaaW.PrintWords
open Go.RowKit
namespace Kd
section
variable {P : Program} {α : Type} {W : World} {ops : Array Oper} {rest : List Oper} {o : Oper} {a : Act} {Q : Exit → Act → World → Prop} {Kc : Act → World → Prop}
end
section
variable {P : Program} {α : Type} {W : World} {ops : Array Oper} {rest : List Oper} {o : Oper} {a : Act} {Q : Exit → Act → World → Prop} {Kc : Act → World → Prop}
end
end Kd
end Go.Proofs.YtppfoebalhdibaaW.PrintWords

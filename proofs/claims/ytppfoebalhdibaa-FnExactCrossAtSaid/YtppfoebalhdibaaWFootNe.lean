import Derived.Test.YtppfoebalhdibaaWN
namespace Go.Proofs.YtppfoebalhdibaaW.PrintWords
open Go.RowKit
namespace Kd
section
variable {α : Type} {d : Kd α} {W : World} {g n : Nat} {S ok : Nat → Prop} {A : Option Addr} {ad : Addr} {xs : List α}
end
end Kd
end Go.Proofs.YtppfoebalhdibaaW.PrintWords

import Derived.SizedLaws
import Derived.ChangeSlices
namespace Go.Proofs.YtppfoebalhdibaaW.PrintWords
open Go.ChangeShapes Go.WideShapes
end Go.Proofs.YtppfoebalhdibaaW.PrintWords

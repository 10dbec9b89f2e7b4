import Derived.SizedLaws
import Derived.ChangeSlices
namespace Go.Proofs.YtolkcbnolbkgmaaW.PrintWords
open Go.ChangeShapes Go.WideShapes
end Go.Proofs.YtolkcbnolbkgmaaW.PrintWords

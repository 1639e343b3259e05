/- How the arguments of chapter 07's statement are opened. -/
import Derived.Test.YtlkgmedenbfhkaaW7
namespace Go.Proofs.Ytlkgmedenbfhkaa
open Go.ChangeShapes Go.WideShapes Go.ChangeAt Go.RowKit Go.Deep

end Go.Proofs.Ytlkgmedenbfhkaa

/- slices.Clone of flat elements. -/
import Derived.Test.YtkekfncgpbileaaE2
import Derived.Lib.SliceRun
set_option maxRecDepth 100000
set_option linter.unusedVariables false
namespace Go.Proofs.Ytkekfncgpbileaa
open Go.RowKit Go.Fin1


end Go.Proofs.Ytkekfncgpbileaa

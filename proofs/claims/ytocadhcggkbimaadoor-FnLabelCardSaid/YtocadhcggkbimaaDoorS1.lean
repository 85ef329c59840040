/- slices.Clone of flat elements. -/
import Derived.Test.YtocadhcggkbimaaDoorE2
import Derived.Lib.SliceRun
set_option maxRecDepth 100000
set_option linter.unusedVariables false
namespace Go.Proofs.YtocadhcggkbimaaDoor
open Go.RowKit Go.Fin1


end Go.Proofs.YtocadhcggkbimaaDoor

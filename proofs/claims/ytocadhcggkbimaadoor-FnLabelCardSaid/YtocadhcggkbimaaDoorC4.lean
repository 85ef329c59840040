/- The law of Ahead. -/
import Derived.Test.YtocadhcggkbimaaDoorC2
set_option maxRecDepth 100000
set_option linter.unusedVariables false
namespace Go.Proofs.YtocadhcggkbimaaDoor
open Go.RowKit Go.Fin1

end Go.Proofs.YtocadhcggkbimaaDoor

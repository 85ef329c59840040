/- slices.Insert of one span into a row of ours. -/
import Derived.Test.YtocadhcggkbimaaDoorT0
import Derived.Test.YtocadhcggkbimaaDoorP2
import Derived.Test.YtocadhcggkbimaaDoorP3
import Derived.Test.YtocadhcggkbimaaDoorJ2
set_option maxRecDepth 100000
set_option linter.unusedVariables false
namespace Go.Proofs.YtocadhcggkbimaaDoor
open Go.RowKit Go.Fin1





end Go.Proofs.YtocadhcggkbimaaDoor

/- slices.SortFunc at jobs: what it leaves of a row of ours. -/
import Derived.Test.YtkhmdhdaldbbhaaKVSK
import Derived.Test.YtkhmdhdaldbbhaaKSLJ
import Derived.Test.YtkhmdhdaldbbhaaKTT
set_option maxRecDepth 100000
set_option linter.unusedVariables false
namespace Go.Proofs.Ytkhmdhdaldbbhaa
open Go.RowKit Go.Fin1 Go.Shelf Go.Sort
end Go.Proofs.Ytkhmdhdaldbbhaa

set_option maxRecDepth 100000
set_option linter.unusedVariables false
namespace Go.Proofs.Ytkhmdhdaldbbhaa
open Go.RowKit Go.Fin1
end Go.Proofs.Ytkhmdhdaldbbhaa

set_option maxRecDepth 100000
set_option linter.unusedVariables false
namespace Go.Proofs.Ytkhmdhdaldbbhaa
open Go.RowKit Go.Fin1
end Go.Proofs.Ytkhmdhdaldbbhaa

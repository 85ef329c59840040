/- The draws of spans. -/
import Derived.Test.YtkhmdhdaldbbhaaKDR3
import Derived.Test.YtkhmdhdaldbbhaaKTT
import Derived.Test.YtkhmdhdaldbbhaaKQA1
import Derived.Test.YtkhmdhdaldbbhaaKTU
import Derived.Test.YtkhmdhdaldbbhaaKJE
import Derived.Test.YtkhmdhdaldbbhaaKVBC
set_option maxRecDepth 100000
set_option linter.unusedVariables false
namespace Go.Proofs.Ytkhmdhdaldbbhaa
open Go.RowKit Go.Fin1

end Go.Proofs.Ytkhmdhdaldbbhaa

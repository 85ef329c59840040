/- The draws of spans. -/
import Derived.Test.YtkhmdhdaldbbhaaGreatKDR3
import Derived.Test.YtkhmdhdaldbbhaaGreatKTT
import Derived.Test.YtkhmdhdaldbbhaaGreatKQA1
import Derived.Test.YtkhmdhdaldbbhaaGreatKTU
import Derived.Test.YtkhmdhdaldbbhaaGreatKJE
import Derived.Test.YtkhmdhdaldbbhaaGreatKVBC
set_option maxRecDepth 100000
set_option linter.unusedVariables false
namespace Go.Proofs.YtkhmdhdaldbbhaaGreat
open Go.RowKit Go.Fin1

end Go.Proofs.YtkhmdhdaldbbhaaGreat

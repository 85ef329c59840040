/- The walks of the check sum. -/
import Derived.Test.YtkhmdhdaldbbhaaGreatKBA
import Derived.Test.YtkhmdhdaldbbhaaGreatKW3
set_option maxRecDepth 100000
namespace Go.Proofs.YtkhmdhdaldbbhaaGreat
open Go.RowKit Go.Fin1

end Go.Proofs.YtkhmdhdaldbbhaaGreat

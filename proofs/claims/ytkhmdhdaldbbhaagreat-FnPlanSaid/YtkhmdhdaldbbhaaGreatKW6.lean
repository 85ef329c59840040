/- The walks of GetNum, GetText. -/
import Derived.Test.YtkhmdhdaldbbhaaGreatKN
import Derived.Deep.Cut
set_option maxRecDepth 100000
namespace Go.Proofs.YtkhmdhdaldbbhaaGreat
open Go.RowKit Go.Fin1

end Go.Proofs.YtkhmdhdaldbbhaaGreat

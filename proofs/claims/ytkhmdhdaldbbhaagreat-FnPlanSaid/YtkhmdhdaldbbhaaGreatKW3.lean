/- The walks of NameRight and PutText. -/
import Derived.Test.YtkhmdhdaldbbhaaGreatKW1
import Derived.Test.YtkhmdhdaldbbhaaGreatKPN
set_option maxRecDepth 100000
namespace Go.Proofs.YtkhmdhdaldbbhaaGreat
open Go.RowKit Go.Fin1

/-! ### PutText -/
end Go.Proofs.YtkhmdhdaldbbhaaGreat

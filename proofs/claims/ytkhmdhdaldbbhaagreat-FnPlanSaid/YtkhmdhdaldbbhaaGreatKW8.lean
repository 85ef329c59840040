/- The walks of Seal, Unseal. -/
import Derived.Test.YtkhmdhdaldbbhaaGreatKW4
import Derived.Test.YtkhmdhdaldbbhaaGreatKW7
set_option maxRecDepth 100000
namespace Go.Proofs.YtkhmdhdaldbbhaaGreat
open Go.RowKit Go.Fin1


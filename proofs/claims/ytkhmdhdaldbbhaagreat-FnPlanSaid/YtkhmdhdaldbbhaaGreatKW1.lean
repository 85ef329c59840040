/- The walks of PutNum, of the program's text and of the reference's. -/
import Derived.Test.YtkhmdhdaldbbhaaGreatKBA
set_option maxRecDepth 100000
namespace Go.Proofs.YtkhmdhdaldbbhaaGreat
open Go.RowKit Go.Fin1


/- putNums: numbers behind one another. -/
import Derived.Test.YtkhmdhdaldbbhaaGreatKW1
import Derived.Test.YtkhmdhdaldbbhaaGreatKBA
import Derived.Test.YtkhmdhdaldbbhaaGreatKBG
set_option maxRecDepth 100000
namespace Go.Proofs.YtkhmdhdaldbbhaaGreat
open Go.RowKit Go.Fin1

end Go.Proofs.YtkhmdhdaldbbhaaGreat

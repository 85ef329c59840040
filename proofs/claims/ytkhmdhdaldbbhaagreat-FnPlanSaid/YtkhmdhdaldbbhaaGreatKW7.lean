/- The laws of GetNum and GetText. -/
import Derived.Test.YtkhmdhdaldbbhaaGreatKW6
import Derived.Test.YtkhmdhdaldbbhaaGreatKBG
import Derived.Test.YtkhmdhdaldbbhaaGreatKBA
set_option maxRecDepth 100000
namespace Go.Proofs.YtkhmdhdaldbbhaaGreat
open Go.RowKit Go.Fin1

/-- What GetText answers. -/
structure TextO where
  t : ByteArray
  at_ : Int
  c : Int


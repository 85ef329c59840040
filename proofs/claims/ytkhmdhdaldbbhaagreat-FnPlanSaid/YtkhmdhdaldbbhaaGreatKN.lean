/- Plain mathematics of GetNum, GetText. No program is in sight. -/
import Derived.Test.YtkhmdhdaldbbhaaGreatKW3
set_option maxRecDepth 100000
namespace Go.Proofs.YtkhmdhdaldbbhaaGreat
open Go.RowKit

/-- What GetNum answers: the number, the place behind it, the code. -/
structure NumO where
  n : Int
  at_ : Int
  c : Int
end Go.Proofs.YtkhmdhdaldbbhaaGreat

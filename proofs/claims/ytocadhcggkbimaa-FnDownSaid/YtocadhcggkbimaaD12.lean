/- The law of BoxRight. -/
import Derived.Test.YtocadhcggkbimaaD11
import Derived.Test.YtocadhcggkbimaaBG
import Derived.Test.YtocadhcggkbimaaE3
set_option maxRecDepth 100000
set_option linter.unusedVariables false
namespace Go.Proofs.Ytocadhcggkbimaa
open Go.RowKit Go.Fin1

/-- A value that is this desk. -/
def kDesk (d : Dk) : XReg.Kind := fun v w => eDesk w v d
theorem kDesk_good {d : Dk} {W0 : World} {v : Value} (h : eDesk W0 v d) : XReg.GoodK (kDesk d) := ⟨fun _ _ _ hx h => h.ext hx, v, W0, h⟩


end Go.Proofs.Ytocadhcggkbimaa

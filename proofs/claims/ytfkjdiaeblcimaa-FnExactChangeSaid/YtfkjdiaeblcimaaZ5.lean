/- The law of PoolRight. -/
import Derived.Test.YtfkjdiaeblcimaaZ4
import Derived.Test.YtfkjdiaeblcimaaBG
import Derived.Deep.Cut
set_option maxRecDepth 100000
set_option linter.unusedVariables false
namespace Go.Proofs.Ytfkjdiaeblcimaa
open Go.RowKit Go.Fin1

/-- A value that is this pool. -/
def kPool (p : Pl) : XReg.Kind := fun v w => ePool w v p
theorem kPool_good {p : Pl} {W0 : World} {v : Value} (h : ePool W0 v p) : XReg.GoodK (kPool p) := ⟨fun _ _ _ hx h => h.ext hx, v, W0, h⟩


end Go.Proofs.Ytfkjdiaeblcimaa

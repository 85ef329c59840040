/- Sorting, for every kind of elements: the comparator lays blocks and draws at most; what the sort leaves is a row of the same elements. -/
import Derived.Test.YtkhmdhdaldbbhaaKCC
import Derived.Test.YtkhmdhdaldbbhaaKII
import Derived.Shelf.SlSortCmp.WholeK
import Derived.Test.YtkhmdhdaldbbhaaKVBC
set_option maxRecDepth 100000
set_option linter.unusedVariables false
namespace Go.Proofs.Ytkhmdhdaldbbhaa
open Go.RowKit Go.Fin1 Go.Shelf Go.Sort

end Go.Proofs.Ytkhmdhdaldbbhaa

set_option maxRecDepth 100000
set_option linter.unusedVariables false
namespace Go.Proofs.Ytkhmdhdaldbbhaa
open Go.RowKit Go.Fin1 Go.Shelf Go.Sort
end Go.Proofs.Ytkhmdhdaldbbhaa

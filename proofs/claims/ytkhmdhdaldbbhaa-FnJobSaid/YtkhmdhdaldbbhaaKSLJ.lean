/- The shelf's contract of slices.SortFunc at jobs, laid at this dump (written by the kit's lay-plain.mjs). -/
import Derived.Shelf.SlSortCmp.WholeK
import Derived.Test.YtkhmdhdaldbbhaaProg
namespace Go.Proofs
open Go.Shelf
end Go.Proofs

/- The law of Ahead. -/
import Derived.Test.YtfmjnncgpfkejaaGreatC2
set_option maxRecDepth 100000
set_option linter.unusedVariables false
namespace Go.Proofs.YtfmjnncgpfkejaaGreat
open Go.RowKit Go.Fin1

end Go.Proofs.YtfmjnncgpfkejaaGreat

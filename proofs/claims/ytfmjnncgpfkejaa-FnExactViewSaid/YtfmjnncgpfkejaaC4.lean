/- The law of Ahead. -/
import Derived.Test.YtfmjnncgpfkejaaC2
set_option maxRecDepth 100000
set_option linter.unusedVariables false
namespace Go.Proofs.Ytfmjnncgpfkejaa
open Go.RowKit Go.Fin1

end Go.Proofs.Ytfmjnncgpfkejaa

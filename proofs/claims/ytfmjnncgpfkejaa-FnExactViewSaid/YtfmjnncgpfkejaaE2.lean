/- The laws' mark and held over flat lists. -/
import Derived.Test.YtfmjnncgpfkejaaBA
import Derived.Test.YtfmjnncgpfkejaaJ2
import Derived.Test.YtfmjnncgpfkejaaQ3
set_option maxRecDepth 100000
set_option linter.unusedVariables false
namespace Go.Proofs.Ytfmjnncgpfkejaa
open Go.RowKit Go.Fin1

def mkSpn (k : Nat) (_ : Spn) : Spn := ⟨k, ((k + 1 : Nat) : Int)⟩
abbrev mkSpns : Nat → List Spn → List Spn := mkL mkSpn (fun _ => 2)


def mkLab (k : Nat) (_ : Lab) : Lab := ⟨k, ((k + 1 : Nat) : Int)⟩
abbrev mkLabs : Nat → List Lab → List Lab := mkL mkLab (fun _ => 2)


def mkInt (k : Nat) (_ : Int) : Int := (k : Int)
abbrev mkInts : Nat → List Int → List Int := mkL mkInt (fun _ => 1)


abbrev mkSpnss : Nat → List (List Spn) → List (List Spn) := mkL mkSpns (wL (fun _ : Spn => 2))


abbrev mkLabss : Nat → List (List Lab) → List (List Lab) := mkL mkLabs (wL (fun _ : Lab => 2))


end Go.Proofs.Ytfmjnncgpfkejaa

/- The laws' mark and held over flat lists. -/
import Derived.Test.YtocadhcggkbimaaDoorBA
import Derived.Test.YtocadhcggkbimaaDoorJ2
import Derived.Test.YtocadhcggkbimaaDoorQ3
set_option maxRecDepth 100000
set_option linter.unusedVariables false
namespace Go.Proofs.YtocadhcggkbimaaDoor
open Go.RowKit Go.Fin1


def mkLab (k : Nat) (_ : Lab) : Lab := ⟨k, ((k + 1 : Nat) : Int)⟩
abbrev mkLabs : Nat → List Lab → List Lab := mkL mkLab (fun _ => 2)


def mkInt (k : Nat) (_ : Int) : Int := (k : Int)
abbrev mkInts : Nat → List Int → List Int := mkL mkInt (fun _ => 1)




end Go.Proofs.YtocadhcggkbimaaDoor

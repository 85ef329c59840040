/- The walks of indexOf, copyJob and of what the reference has in their place. -/
import Derived.Test.YtocadhcggkbimaaDoorJ6
import Derived.Test.YtocadhcggkbimaaDoorS1
set_option maxRecDepth 100000
set_option linter.unusedVariables false
namespace Go.Proofs.YtocadhcggkbimaaDoor
open Go.RowKit Go.Fin1

/-- Is this the job with that label and number? -/
def isJb (x : Lab) (id : Int) (j : Jb) : Bool := sameL j.l x && decide (j.id = id)
/-- Where it lies, -1 for nowhere. -/
abbrev posJ (l : List Jb) (x : Lab) (id : Int) : Int := findI (isJb x id) l



theorem rInt_rc {w : World} {v : Value} {l : List Int} (h : SlR w 1 rInt v l) : SlR w 1 (rc intCell) v l := slr_with h fun _ _ _ hr => hr.1


end Go.Proofs.YtocadhcggkbimaaDoor

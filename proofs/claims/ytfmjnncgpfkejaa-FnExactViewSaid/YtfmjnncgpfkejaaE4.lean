/- The laws' mark and held over jobs. -/
import Derived.Test.YtfmjnncgpfkejaaE3
import Derived.Test.YtfmjnncgpfkejaaJ4
set_option maxRecDepth 100000
set_option linter.unusedVariables false
namespace Go.Proofs.Ytfmjnncgpfkejaa
open Go.RowKit Go.Fin1

def mkJb (k : Nat) (j : Jb) : Jb := ⟨⟨k, ((k + 1 : Nat) : Int)⟩, ((k + 2 : Nat) : Int), ((k + 3 : Nat) : Int), ((k + 4 : Nat) : Int), ((k + 5 : Nat) : Int), ((k + 6 : Nat) : Int), ((k + 7 : Nat) : Int), mkInts (k + 8) j.nodes⟩
def wJb (j : Jb) : Nat := 8 + wL (fun _ : Int => 1) j.nodes
abbrev mkJbs : Nat → List Jb → List Jb := mkL mkJb wJb
theorem wJb_le {l : List Jb} (h : szL Jb.sz l ≤ 1048576) : wL wJb l ≤ 16 * 1048576 := by
  have key : ∀ l : List Jb, wL wJb l = 8 * l.length + (l.map Jb.sz).sum := fun l => by
    induction l with
    | nil => rfl
    | cons x l ih =>
      rw [wL_cons, ih, List.map_cons, List.sum_cons, List.length_cons]
      unfold wJb Jb.sz
      rw [wL_const]; omega
  unfold szL at h
  rw [key]; omega



end Go.Proofs.Ytfmjnncgpfkejaa

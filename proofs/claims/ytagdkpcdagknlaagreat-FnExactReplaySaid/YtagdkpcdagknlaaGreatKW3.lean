/- The walks of NameRight and PutText. -/
import Derived.Test.YtagdkpcdagknlaaGreatKW1
import Derived.Test.YtagdkpcdagknlaaGreatKPN
set_option maxRecDepth 100000
namespace Go.Proofs.YtagdkpcdagknlaaGreat
open Go.RowKit Go.Fin1

/-! ### PutText -/
set_option maxHeartbeats 400000 in
theorem isLongText_any (s : ByteArray) (w : World) :
    Calls Tryz.prog 105 #[.string s] w fun e w' => e = .returned (.bool (decide (8000 < (s.size : Int)))) ∧ w = w' := by
  go_enter Tryz.func105, Tryz.ntmps105
  go_wp2
  go_ret
  exact ⟨rfl, rfl⟩
end Go.Proofs.YtagdkpcdagknlaaGreat

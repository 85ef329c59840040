/- The walks of JoinOf, MeetOf, EntryRight and of their laws. -/
import Derived.Test.YtkekfncgpbileaaBA
set_option maxRecDepth 100000
namespace Go.Proofs.Ytkekfncgpbileaa
open Go.RowKit Go.Fin1

def eqLab (a b : Lab) : Bool := a.lv == b.lv && a.st == b.st
theorem eqLab_self (x y : Int) : eqLab ⟨x, y⟩ ⟨x, y⟩ = true := by simp [eqLab]
set_option maxHeartbeats 400000 in
theorem eqLabel_any (a b c d : Int) (w : World) :
    Calls Try.prog 127 #[.agg #[.int .i64 a, .int .i64 b], .agg #[.int .i64 c, .int .i64 d]] w fun e w' => e = .returned (.bool (eqLab ⟨a, b⟩ ⟨c, d⟩)) ∧ Ext w w' := by
  go_enter Try.func127, Try.ntmps127
  go_wp2
  all_goals go_ret
  all_goals exact ⟨ret_bool (by simp_all [eqLab]), ((Ext.refl _).alloc _).alloc _⟩
end Go.Proofs.Ytkekfncgpbileaa

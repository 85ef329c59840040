/- The law of LabelText. -/
import Derived.Test.YtkekfncgpbileaaDoorLT1
set_option maxRecDepth 100000
set_option linter.unusedVariables false
namespace Go.Proofs.YtkekfncgpbileaaDoor
open Go.RowKit Go.Fin1
set_option maxHeartbeats 800000 in
theorem fnLabelText_any (a : Lab) (w : World) (_ : a.ok) :
    Calls Tryd.prog 3 #[a.val] w fun e w' => e = .returned (.bool true) ∧ Ext w w' := by
  unfold Lab.val
  go_enter Tryd.func3, Tryd.ntmps3
  go_wp2_with (first | (go_at_call 7; refine (toLabel_any _ _ _).mono ?_; rintro e _ ⟨rfl, X, rfl⟩) | (go_at_call 6; refine (specLabelText_any a _).mono ?_; rintro e _ ⟨rfl, X, rfl⟩) | (go_at_call 8; refine (implLabelText_any a _).mono ?_; rintro e _ ⟨rfl, X, rfl⟩))
  go_ret
  exact ⟨rfl, (by repeat (first | exact Ext.refl _ | apply Ext.plus | apply Ext.alloc | apply Ext.drew))⟩
end Go.Proofs.YtkekfncgpbileaaDoor

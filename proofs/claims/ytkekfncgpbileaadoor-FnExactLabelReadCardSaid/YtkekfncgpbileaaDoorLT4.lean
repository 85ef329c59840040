/- The law of LabelRead. -/
import Derived.Test.YtkekfncgpbileaaDoorLT3
set_option maxRecDepth 100000
set_option linter.unusedVariables false
namespace Go.Proofs.YtkekfncgpbileaaDoor
open Go.RowKit Go.Fin1
set_option maxHeartbeats 400000 in
theorem eqLabelD_self (a b : Int) (w : World) :
    Calls Tryd.prog 31 #[.agg #[(.int .i64 a), (.int .i64 b)], .agg #[(.int .i64 a), (.int .i64 b)]] w fun e w' => e = .returned (.bool true) ∧ Ext w w' := by
  go_enter Tryd.func31, Tryd.ntmps31
  go_wp2
  go_ret
  exact ⟨rfl, (by repeat (first | exact Ext.refl _ | apply Ext.plus | apply Ext.alloc | apply Ext.drew))⟩
set_option maxHeartbeats 800000 in
theorem eqLabelOut_self (a b c : Int) (w : World) :
    Calls Tryd.prog 11 #[.agg #[(.int .i64 a), (.int .i64 b), (.int .i64 c)], .agg #[(.int .i64 a), (.int .i64 b), (.int .i64 c)]] w fun e w' => e = .returned (.bool true) ∧ Ext w w' := by
  go_enter Tryd.func11, Tryd.ntmps11
  go_wp2_with (go_at_call 31; refine (eqLabelD_self _ _ _).mono ?_; rintro e _ ⟨rfl, X, rfl⟩)
  go_ret
  exact ⟨rfl, (by repeat (first | exact Ext.refl _ | apply Ext.plus | apply Ext.alloc | apply Ext.drew))⟩
set_option maxHeartbeats 800000 in
theorem fnLabelRead_any (s : ByteArray) (w : World) (_ : s.size ≤ maxLen) :
    Calls Tryd.prog 4 #[.string s] w fun e w' => e = .returned (.bool true) ∧ Ext w w' := by
  by_cases hs : s.size ≤ 1048576
  · have hb : decide ((1048576 : Int) < (s.size : Int)) = false := decide_eq_false (by omega)
    go_enter Tryd.func4, Tryd.ntmps4
    go_wp2_with (first | (go_at_call 9; refine (specLabelRead_any s _ hs).mono ?_; rintro e _ ⟨rfl, X, rfl⟩) | (go_at_call 10; refine (implLabelRead_any s _ hs).mono ?_; rintro e _ ⟨rfl, Y, rfl⟩) | (go_at_call 11; refine (eqLabelOut_self _ _ _ _).mono ?_; rintro e _ ⟨rfl, Z, rfl⟩))
    go_ret
    exact ⟨rfl, (by repeat (first | exact Ext.refl _ | apply Ext.plus | apply Ext.alloc | apply Ext.drew))⟩
  · have hb : decide ((1048576 : Int) < (s.size : Int)) = true := decide_eq_true (by omega)
    go_enter Tryd.func4, Tryd.ntmps4
    go_wp2
    go_ret
    exact ⟨rfl, (by repeat (first | exact Ext.refl _ | apply Ext.plus | apply Ext.alloc | apply Ext.drew))⟩
end Go.Proofs.YtkekfncgpbileaaDoor

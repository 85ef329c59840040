/- The walks of EntryRight and of its law. -/
import Derived.Test.YtgildaidogjogaaA
set_option maxRecDepth 100000
namespace Go.Proofs.Ytgildaidogjogaa
open Go.RowKit Go.Fin1

set_option maxHeartbeats 800000 in
theorem implEntryRight_any (k lv st a b c : Int) (w : World) :
    Calls Try.prog 193 #[.agg #[(.int .i64 k), (.int .i64 lv), (.int .i64 st), (.int .i64 a), (.int .i64 b), (.int .i64 c)]] w fun e w' => e = .returned (.bool (entR ⟨k, ⟨lv, st⟩, a, b, c⟩)) ∧ Ext w w' := by
  go_enter Try.func193, Try.ntmps193
  go_wp2_with (first | (go_at_call 113; refine (implLabelRight_any _ _ _).mono ?_; rintro e _ ⟨rfl, X, rfl⟩) | (go_at_call 166; refine (within_any _ _ _ _).mono ?_; rintro e _ ⟨rfl, rfl⟩))
  all_goals go_ret
  all_goals refine ⟨ret_bool ?_, (by repeat (first | exact Ext.refl _ | apply Ext.plus | apply Ext.alloc | apply Ext.drew))⟩
  all_goals simp_all [entR] <;> decide
set_option maxHeartbeats 400000 in
theorem l07Num_any (a : Int) (w : World) :
    Calls Try.prog 224 #[.int .i64 a] w fun e w' => e = .returned (.bool (isIn a 0 100)) ∧ w = w' := by
  go_enter Try.func224, Try.ntmps224
  go_wp2_with (go_at_call 102; refine (l02Is_any _ _ _ _).mono ?_; rintro e _ ⟨rfl, rfl⟩)
  go_ret
  exact ⟨rfl, rfl⟩
set_option maxHeartbeats 800000 in
theorem specEntryRight_any (k lv st a b c : Int) (w : World) :
    Calls Try.prog 191 #[.agg #[(.int .i64 k), (.int .i64 lv), (.int .i64 st), (.int .i64 a), (.int .i64 b), (.int .i64 c)]] w fun e w' => e = .returned (.bool (entR ⟨k, ⟨lv, st⟩, a, b, c⟩)) ∧ Ext w w' := by
  go_enter Try.func191, Try.ntmps191
  go_wp2_with (first | (go_at_call 111; refine (specLabelRight_any _ _ _).mono ?_; rintro e _ ⟨rfl, X, rfl⟩) | (go_at_call 224; refine (l07Num_any _ _).mono ?_; rintro e _ ⟨rfl, rfl⟩))
  all_goals go_ret
  all_goals refine ⟨ret_bool ?_, (by repeat (first | exact Ext.refl _ | apply Ext.plus | apply Ext.alloc | apply Ext.drew))⟩
  all_goals simp_all [entR] <;> decide
end Go.Proofs.Ytgildaidogjogaa

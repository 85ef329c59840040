/- The walks of EntryRight and of its law. -/
import Derived.Test.YtlekopmidebaiaaA
set_option maxRecDepth 100000
namespace Go.Proofs.Ytlekopmidebaiaa
open Go.RowKit Go.Fin1

set_option maxHeartbeats 800000 in
theorem implEntryRight_any (k lv st a b c : Int) (w : World) :
    Calls Try.prog 101 #[.agg #[(.int .i64 k), (.int .i64 lv), (.int .i64 st), (.int .i64 a), (.int .i64 b), (.int .i64 c)]] w fun e w' => e = .returned (.bool (entR ⟨k, ⟨lv, st⟩, a, b, c⟩)) ∧ Ext w w' := by
  go_enter Try.func101, Try.ntmps101
  go_wp2_with (first | (go_at_call 76; refine (implLabelRight_any _ _ _).mono ?_; rintro e _ ⟨rfl, X, rfl⟩) | (go_at_call 81; refine (within_any _ _ _ _).mono ?_; rintro e _ ⟨rfl, rfl⟩))
  all_goals go_ret
  all_goals refine ⟨ret_bool ?_, (by repeat (first | exact Ext.refl _ | apply Ext.plus | apply Ext.alloc | apply Ext.drew))⟩
  all_goals simp_all [entR] <;> decide
set_option maxHeartbeats 400000 in
theorem l07Num_any (a : Int) (w : World) :
    Calls Try.prog 113 #[.int .i64 a] w fun e w' => e = .returned (.bool (isIn a 0 100)) ∧ w = w' := by
  go_enter Try.func113, Try.ntmps113
  go_wp2_with (go_at_call 83; refine (l02Is_any _ _ _ _).mono ?_; rintro e _ ⟨rfl, rfl⟩)
  go_ret
  exact ⟨rfl, rfl⟩
set_option maxHeartbeats 800000 in
theorem specEntryRight_any (k lv st a b c : Int) (w : World) :
    Calls Try.prog 99 #[.agg #[(.int .i64 k), (.int .i64 lv), (.int .i64 st), (.int .i64 a), (.int .i64 b), (.int .i64 c)]] w fun e w' => e = .returned (.bool (entR ⟨k, ⟨lv, st⟩, a, b, c⟩)) ∧ Ext w w' := by
  go_enter Try.func99, Try.ntmps99
  go_wp2_with (first | (go_at_call 71; refine (specLabelRight_any _ _ _).mono ?_; rintro e _ ⟨rfl, X, rfl⟩) | (go_at_call 113; refine (l07Num_any _ _).mono ?_; rintro e _ ⟨rfl, rfl⟩))
  all_goals go_ret
  all_goals refine ⟨ret_bool ?_, (by repeat (first | exact Ext.refl _ | apply Ext.plus | apply Ext.alloc | apply Ext.drew))⟩
  all_goals simp_all [entR] <;> decide
set_option maxHeartbeats 800000 in
theorem toEntry_any (k lv st a b c : Int) (w : World) :
    Calls Try.prog 56 #[.agg #[(.int .i64 k), (.int .i64 lv), (.int .i64 st), (.int .i64 a), (.int .i64 b), (.int .i64 c)]] w fun e w' => e = .returned (.agg #[(.int .i64 k), (.int .i64 lv), (.int .i64 st), (.int .i64 a), (.int .i64 b), (.int .i64 c)]) ∧ Ext w w' := by
  go_enter Try.func56, Try.ntmps56
  go_wp2_with (go_at_call 73; refine (toLabel_any _ _ _).mono ?_; rintro e _ ⟨rfl, X, rfl⟩)
  exact bodyPost_ret (v := .agg #[(.int .i64 k), (.int .i64 lv), (.int .i64 st), (.int .i64 a), (.int .i64 b), (.int .i64 c)]) (by simp [results, Try.results56, go_sem]) rfl ⟨rfl, (by repeat (first | exact Ext.refl _ | apply Ext.plus | apply Ext.alloc | apply Ext.drew))⟩
end Go.Proofs.Ytlekopmidebaiaa

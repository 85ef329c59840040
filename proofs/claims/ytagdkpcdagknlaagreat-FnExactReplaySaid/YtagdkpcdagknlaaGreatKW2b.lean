/- The walks of EntryRight and of its law. -/
import Derived.Test.YtagdkpcdagknlaaGreatKBA
set_option maxRecDepth 100000
namespace Go.Proofs.YtagdkpcdagknlaaGreat
open Go.RowKit Go.Fin1

set_option maxHeartbeats 800000 in
theorem implEntryRight_any (k lv st a b c : Int) (w : World) :
    Calls Tryz.prog 46 #[.agg #[(.int .i64 k), (.int .i64 lv), (.int .i64 st), (.int .i64 a), (.int .i64 b), (.int .i64 c)]] w fun e w' => e = .returned (.bool (entR ⟨k, ⟨lv, st⟩, a, b, c⟩)) ∧ Ext w w' := by
  go_enter Tryz.func46, Tryz.ntmps46
  go_wp2_with (first | (go_at_call 91; refine (implLabelRight_any _ _ _).mono ?_; rintro e _ ⟨rfl, X, rfl⟩) | (go_at_call 116; refine (within_any _ _ _ _).mono ?_; rintro e _ ⟨rfl, rfl⟩))
  all_goals go_ret
  all_goals refine ⟨ret_bool ?_, xt⟩
  all_goals simp_all [entR] <;> decide
set_option maxHeartbeats 400000 in
theorem l07Num_any (a : Int) (w : World) :
    Calls Tryz.prog 117 #[.int .i64 a] w fun e w' => e = .returned (.bool (isIn a 0 100)) ∧ w = w' := by
  go_enter Tryz.func117, Tryz.ntmps117
  go_wp2_with (go_at_call 142; refine (l02Is_any _ _ _ _).mono ?_; rintro e _ ⟨rfl, rfl⟩)
  go_ret
  exact ⟨rfl, rfl⟩
set_option maxHeartbeats 800000 in
theorem specEntryRight_any (k lv st a b c : Int) (w : World) :
    Calls Tryz.prog 47 #[.agg #[(.int .i64 k), (.int .i64 lv), (.int .i64 st), (.int .i64 a), (.int .i64 b), (.int .i64 c)]] w fun e w' => e = .returned (.bool (entR ⟨k, ⟨lv, st⟩, a, b, c⟩)) ∧ Ext w w' := by
  go_enter Tryz.func47, Tryz.ntmps47
  go_wp2_with (first | (go_at_call 95; refine (specLabelRight_any _ _ _).mono ?_; rintro e _ ⟨rfl, X, rfl⟩) | (go_at_call 117; refine (l07Num_any _ _).mono ?_; rintro e _ ⟨rfl, rfl⟩))
  all_goals go_ret
  all_goals refine ⟨ret_bool ?_, xt⟩
  all_goals simp_all [entR] <;> decide
end Go.Proofs.YtagdkpcdagknlaaGreat

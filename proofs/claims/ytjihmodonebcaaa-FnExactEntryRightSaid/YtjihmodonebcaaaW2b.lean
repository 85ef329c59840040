/- The walks of EntryRight and of its law. -/
import Derived.Test.YtjihmodonebcaaaA
namespace Go.Proofs.Ytjihmodonebcaaa
open Go.RowKit Go.Fin1

set_option maxHeartbeats 800000 in
theorem implEntryRight_any (k lv st a b c : Int) (w : World) :
    Calls Try.prog 42 #[.agg #[(.int .i64 k), (.int .i64 lv), (.int .i64 st), (.int .i64 a), (.int .i64 b), (.int .i64 c)]] w fun e w' => e = .returned (.bool (entR ⟨k, ⟨lv, st⟩, a, b, c⟩)) ∧ Ext w w' := by
  go_enter Try.func42, Try.ntmps42
  go_wp2_with (first | (go_at_call 17; refine (implLabelRight_any _ _ _).mono ?_; rintro e _ ⟨rfl, X, rfl⟩) | (go_at_call 44; refine (within_any _ _ _ _).mono ?_; rintro e _ ⟨rfl, rfl⟩))
  all_goals go_ret
  all_goals refine ⟨ret_bool ?_, (by repeat (first | exact Ext.refl _ | apply Ext.plus | apply Ext.alloc | apply Ext.drew))⟩
  all_goals simp_all [entR] <;> decide
set_option maxHeartbeats 400000 in
theorem l07Num_any (a : Int) (w : World) :
    Calls Try.prog 54 #[.int .i64 a] w fun e w' => e = .returned (.bool (isIn a 0 100)) ∧ w = w' := by
  go_enter Try.func54, Try.ntmps54
  go_wp2_with (go_at_call 43; refine (l02Is_any _ _ _ _).mono ?_; rintro e _ ⟨rfl, rfl⟩)
  go_ret
  exact ⟨rfl, rfl⟩
set_option maxHeartbeats 800000 in
theorem specEntryRight_any (k lv st a b c : Int) (w : World) :
    Calls Try.prog 40 #[.agg #[(.int .i64 k), (.int .i64 lv), (.int .i64 st), (.int .i64 a), (.int .i64 b), (.int .i64 c)]] w fun e w' => e = .returned (.bool (entR ⟨k, ⟨lv, st⟩, a, b, c⟩)) ∧ Ext w w' := by
  go_enter Try.func40, Try.ntmps40
  go_wp2_with (first | (go_at_call 15; refine (specLabelRight_any _ _ _).mono ?_; rintro e _ ⟨rfl, X, rfl⟩) | (go_at_call 54; refine (l07Num_any _ _).mono ?_; rintro e _ ⟨rfl, rfl⟩))
  all_goals go_ret
  all_goals refine ⟨ret_bool ?_, (by repeat (first | exact Ext.refl _ | apply Ext.plus | apply Ext.alloc | apply Ext.drew))⟩
  all_goals simp_all [entR] <;> decide
set_option maxHeartbeats 800000 in
theorem toEntry_any (k lv st a b c : Int) (w : World) :
    Calls Try.prog 41 #[.agg #[(.int .i64 k), (.int .i64 lv), (.int .i64 st), (.int .i64 a), (.int .i64 b), (.int .i64 c)]] w fun e w' => e = .returned (.agg #[(.int .i64 k), (.int .i64 lv), (.int .i64 st), (.int .i64 a), (.int .i64 b), (.int .i64 c)]) ∧ Ext w w' := by
  go_enter Try.func41, Try.ntmps41
  go_wp2_with (go_at_call 16; refine (toLabel_any _ _ _).mono ?_; rintro e _ ⟨rfl, X, rfl⟩)
  exact bodyPost_ret (v := .agg #[(.int .i64 k), (.int .i64 lv), (.int .i64 st), (.int .i64 a), (.int .i64 b), (.int .i64 c)]) (by simp [results, Try.results41, go_sem]) rfl ⟨rfl, (by repeat (first | exact Ext.refl _ | apply Ext.plus | apply Ext.alloc | apply Ext.drew))⟩
set_option maxHeartbeats 800000 in
theorem fnEntryRight_any (x : Ent) (w : World) (_ : x.ok) :
    Calls Try.prog 14 #[x.val] w fun e w' => e = .returned (.bool true) ∧ Ext w w' := by
  unfold Ent.val
  go_enter Try.func14, Try.ntmps14
  go_wp2_with (first | (go_at_call 41; refine (toEntry_any _ _ _ _ _ _ _).mono ?_; rintro e _ ⟨rfl, X, rfl⟩) | (go_at_call 40; refine (specEntryRight_any _ _ _ _ _ _ _).mono ?_; rintro e _ ⟨rfl, X, rfl⟩) | (go_at_call 42; refine (implEntryRight_any _ _ _ _ _ _ _).mono ?_; rintro e _ ⟨rfl, X, rfl⟩))
  go_ret
  exact ⟨rfl, (by repeat (first | exact Ext.refl _ | apply Ext.plus | apply Ext.alloc | apply Ext.drew))⟩
end Go.Proofs.Ytjihmodonebcaaa

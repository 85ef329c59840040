/- walks -/
import Derived.Test.YtofpknobahccdaaM
import Derived.Lib.MinMax
import Derived.Deep.RegionHeld3
import Derived.Deep.DeepCutAuto
set_option maxRecDepth 100000
namespace Go.Proofs.Ytofpknobahccdaa
open Go.RowKit Go.Fin1

set_option maxHeartbeats 400000 in
theorem within_any (a b c : Int) (w : World) :
    Calls Try.prog 84 #[.int .i64 a, .int .i64 b, .int .i64 c] w fun e w' => e = .returned (.bool (isIn a b c)) ∧ w = w' := by
  go_enter Try.func84, Try.ntmps84
  go_wp2
  all_goals go_ret
  all_goals exact ⟨ret_bool (by simp [isIn] <;> omega), rfl⟩

set_option maxHeartbeats 400000 in
theorem l02Is_any (a b c : Int) (w : World) :
    Calls Try.prog 81 #[.int .i64 a, .int .i64 b, .int .i64 c] w fun e w' => e = .returned (.bool (isIn a b c)) ∧ w = w' := by
  go_enter Try.func81, Try.ntmps81
  go_wp2
  all_goals go_ret
  all_goals exact ⟨ret_bool (by simp [isIn] <;> omega), rfl⟩

set_option maxHeartbeats 400000 in
theorem implLabelRight_any (a b : Int) (w : World) :
    Calls Try.prog 107 #[.agg #[.int .i64 a, .int .i64 b]] w fun e w' => e = .returned (.bool (labR ⟨a, b⟩)) ∧ Ext w w' := by
  go_enter Try.func107, Try.ntmps107
  go_wp2_with (go_at_call 84; refine (within_any _ _ _ _).mono ?_; rintro e w' ⟨rfl, rfl⟩)
  all_goals go_ret
  all_goals exact ⟨ret_bool (by simp [labR, *]), (Ext.refl _).alloc _⟩

set_option maxHeartbeats 400000 in
theorem specLabelRight_any (a b : Int) (w : World) :
    Calls Try.prog 105 #[.agg #[.int .i64 a, .int .i64 b]] w fun e w' => e = .returned (.bool (labR ⟨a, b⟩)) ∧ Ext w w' := by
  go_enter Try.func105, Try.ntmps105
  go_wp2_with (go_at_call 81; refine (l02Is_any _ _ _ _).mono ?_; rintro e w' ⟨rfl, rfl⟩)
  all_goals go_ret
  all_goals exact ⟨ret_bool (by simp [labR, *]), (Ext.refl _).alloc _⟩

set_option maxHeartbeats 400000 in
theorem toLabel_any (a b : Int) (w : World) :
    Calls Try.prog 46 #[.agg #[.int .i64 a, .int .i64 b]] w fun e w' => e = .returned (.agg #[.int .i64 a, .int .i64 b]) ∧ Ext w w' := by
  go_enter Try.func46, Try.ntmps46
  go_wp2
  refine bodyPost_ret (v := .agg #[.int .i64 a, .int .i64 b]) (by simp [results, Try.results46, go_sem]) rfl ⟨rfl, (((Ext.refl _).alloc _).alloc _).alloc _⟩

set_option maxHeartbeats 400000 in
theorem implbelow_any (a b c d : Int) (w : World) (h : I64 b) :
    Calls Try.prog 108 #[.agg #[.int .i64 a, .int .i64 b], .agg #[.int .i64 c, .int .i64 d]] w fun e w' => e = .returned (.bool (blw ⟨a, b⟩ ⟨c, d⟩)) ∧ Ext w w' := by
  have H := Lib.hid (andNot_and d h)
  go_enter Try.func108, Try.ntmps108
  go_wp2
  all_goals go_ret
  all_goals exact ⟨ret_bool (by unfold blw; simp only [← H.out]; simp; try omega), ((Ext.refl _).alloc _).alloc _⟩

set_option maxHeartbeats 400000 in
theorem specbelow_any (a b c d : Int) (w : World) :
    Calls Try.prog 106 #[.agg #[.int .i64 a, .int .i64 b], .agg #[.int .i64 c, .int .i64 d]] w fun e w' => e = .returned (.bool (blw ⟨a, b⟩ ⟨c, d⟩)) ∧ Ext w w' := by
  go_enter Try.func106, Try.ntmps106
  go_wp2
  all_goals go_ret
  all_goals exact ⟨ret_bool (by unfold blw; simp; try omega), ((Ext.refl _).alloc _).alloc _⟩












end Go.Proofs.Ytofpknobahccdaa

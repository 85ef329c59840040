/- walks -/
import Derived.Test.YtfkjdiaeblcimaaM
import Derived.Lib.MinMax
import Derived.Deep.RegionHeld3
import Derived.Deep.DeepCutAuto
set_option maxRecDepth 100000
namespace Go.Proofs.Ytfkjdiaeblcimaa
open Go.RowKit Go.Fin1

set_option maxHeartbeats 400000 in
theorem within_any (a b c : Int) (w : World) :
    Calls Try.prog 150 #[.int .i64 a, .int .i64 b, .int .i64 c] w fun e w' => e = .returned (.bool (isIn a b c)) ∧ w = w' := by
  go_enter Try.func150, Try.ntmps150
  go_wp2
  all_goals go_ret
  all_goals exact ⟨ret_bool (by simp [isIn] <;> omega), rfl⟩

set_option maxHeartbeats 400000 in
theorem l02Is_any (a b c : Int) (w : World) :
    Calls Try.prog 104 #[.int .i64 a, .int .i64 b, .int .i64 c] w fun e w' => e = .returned (.bool (isIn a b c)) ∧ w = w' := by
  go_enter Try.func104, Try.ntmps104
  go_wp2
  all_goals go_ret
  all_goals exact ⟨ret_bool (by simp [isIn] <;> omega), rfl⟩

set_option maxHeartbeats 400000 in
theorem implLabelRight_any (a b : Int) (w : World) :
    Calls Try.prog 164 #[.agg #[.int .i64 a, .int .i64 b]] w fun e w' => e = .returned (.bool (labR ⟨a, b⟩)) ∧ Ext w w' := by
  go_enter Try.func164, Try.ntmps164
  go_wp2_with (go_at_call 150; refine (within_any _ _ _ _).mono ?_; rintro e w' ⟨rfl, rfl⟩)
  all_goals go_ret
  all_goals exact ⟨ret_bool (by simp [labR, *]), (Ext.refl _).alloc _⟩

set_option maxHeartbeats 400000 in
theorem specLabelRight_any (a b : Int) (w : World) :
    Calls Try.prog 167 #[.agg #[.int .i64 a, .int .i64 b]] w fun e w' => e = .returned (.bool (labR ⟨a, b⟩)) ∧ Ext w w' := by
  go_enter Try.func167, Try.ntmps167
  go_wp2_with (go_at_call 104; refine (l02Is_any _ _ _ _).mono ?_; rintro e w' ⟨rfl, rfl⟩)
  all_goals go_ret
  all_goals exact ⟨ret_bool (by simp [labR, *]), (Ext.refl _).alloc _⟩

set_option maxHeartbeats 400000 in
theorem toLabel_any (a b : Int) (w : World) :
    Calls Try.prog 16 #[.agg #[.int .i64 a, .int .i64 b]] w fun e w' => e = .returned (.agg #[.int .i64 a, .int .i64 b]) ∧ Ext w w' := by
  go_enter Try.func16, Try.ntmps16
  go_wp2
  refine bodyPost_ret (v := .agg #[.int .i64 a, .int .i64 b]) (by simp [results, Try.results16, go_sem]) rfl ⟨rfl, (((Ext.refl _).alloc _).alloc _).alloc _⟩

set_option maxHeartbeats 400000 in
theorem implbelow_any (a b c d : Int) (w : World) (h : I64 b) :
    Calls Try.prog 172 #[.agg #[.int .i64 a, .int .i64 b], .agg #[.int .i64 c, .int .i64 d]] w fun e w' => e = .returned (.bool (blw ⟨a, b⟩ ⟨c, d⟩)) ∧ Ext w w' := by
  have H := Lib.hid (andNot_and d h)
  go_enter Try.func172, Try.ntmps172
  go_wp2
  all_goals go_ret
  all_goals exact ⟨ret_bool (by unfold blw; simp only [← H.out]; simp; try omega), ((Ext.refl _).alloc _).alloc _⟩

set_option maxHeartbeats 400000 in
theorem specbelow_any (a b c d : Int) (w : World) :
    Calls Try.prog 170 #[.agg #[.int .i64 a, .int .i64 b], .agg #[.int .i64 c, .int .i64 d]] w fun e w' => e = .returned (.bool (blw ⟨a, b⟩ ⟨c, d⟩)) ∧ Ext w w' := by
  go_enter Try.func170, Try.ntmps170
  go_wp2
  all_goals go_ret
  all_goals exact ⟨ret_bool (by unfold blw; simp; try omega), ((Ext.refl _).alloc _).alloc _⟩






def belowL (a b : Lab) : Bool := labR a && labR b && blw a b



set_option maxHeartbeats 400000 in
theorem specBelow_any (a b c d : Int) (w : World) :
    Calls Try.prog 77 #[.agg #[.int .i64 a, .int .i64 b], .agg #[.int .i64 c, .int .i64 d]] w fun e w' => e = .returned (.bool (belowL ⟨a, b⟩ ⟨c, d⟩)) ∧ Ext w w' := by
  go_enter Try.func77, Try.ntmps77
  go_wp2_with (first
    | (go_at_call 167; refine (specLabelRight_any _ _ _).mono ?_; rintro e _ ⟨rfl, X, rfl⟩)
    | (go_at_call 170; refine (specbelow_any _ _ _ _ _).mono ?_; rintro e _ ⟨rfl, X, rfl⟩))
  all_goals go_ret
  all_goals exact ⟨ret_bool (by simp [belowL, *]), by repeat (first | exact Ext.refl _ | apply Ext.plus | apply Ext.alloc)⟩



end Go.Proofs.Ytfkjdiaeblcimaa

/- walks -/
import Derived.Test.YtgildaidogjogaaM
import Derived.Lib.MinMax
import Derived.Deep.RegionHeld3
import Derived.Deep.DeepCutAuto
set_option maxRecDepth 100000
namespace Go.Proofs.Ytgildaidogjogaa
open Go.RowKit Go.Fin1

set_option maxHeartbeats 400000 in
theorem within_any (a b c : Int) (w : World) :
    Calls Try.prog 166 #[.int .i64 a, .int .i64 b, .int .i64 c] w fun e w' => e = .returned (.bool (isIn a b c)) ∧ w = w' := by
  go_enter Try.func166, Try.ntmps166
  go_wp2
  all_goals go_ret
  all_goals exact ⟨ret_bool (by simp [isIn] <;> omega), rfl⟩

set_option maxHeartbeats 400000 in
theorem l02Is_any (a b c : Int) (w : World) :
    Calls Try.prog 102 #[.int .i64 a, .int .i64 b, .int .i64 c] w fun e w' => e = .returned (.bool (isIn a b c)) ∧ w = w' := by
  go_enter Try.func102, Try.ntmps102
  go_wp2
  all_goals go_ret
  all_goals exact ⟨ret_bool (by simp [isIn] <;> omega), rfl⟩

set_option maxHeartbeats 400000 in
theorem implLabelRight_any (a b : Int) (w : World) :
    Calls Try.prog 113 #[.agg #[.int .i64 a, .int .i64 b]] w fun e w' => e = .returned (.bool (labR ⟨a, b⟩)) ∧ Ext w w' := by
  go_enter Try.func113, Try.ntmps113
  go_wp2_with (go_at_call 166; refine (within_any _ _ _ _).mono ?_; rintro e w' ⟨rfl, rfl⟩)
  all_goals go_ret
  all_goals exact ⟨ret_bool (by simp [labR, *]), (Ext.refl _).alloc _⟩

set_option maxHeartbeats 400000 in
theorem specLabelRight_any (a b : Int) (w : World) :
    Calls Try.prog 111 #[.agg #[.int .i64 a, .int .i64 b]] w fun e w' => e = .returned (.bool (labR ⟨a, b⟩)) ∧ Ext w w' := by
  go_enter Try.func111, Try.ntmps111
  go_wp2_with (go_at_call 102; refine (l02Is_any _ _ _ _).mono ?_; rintro e w' ⟨rfl, rfl⟩)
  all_goals go_ret
  all_goals exact ⟨ret_bool (by simp [labR, *]), (Ext.refl _).alloc _⟩

set_option maxHeartbeats 400000 in
theorem toLabel_any (a b : Int) (w : World) :
    Calls Try.prog 22 #[.agg #[.int .i64 a, .int .i64 b]] w fun e w' => e = .returned (.agg #[.int .i64 a, .int .i64 b]) ∧ Ext w w' := by
  go_enter Try.func22, Try.ntmps22
  go_wp2
  refine bodyPost_ret (v := .agg #[.int .i64 a, .int .i64 b]) (by simp [results, Try.results22, go_sem]) rfl ⟨rfl, (((Ext.refl _).alloc _).alloc _).alloc _⟩

set_option maxHeartbeats 400000 in
theorem implbelow_any (a b c d : Int) (w : World) (h : I64 b) :
    Calls Try.prog 114 #[.agg #[.int .i64 a, .int .i64 b], .agg #[.int .i64 c, .int .i64 d]] w fun e w' => e = .returned (.bool (blw ⟨a, b⟩ ⟨c, d⟩)) ∧ Ext w w' := by
  have H := Lib.hid (andNot_and d h)
  go_enter Try.func114, Try.ntmps114
  go_wp2
  all_goals go_ret
  all_goals exact ⟨ret_bool (by unfold blw; simp only [← H.out]; simp; try omega), ((Ext.refl _).alloc _).alloc _⟩

set_option maxHeartbeats 400000 in
theorem specbelow_any (a b c d : Int) (w : World) :
    Calls Try.prog 112 #[.agg #[.int .i64 a, .int .i64 b], .agg #[.int .i64 c, .int .i64 d]] w fun e w' => e = .returned (.bool (blw ⟨a, b⟩ ⟨c, d⟩)) ∧ Ext w w' := by
  go_enter Try.func112, Try.ntmps112
  go_wp2
  all_goals go_ret
  all_goals exact ⟨ret_bool (by unfold blw; simp; try omega), ((Ext.refl _).alloc _).alloc _⟩






def belowL (a b : Lab) : Bool := labR a && labR b && blw a b



set_option maxHeartbeats 400000 in
theorem specBelow_any (a b c d : Int) (w : World) :
    Calls Try.prog 97 #[.agg #[.int .i64 a, .int .i64 b], .agg #[.int .i64 c, .int .i64 d]] w fun e w' => e = .returned (.bool (belowL ⟨a, b⟩ ⟨c, d⟩)) ∧ Ext w w' := by
  go_enter Try.func97, Try.ntmps97
  go_wp2_with (first
    | (go_at_call 111; refine (specLabelRight_any _ _ _).mono ?_; rintro e _ ⟨rfl, X, rfl⟩)
    | (go_at_call 112; refine (specbelow_any _ _ _ _ _).mono ?_; rintro e _ ⟨rfl, X, rfl⟩))
  all_goals go_ret
  all_goals exact ⟨ret_bool (by simp [belowL, *]), by repeat (first | exact Ext.refl _ | apply Ext.plus | apply Ext.alloc)⟩



end Go.Proofs.Ytgildaidogjogaa

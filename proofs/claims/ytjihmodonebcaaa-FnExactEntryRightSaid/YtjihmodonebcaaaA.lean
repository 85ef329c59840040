/- walks -/
import Derived.Test.YtjihmodonebcaaaM
import Derived.Lib.MinMax
import Derived.Deep.RegionHeld3
import Derived.Deep.DeepCutAuto
namespace Go.Proofs.Ytjihmodonebcaaa
open Go.RowKit Go.Fin1

set_option maxHeartbeats 400000 in
theorem within_any (a b c : Int) (w : World) :
    Calls Try.prog 44 #[.int .i64 a, .int .i64 b, .int .i64 c] w fun e w' => e = .returned (.bool (isIn a b c)) ∧ w = w' := by
  go_enter Try.func44, Try.ntmps44
  go_wp2
  all_goals go_ret
  all_goals exact ⟨ret_bool (by simp [isIn] <;> omega), rfl⟩

set_option maxHeartbeats 400000 in
theorem l02Is_any (a b c : Int) (w : World) :
    Calls Try.prog 43 #[.int .i64 a, .int .i64 b, .int .i64 c] w fun e w' => e = .returned (.bool (isIn a b c)) ∧ w = w' := by
  go_enter Try.func43, Try.ntmps43
  go_wp2
  all_goals go_ret
  all_goals exact ⟨ret_bool (by simp [isIn] <;> omega), rfl⟩

set_option maxHeartbeats 400000 in
theorem implLabelRight_any (a b : Int) (w : World) :
    Calls Try.prog 17 #[.agg #[.int .i64 a, .int .i64 b]] w fun e w' => e = .returned (.bool (labR ⟨a, b⟩)) ∧ Ext w w' := by
  go_enter Try.func17, Try.ntmps17
  go_wp2_with (go_at_call 44; refine (within_any _ _ _ _).mono ?_; rintro e w' ⟨rfl, rfl⟩)
  all_goals go_ret
  all_goals exact ⟨ret_bool (by simp [labR, *]), (Ext.refl _).alloc _⟩

set_option maxHeartbeats 400000 in
theorem specLabelRight_any (a b : Int) (w : World) :
    Calls Try.prog 15 #[.agg #[.int .i64 a, .int .i64 b]] w fun e w' => e = .returned (.bool (labR ⟨a, b⟩)) ∧ Ext w w' := by
  go_enter Try.func15, Try.ntmps15
  go_wp2_with (go_at_call 43; refine (l02Is_any _ _ _ _).mono ?_; rintro e w' ⟨rfl, rfl⟩)
  all_goals go_ret
  all_goals exact ⟨ret_bool (by simp [labR, *]), (Ext.refl _).alloc _⟩

set_option maxHeartbeats 400000 in
theorem toLabel_any (a b : Int) (w : World) :
    Calls Try.prog 16 #[.agg #[.int .i64 a, .int .i64 b]] w fun e w' => e = .returned (.agg #[.int .i64 a, .int .i64 b]) ∧ Ext w w' := by
  go_enter Try.func16, Try.ntmps16
  go_wp2
  refine bodyPost_ret (v := .agg #[.int .i64 a, .int .i64 b]) (by simp [results, Try.results16, go_sem]) rfl ⟨rfl, (((Ext.refl _).alloc _).alloc _).alloc _⟩

set_option maxHeartbeats 400000 in
theorem implbelow_any (a b c d : Int) (w : World) (h : I64 b) :
    Calls Try.prog 46 #[.agg #[.int .i64 a, .int .i64 b], .agg #[.int .i64 c, .int .i64 d]] w fun e w' => e = .returned (.bool (blw ⟨a, b⟩ ⟨c, d⟩)) ∧ Ext w w' := by
  have H := Lib.hid (andNot_and d h)
  go_enter Try.func46, Try.ntmps46
  go_wp2
  all_goals go_ret
  all_goals exact ⟨ret_bool (by unfold blw; simp only [← H.out]; simp; try omega), ((Ext.refl _).alloc _).alloc _⟩

set_option maxHeartbeats 400000 in
theorem specbelow_any (a b c d : Int) (w : World) :
    Calls Try.prog 45 #[.agg #[.int .i64 a, .int .i64 b], .agg #[.int .i64 c, .int .i64 d]] w fun e w' => e = .returned (.bool (blw ⟨a, b⟩ ⟨c, d⟩)) ∧ Ext w w' := by
  go_enter Try.func45, Try.ntmps45
  go_wp2
  all_goals go_ret
  all_goals exact ⟨ret_bool (by unfold blw; simp; try omega), ((Ext.refl _).alloc _).alloc _⟩

set_option maxHeartbeats 400000 in
theorem constants_any (w : World) :
    Calls Try.prog 3 #[] w fun e w' => e = .returned (.bool true) ∧ Ext w w' := by
  go_enter Try.func3, Try.ntmps3
  go_wp2
  go_ret
  exact ⟨rfl, Ext.refl _⟩

set_option maxHeartbeats 400000 in
theorem fnLabelRight_any (a : Lab) (w : World) (_ : a.ok) :
    Calls Try.prog 4 #[a.val] w fun e w' => e = .returned (.bool true) ∧ Ext w w' := by
  unfold Lab.val
  go_enter Try.func4, Try.ntmps4
  go_wp2_with (first
    | (go_at_call 16; refine (toLabel_any _ _ _).mono ?_; rintro e _ ⟨rfl, X, rfl⟩)
    | (go_at_call 15; refine (specLabelRight_any _ _ _).mono ?_; rintro e _ ⟨rfl, X, rfl⟩)
    | (go_at_call 17; refine (implLabelRight_any _ _ _).mono ?_; rintro e _ ⟨rfl, X, rfl⟩))
  go_ret
  exact ⟨rfl, by repeat (first | exact Ext.refl _ | apply Ext.plus | apply Ext.alloc)⟩


def belowL (a b : Lab) : Bool := labR a && labR b && blw a b
set_option maxHeartbeats 400000 in
theorem implBelow_any (a b c d : Int) (w : World) (h : I64 b) :
    Calls Try.prog 19 #[.agg #[.int .i64 a, .int .i64 b], .agg #[.int .i64 c, .int .i64 d]] w fun e w' => e = .returned (.bool (belowL ⟨a, b⟩ ⟨c, d⟩)) ∧ Ext w w' := by
  go_enter Try.func19, Try.ntmps19
  go_wp2_with (first
    | (go_at_call 17; refine (implLabelRight_any _ _ _).mono ?_; rintro e _ ⟨rfl, X, rfl⟩)
    | (go_at_call 46; refine (implbelow_any _ _ _ _ _ h).mono ?_; rintro e _ ⟨rfl, X, rfl⟩))
  all_goals go_ret
  all_goals exact ⟨ret_bool (by simp [belowL, *]), by repeat (first | exact Ext.refl _ | apply Ext.plus | apply Ext.alloc)⟩

set_option maxHeartbeats 400000 in
theorem specBelow_any (a b c d : Int) (w : World) :
    Calls Try.prog 18 #[.agg #[.int .i64 a, .int .i64 b], .agg #[.int .i64 c, .int .i64 d]] w fun e w' => e = .returned (.bool (belowL ⟨a, b⟩ ⟨c, d⟩)) ∧ Ext w w' := by
  go_enter Try.func18, Try.ntmps18
  go_wp2_with (first
    | (go_at_call 15; refine (specLabelRight_any _ _ _).mono ?_; rintro e _ ⟨rfl, X, rfl⟩)
    | (go_at_call 45; refine (specbelow_any _ _ _ _ _).mono ?_; rintro e _ ⟨rfl, X, rfl⟩))
  all_goals go_ret
  all_goals exact ⟨ret_bool (by simp [belowL, *]), by repeat (first | exact Ext.refl _ | apply Ext.plus | apply Ext.alloc)⟩

set_option maxHeartbeats 400000 in
theorem fnBelow_any (a b : Lab) (w : World) (ha : a.ok) (_ : b.ok) :
    Calls Try.prog 5 #[a.val, b.val] w fun e w' => e = .returned (.bool true) ∧ Ext w w' := by
  unfold Lab.val
  have h := ha.2
  go_enter Try.func5, Try.ntmps5
  go_wp2_with fail
  go_region_held3 (fun w' => w'.cell? ⟨w.heap.size, 0, none⟩ = some (.int .i64 a.lv) ∧ w'.cell? ⟨w.heap.size, 1, none⟩ = some (.int .i64 a.st) ∧ w'.cell? ⟨w.heap.size + 1, 0, none⟩ = some (.int .i64 b.lv) ∧ w'.cell? ⟨w.heap.size + 1, 1, none⟩ = some (.int .i64 b.st))
    (simp [go_sem])
    (first
    | (go_at_call 16; refine (toLabel_any _ _ _).mono ?_; rintro e _ ⟨rfl, X, rfl⟩)
    | (go_at_call 18; refine (specBelow_any _ _ _ _ _).mono ?_; rintro e _ ⟨rfl, X, rfl⟩)
    | (go_at_call 19; refine (implBelow_any _ _ _ _ _ h).mono ?_; rintro e _ ⟨rfl, X, rfl⟩))
  go_wp2_with fail
  go_region_held3 (fun w' => w'.cell? ⟨w.heap.size, 0, none⟩ = some (.int .i64 a.lv) ∧ w'.cell? ⟨w.heap.size, 1, none⟩ = some (.int .i64 a.st) ∧ w'.cell? ⟨w.heap.size + 1, 0, none⟩ = some (.int .i64 b.lv) ∧ w'.cell? ⟨w.heap.size + 1, 1, none⟩ = some (.int .i64 b.st))
    (simp [go_sem])
    (first
    | (go_at_call 16; refine (toLabel_any _ _ _).mono ?_; rintro e _ ⟨rfl, X, rfl⟩)
    | (go_at_call 18; refine (specBelow_any _ _ _ _ _).mono ?_; rintro e _ ⟨rfl, X, rfl⟩)
    | (go_at_call 19; refine (implBelow_any _ _ _ _ _ h).mono ?_; rintro e _ ⟨rfl, X, rfl⟩))
  go_wp2
  go_ret
  exact ⟨rfl, by repeat (first | exact Ext.refl _ | apply Ext.plus | apply Ext.alloc | apply Ext.drew)⟩

end Go.Proofs.Ytjihmodonebcaaa

/- The walks of JoinOf, MeetOf, EntryRight and of their laws. -/
import Derived.Test.YtocadhcggkbimaaDoorBA
set_option maxRecDepth 100000
namespace Go.Proofs.YtocadhcggkbimaaDoor
open Go.RowKit Go.Fin1

set_option maxHeartbeats 400000 in
theorem l01Max_any (a b : Int) (w : World) :
    Calls Tryd.prog 33 #[.int .i64 a, .int .i64 b] w fun e w' => e = .returned (.int .i64 (max a b)) ∧ w = w' := by
  go_enter Tryd.func33, Tryd.ntmps33
  go_wp2
  all_goals go_ret
  all_goals exact ⟨ret_int (by omega), rfl⟩
set_option maxHeartbeats 400000 in
theorem l01Min_any (a b : Int) (w : World) :
    Calls Tryd.prog 34 #[.int .i64 a, .int .i64 b] w fun e w' => e = .returned (.int .i64 (min a b)) ∧ w = w' := by
  go_enter Tryd.func34, Tryd.ntmps34
  go_wp2
  all_goals go_ret
  all_goals exact ⟨ret_int (by omega), rfl⟩
set_option maxHeartbeats 400000 in
theorem implJoinOf_any (a b c d : Int) (w : World) :
    Calls Tryd.prog 5 #[.agg #[.int .i64 a, .int .i64 b], .agg #[.int .i64 c, .int .i64 d]] w fun e w' => e = .returned (.agg #[.int .i64 (joinL ⟨a, b⟩ ⟨c, d⟩).lv, .int .i64 (joinL ⟨a, b⟩ ⟨c, d⟩).st]) ∧ Ext w w' := by
  cases h1 : labR ⟨a, b⟩ <;> cases h2 : labR ⟨c, d⟩
  all_goals simp only [joinL, h1, h2, Bool.and_self, Bool.and_false, Bool.and_true, Bool.false_eq_true, ↓reduceIte]
  all_goals go_enter Tryd.func5, Tryd.ntmps5
  all_goals go_wp2_with ((go_at_call 21; refine (implLabelRight_any _ _ _).mono ?_; rintro e _ ⟨rfl, X, rfl⟩))
  iterate 3 exact bodyPost_ret (v := .agg #[.int .i64 0, .int .i64 0]) (by simp [results, Tryd.results5, go_sem]) rfl ⟨rfl, (by repeat (first | exact Ext.refl _ | apply Ext.plus | apply Ext.alloc | apply Ext.drew))⟩
  exact bodyPost_ret (v := .agg #[.int .i64 (max a c), .int .i64 (bits .or .i64 b d)]) (by simp [results, Tryd.results5, go_sem]) rfl ⟨rfl, (by repeat (first | exact Ext.refl _ | apply Ext.plus | apply Ext.alloc | apply Ext.drew))⟩

set_option maxHeartbeats 400000 in
theorem specJoinOf_any (a b c d : Int) (w : World) :
    Calls Tryd.prog 13 #[.agg #[.int .i64 a, .int .i64 b], .agg #[.int .i64 c, .int .i64 d]] w fun e w' => e = .returned (.agg #[.int .i64 (joinL ⟨a, b⟩ ⟨c, d⟩).lv, .int .i64 (joinL ⟨a, b⟩ ⟨c, d⟩).st]) ∧ Ext w w' := by
  cases h1 : labR ⟨a, b⟩ <;> cases h2 : labR ⟨c, d⟩
  all_goals simp only [joinL, h1, h2, Bool.and_self, Bool.and_false, Bool.and_true, Bool.false_eq_true, ↓reduceIte]
  all_goals go_enter Tryd.func13, Tryd.ntmps13
  all_goals go_wp2_with (first | (go_at_call 22; refine (specLabelRight_any _ _ _).mono ?_; rintro e _ ⟨rfl, X, rfl⟩) | (go_at_call 33; refine (l01Max_any _ _ _).mono ?_; rintro e _ ⟨rfl, rfl⟩))
  iterate 3 exact bodyPost_ret (v := .agg #[.int .i64 0, .int .i64 0]) (by simp [results, Tryd.results13, go_sem]) rfl ⟨rfl, (by repeat (first | exact Ext.refl _ | apply Ext.plus | apply Ext.alloc | apply Ext.drew))⟩
  go_region_held3 (fun w' => w'.cell? ⟨w.heap.size, 0, none⟩ = some (.int .i64 a) ∧ w'.cell? ⟨w.heap.size, 1, none⟩ = some (.int .i64 b) ∧ w'.cell? ⟨w.heap.size + 1, 0, none⟩ = some (.int .i64 c) ∧ w'.cell? ⟨w.heap.size + 1, 1, none⟩ = some (.int .i64 d))
    (simp [go_sem])
    (first | (go_at_call 33; refine (l01Max_any _ _ _).mono ?_; rintro e _ ⟨rfl, rfl⟩))
  go_wp2
  exact bodyPost_ret (v := .agg #[.int .i64 (max a c), .int .i64 (bits .or .i64 b d)]) (by simp [results, Tryd.results13, go_sem]) rfl ⟨rfl, (by repeat (first | exact Ext.refl _ | apply Ext.plus | apply Ext.alloc | apply Ext.drew))⟩
set_option maxHeartbeats 400000 in
theorem implMeetOf_any (a b c d : Int) (w : World) :
    Calls Tryd.prog 6 #[.agg #[.int .i64 a, .int .i64 b], .agg #[.int .i64 c, .int .i64 d]] w fun e w' => e = .returned (.agg #[.int .i64 (meetL ⟨a, b⟩ ⟨c, d⟩).lv, .int .i64 (meetL ⟨a, b⟩ ⟨c, d⟩).st]) ∧ Ext w w' := by
  cases h1 : labR ⟨a, b⟩ <;> cases h2 : labR ⟨c, d⟩
  all_goals simp only [meetL, h1, h2, Bool.and_self, Bool.and_false, Bool.and_true, Bool.false_eq_true, ↓reduceIte]
  all_goals go_enter Tryd.func6, Tryd.ntmps6
  all_goals go_wp2_with ((go_at_call 21; refine (implLabelRight_any _ _ _).mono ?_; rintro e _ ⟨rfl, X, rfl⟩))
  iterate 3 exact bodyPost_ret (v := .agg #[.int .i64 0, .int .i64 0]) (by simp [results, Tryd.results6, go_sem]) rfl ⟨rfl, (by repeat (first | exact Ext.refl _ | apply Ext.plus | apply Ext.alloc | apply Ext.drew))⟩
  exact bodyPost_ret (v := .agg #[.int .i64 (min a c), .int .i64 (bits .and .i64 b d)]) (by simp [results, Tryd.results6, go_sem]) rfl ⟨rfl, (by repeat (first | exact Ext.refl _ | apply Ext.plus | apply Ext.alloc | apply Ext.drew))⟩

set_option maxHeartbeats 400000 in
theorem specMeetOf_any (a b c d : Int) (w : World) :
    Calls Tryd.prog 14 #[.agg #[.int .i64 a, .int .i64 b], .agg #[.int .i64 c, .int .i64 d]] w fun e w' => e = .returned (.agg #[.int .i64 (meetL ⟨a, b⟩ ⟨c, d⟩).lv, .int .i64 (meetL ⟨a, b⟩ ⟨c, d⟩).st]) ∧ Ext w w' := by
  cases h1 : labR ⟨a, b⟩ <;> cases h2 : labR ⟨c, d⟩
  all_goals simp only [meetL, h1, h2, Bool.and_self, Bool.and_false, Bool.and_true, Bool.false_eq_true, ↓reduceIte]
  all_goals go_enter Tryd.func14, Tryd.ntmps14
  all_goals go_wp2_with (first | (go_at_call 22; refine (specLabelRight_any _ _ _).mono ?_; rintro e _ ⟨rfl, X, rfl⟩) | (go_at_call 34; refine (l01Min_any _ _ _).mono ?_; rintro e _ ⟨rfl, rfl⟩))
  iterate 3 exact bodyPost_ret (v := .agg #[.int .i64 0, .int .i64 0]) (by simp [results, Tryd.results14, go_sem]) rfl ⟨rfl, (by repeat (first | exact Ext.refl _ | apply Ext.plus | apply Ext.alloc | apply Ext.drew))⟩
  go_region_held3 (fun w' => w'.cell? ⟨w.heap.size, 0, none⟩ = some (.int .i64 a) ∧ w'.cell? ⟨w.heap.size, 1, none⟩ = some (.int .i64 b) ∧ w'.cell? ⟨w.heap.size + 1, 0, none⟩ = some (.int .i64 c) ∧ w'.cell? ⟨w.heap.size + 1, 1, none⟩ = some (.int .i64 d))
    (simp [go_sem])
    (first | (go_at_call 34; refine (l01Min_any _ _ _).mono ?_; rintro e _ ⟨rfl, rfl⟩))
  go_wp2
  exact bodyPost_ret (v := .agg #[.int .i64 (min a c), .int .i64 (bits .and .i64 b d)]) (by simp [results, Tryd.results14, go_sem]) rfl ⟨rfl, (by repeat (first | exact Ext.refl _ | apply Ext.plus | apply Ext.alloc | apply Ext.drew))⟩
end Go.Proofs.YtocadhcggkbimaaDoor

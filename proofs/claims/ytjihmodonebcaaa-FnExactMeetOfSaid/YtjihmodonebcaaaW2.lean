/- The walks of JoinOf, MeetOf, EntryRight and of their laws. -/
import Derived.Test.YtjihmodonebcaaaA
namespace Go.Proofs.Ytjihmodonebcaaa
open Go.RowKit Go.Fin1

set_option maxHeartbeats 400000 in
theorem l01Max_any (a b : Int) (w : World) :
    Calls Try.prog 49 #[.int .i64 a, .int .i64 b] w fun e w' => e = .returned (.int .i64 (max a b)) ∧ w = w' := by
  go_enter Try.func49, Try.ntmps49
  go_wp2
  all_goals go_ret
  all_goals exact ⟨ret_int (by omega), rfl⟩
set_option maxHeartbeats 400000 in
theorem l01Min_any (a b : Int) (w : World) :
    Calls Try.prog 50 #[.int .i64 a, .int .i64 b] w fun e w' => e = .returned (.int .i64 (min a b)) ∧ w = w' := by
  go_enter Try.func50, Try.ntmps50
  go_wp2
  all_goals go_ret
  all_goals exact ⟨ret_int (by omega), rfl⟩
def eqLab (a b : Lab) : Bool := a.lv == b.lv && a.st == b.st
theorem eqLab_self (x y : Int) : eqLab ⟨x, y⟩ ⟨x, y⟩ = true := by simp [eqLab]
set_option maxHeartbeats 400000 in
theorem eqLabel_any (a b c d : Int) (w : World) :
    Calls Try.prog 28 #[.agg #[.int .i64 a, .int .i64 b], .agg #[.int .i64 c, .int .i64 d]] w fun e w' => e = .returned (.bool (eqLab ⟨a, b⟩ ⟨c, d⟩)) ∧ Ext w w' := by
  go_enter Try.func28, Try.ntmps28
  go_wp2
  all_goals go_ret
  all_goals exact ⟨ret_bool (by simp_all [eqLab]), ((Ext.refl _).alloc _).alloc _⟩
set_option maxHeartbeats 400000 in
theorem implJoinOf_any (a b c d : Int) (w : World) :
    Calls Try.prog 27 #[.agg #[.int .i64 a, .int .i64 b], .agg #[.int .i64 c, .int .i64 d]] w fun e w' => e = .returned (.agg #[.int .i64 (joinL ⟨a, b⟩ ⟨c, d⟩).lv, .int .i64 (joinL ⟨a, b⟩ ⟨c, d⟩).st]) ∧ Ext w w' := by
  cases h1 : labR ⟨a, b⟩ <;> cases h2 : labR ⟨c, d⟩
  all_goals simp only [joinL, h1, h2, Bool.and_self, Bool.and_false, Bool.and_true, Bool.false_eq_true, ↓reduceIte]
  all_goals go_enter Try.func27, Try.ntmps27
  all_goals go_wp2_with ((go_at_call 17; refine (implLabelRight_any _ _ _).mono ?_; rintro e _ ⟨rfl, X, rfl⟩))
  iterate 3 exact bodyPost_ret (v := .agg #[.int .i64 0, .int .i64 0]) (by simp [results, Try.results27, go_sem]) rfl ⟨rfl, (by repeat (first | exact Ext.refl _ | apply Ext.plus | apply Ext.alloc | apply Ext.drew))⟩
  exact bodyPost_ret (v := .agg #[.int .i64 (max a c), .int .i64 (bits .or .i64 b d)]) (by simp [results, Try.results27, go_sem]) rfl ⟨rfl, (by repeat (first | exact Ext.refl _ | apply Ext.plus | apply Ext.alloc | apply Ext.drew))⟩

set_option maxHeartbeats 400000 in
theorem specJoinOf_any (a b c d : Int) (w : World) :
    Calls Try.prog 26 #[.agg #[.int .i64 a, .int .i64 b], .agg #[.int .i64 c, .int .i64 d]] w fun e w' => e = .returned (.agg #[.int .i64 (joinL ⟨a, b⟩ ⟨c, d⟩).lv, .int .i64 (joinL ⟨a, b⟩ ⟨c, d⟩).st]) ∧ Ext w w' := by
  cases h1 : labR ⟨a, b⟩ <;> cases h2 : labR ⟨c, d⟩
  all_goals simp only [joinL, h1, h2, Bool.and_self, Bool.and_false, Bool.and_true, Bool.false_eq_true, ↓reduceIte]
  all_goals go_enter Try.func26, Try.ntmps26
  all_goals go_wp2_with (first | (go_at_call 15; refine (specLabelRight_any _ _ _).mono ?_; rintro e _ ⟨rfl, X, rfl⟩) | (go_at_call 49; refine (l01Max_any _ _ _).mono ?_; rintro e _ ⟨rfl, rfl⟩))
  iterate 3 exact bodyPost_ret (v := .agg #[.int .i64 0, .int .i64 0]) (by simp [results, Try.results26, go_sem]) rfl ⟨rfl, (by repeat (first | exact Ext.refl _ | apply Ext.plus | apply Ext.alloc | apply Ext.drew))⟩
  go_region_held3 (fun w' => w'.cell? ⟨w.heap.size, 0, none⟩ = some (.int .i64 a) ∧ w'.cell? ⟨w.heap.size, 1, none⟩ = some (.int .i64 b) ∧ w'.cell? ⟨w.heap.size + 1, 0, none⟩ = some (.int .i64 c) ∧ w'.cell? ⟨w.heap.size + 1, 1, none⟩ = some (.int .i64 d))
    (simp [go_sem])
    (first | (go_at_call 49; refine (l01Max_any _ _ _).mono ?_; rintro e _ ⟨rfl, rfl⟩))
  go_wp2
  exact bodyPost_ret (v := .agg #[.int .i64 (max a c), .int .i64 (bits .or .i64 b d)]) (by simp [results, Try.results26, go_sem]) rfl ⟨rfl, (by repeat (first | exact Ext.refl _ | apply Ext.plus | apply Ext.alloc | apply Ext.drew))⟩
set_option maxHeartbeats 800000 in
theorem fnJoinOf_any (a b : Lab) (w : World) (_ : a.ok) (_ : b.ok) :
    Calls Try.prog 9 #[a.val, b.val] w fun e w' => e = .returned (.bool true) ∧ Ext w w' := by
  unfold Lab.val
  go_enter Try.func9, Try.ntmps9
  go_upto_region 1 with fail
  go_cut [5] (fun s wx => ∃ q : Nat, s = .pointer (some ⟨q, 0, none⟩) ∧ Ext w wx ∧ wx.cell? ⟨w.heap.size, 0, none⟩ = some (.int .i64 a.lv) ∧ wx.cell? ⟨w.heap.size, 1, none⟩ = some (.int .i64 a.st) ∧ wx.cell? ⟨w.heap.size + 1, 0, none⟩ = some (.int .i64 b.lv) ∧ wx.cell? ⟨w.heap.size + 1, 1, none⟩ = some (.int .i64 b.st) ∧ wx.cell? ⟨q, 0, none⟩ = some (.int .i64 (joinL a b).lv) ∧ wx.cell? ⟨q, 1, none⟩ = some (.int .i64 (joinL a b).st))
  case first =>
    go_region_held3 (fun w' => w'.cell? ⟨w.heap.size, 0, none⟩ = some (.int .i64 a.lv) ∧ w'.cell? ⟨w.heap.size, 1, none⟩ = some (.int .i64 a.st) ∧ w'.cell? ⟨w.heap.size + 1, 0, none⟩ = some (.int .i64 b.lv) ∧ w'.cell? ⟨w.heap.size + 1, 1, none⟩ = some (.int .i64 b.st))
      (simp [go_sem])
      (first | (go_at_call 16; refine (toLabel_any _ _ _).mono ?_; rintro e _ ⟨rfl, X, rfl⟩) | (go_at_call 26; refine (specJoinOf_any _ _ _ _ _).mono ?_; rintro e _ ⟨rfl, X, rfl⟩))
    all_goals (go_wp2_with fail; go_meet; exact ⟨_, rfl, (by repeat (first | exact Ext.refl _ | apply Ext.plus | apply Ext.alloc | apply Ext.drew)), by simp [go_sem], by simp [go_sem], by simp [go_sem], by simp [go_sem], by simp [go_sem], by simp [go_sem]⟩)
  case rest =>
    obtain ⟨g, rfl, hx, h1, h2, h3, h4, h5, h6⟩ := hcut
    have o1 := World.old_of_cell h1
    have o3 := World.old_of_cell h3
    have o5 := World.old_of_cell h5
    go_upto_region 2 with fail
    go_cut [6] (fun s wx => ∃ q : Nat, s = .pointer (some ⟨q, 0, none⟩) ∧ Ext w wx ∧ wx.cell? ⟨w.heap.size, 0, none⟩ = some (.int .i64 a.lv) ∧ wx.cell? ⟨w.heap.size, 1, none⟩ = some (.int .i64 a.st) ∧ wx.cell? ⟨w.heap.size + 1, 0, none⟩ = some (.int .i64 b.lv) ∧ wx.cell? ⟨w.heap.size + 1, 1, none⟩ = some (.int .i64 b.st) ∧ wx.cell? ⟨g, 0, none⟩ = some (.int .i64 (joinL a b).lv) ∧ wx.cell? ⟨g, 1, none⟩ = some (.int .i64 (joinL a b).st) ∧ wx.cell? ⟨q, 0, none⟩ = some (.int .i64 (joinL a b).lv) ∧ wx.cell? ⟨q, 1, none⟩ = some (.int .i64 (joinL a b).st))
    case first =>
      go_region_held3 (fun w' => w'.cell? ⟨w.heap.size, 0, none⟩ = some (.int .i64 a.lv) ∧ w'.cell? ⟨w.heap.size, 1, none⟩ = some (.int .i64 a.st) ∧ w'.cell? ⟨w.heap.size + 1, 0, none⟩ = some (.int .i64 b.lv) ∧ w'.cell? ⟨w.heap.size + 1, 1, none⟩ = some (.int .i64 b.st))
        (simp [go_sem, *])
        (first | (go_at_call 16; refine (toLabel_any _ _ _).mono ?_; rintro e _ ⟨rfl, X, rfl⟩) | (go_at_call 27; refine (implJoinOf_any _ _ _ _ _).mono ?_; rintro e _ ⟨rfl, X, rfl⟩))
      all_goals (go_wp2_with fail; go_meet; exact ⟨_, rfl, hx.trans (by repeat (first | exact Ext.refl _ | apply Ext.plus | apply Ext.alloc | apply Ext.drew)), by simp [go_sem, *], by simp [go_sem, *], by simp [go_sem, *], by simp [go_sem, *], by simp [go_sem, *], by simp [go_sem, *], by simp [go_sem, *], by simp [go_sem, *]⟩)
    case rest =>
      obtain ⟨g', rfl, hx', _, _, _, _, h7, h8, h9, h10⟩ := hcut
      go_wp2_with (go_at_call 28; refine (eqLabel_any _ _ _ _ _).mono ?_; rintro e _ ⟨rfl, X, rfl⟩; rw [eqLab_self])
      go_ret
      exact ⟨rfl, hx'.trans (by repeat (first | exact Ext.refl _ | apply Ext.plus | apply Ext.alloc | apply Ext.drew))⟩
set_option maxHeartbeats 400000 in
theorem implMeetOf_any (a b c d : Int) (w : World) :
    Calls Try.prog 30 #[.agg #[.int .i64 a, .int .i64 b], .agg #[.int .i64 c, .int .i64 d]] w fun e w' => e = .returned (.agg #[.int .i64 (meetL ⟨a, b⟩ ⟨c, d⟩).lv, .int .i64 (meetL ⟨a, b⟩ ⟨c, d⟩).st]) ∧ Ext w w' := by
  cases h1 : labR ⟨a, b⟩ <;> cases h2 : labR ⟨c, d⟩
  all_goals simp only [meetL, h1, h2, Bool.and_self, Bool.and_false, Bool.and_true, Bool.false_eq_true, ↓reduceIte]
  all_goals go_enter Try.func30, Try.ntmps30
  all_goals go_wp2_with ((go_at_call 17; refine (implLabelRight_any _ _ _).mono ?_; rintro e _ ⟨rfl, X, rfl⟩))
  iterate 3 exact bodyPost_ret (v := .agg #[.int .i64 0, .int .i64 0]) (by simp [results, Try.results30, go_sem]) rfl ⟨rfl, (by repeat (first | exact Ext.refl _ | apply Ext.plus | apply Ext.alloc | apply Ext.drew))⟩
  exact bodyPost_ret (v := .agg #[.int .i64 (min a c), .int .i64 (bits .and .i64 b d)]) (by simp [results, Try.results30, go_sem]) rfl ⟨rfl, (by repeat (first | exact Ext.refl _ | apply Ext.plus | apply Ext.alloc | apply Ext.drew))⟩

set_option maxHeartbeats 400000 in
theorem specMeetOf_any (a b c d : Int) (w : World) :
    Calls Try.prog 29 #[.agg #[.int .i64 a, .int .i64 b], .agg #[.int .i64 c, .int .i64 d]] w fun e w' => e = .returned (.agg #[.int .i64 (meetL ⟨a, b⟩ ⟨c, d⟩).lv, .int .i64 (meetL ⟨a, b⟩ ⟨c, d⟩).st]) ∧ Ext w w' := by
  cases h1 : labR ⟨a, b⟩ <;> cases h2 : labR ⟨c, d⟩
  all_goals simp only [meetL, h1, h2, Bool.and_self, Bool.and_false, Bool.and_true, Bool.false_eq_true, ↓reduceIte]
  all_goals go_enter Try.func29, Try.ntmps29
  all_goals go_wp2_with (first | (go_at_call 15; refine (specLabelRight_any _ _ _).mono ?_; rintro e _ ⟨rfl, X, rfl⟩) | (go_at_call 50; refine (l01Min_any _ _ _).mono ?_; rintro e _ ⟨rfl, rfl⟩))
  iterate 3 exact bodyPost_ret (v := .agg #[.int .i64 0, .int .i64 0]) (by simp [results, Try.results29, go_sem]) rfl ⟨rfl, (by repeat (first | exact Ext.refl _ | apply Ext.plus | apply Ext.alloc | apply Ext.drew))⟩
  go_region_held3 (fun w' => w'.cell? ⟨w.heap.size, 0, none⟩ = some (.int .i64 a) ∧ w'.cell? ⟨w.heap.size, 1, none⟩ = some (.int .i64 b) ∧ w'.cell? ⟨w.heap.size + 1, 0, none⟩ = some (.int .i64 c) ∧ w'.cell? ⟨w.heap.size + 1, 1, none⟩ = some (.int .i64 d))
    (simp [go_sem])
    (first | (go_at_call 50; refine (l01Min_any _ _ _).mono ?_; rintro e _ ⟨rfl, rfl⟩))
  go_wp2
  exact bodyPost_ret (v := .agg #[.int .i64 (min a c), .int .i64 (bits .and .i64 b d)]) (by simp [results, Try.results29, go_sem]) rfl ⟨rfl, (by repeat (first | exact Ext.refl _ | apply Ext.plus | apply Ext.alloc | apply Ext.drew))⟩
set_option maxHeartbeats 800000 in
theorem fnMeetOf_any (a b : Lab) (w : World) (_ : a.ok) (_ : b.ok) :
    Calls Try.prog 10 #[a.val, b.val] w fun e w' => e = .returned (.bool true) ∧ Ext w w' := by
  unfold Lab.val
  go_enter Try.func10, Try.ntmps10
  go_upto_region 1 with fail
  go_cut [5] (fun s wx => ∃ q : Nat, s = .pointer (some ⟨q, 0, none⟩) ∧ Ext w wx ∧ wx.cell? ⟨w.heap.size, 0, none⟩ = some (.int .i64 a.lv) ∧ wx.cell? ⟨w.heap.size, 1, none⟩ = some (.int .i64 a.st) ∧ wx.cell? ⟨w.heap.size + 1, 0, none⟩ = some (.int .i64 b.lv) ∧ wx.cell? ⟨w.heap.size + 1, 1, none⟩ = some (.int .i64 b.st) ∧ wx.cell? ⟨q, 0, none⟩ = some (.int .i64 (meetL a b).lv) ∧ wx.cell? ⟨q, 1, none⟩ = some (.int .i64 (meetL a b).st))
  case first =>
    go_region_held3 (fun w' => w'.cell? ⟨w.heap.size, 0, none⟩ = some (.int .i64 a.lv) ∧ w'.cell? ⟨w.heap.size, 1, none⟩ = some (.int .i64 a.st) ∧ w'.cell? ⟨w.heap.size + 1, 0, none⟩ = some (.int .i64 b.lv) ∧ w'.cell? ⟨w.heap.size + 1, 1, none⟩ = some (.int .i64 b.st))
      (simp [go_sem])
      (first | (go_at_call 16; refine (toLabel_any _ _ _).mono ?_; rintro e _ ⟨rfl, X, rfl⟩) | (go_at_call 29; refine (specMeetOf_any _ _ _ _ _).mono ?_; rintro e _ ⟨rfl, X, rfl⟩))
    all_goals (go_wp2_with fail; go_meet; exact ⟨_, rfl, (by repeat (first | exact Ext.refl _ | apply Ext.plus | apply Ext.alloc | apply Ext.drew)), by simp [go_sem], by simp [go_sem], by simp [go_sem], by simp [go_sem], by simp [go_sem], by simp [go_sem]⟩)
  case rest =>
    obtain ⟨g, rfl, hx, h1, h2, h3, h4, h5, h6⟩ := hcut
    have o1 := World.old_of_cell h1
    have o3 := World.old_of_cell h3
    have o5 := World.old_of_cell h5
    go_upto_region 2 with fail
    go_cut [6] (fun s wx => ∃ q : Nat, s = .pointer (some ⟨q, 0, none⟩) ∧ Ext w wx ∧ wx.cell? ⟨w.heap.size, 0, none⟩ = some (.int .i64 a.lv) ∧ wx.cell? ⟨w.heap.size, 1, none⟩ = some (.int .i64 a.st) ∧ wx.cell? ⟨w.heap.size + 1, 0, none⟩ = some (.int .i64 b.lv) ∧ wx.cell? ⟨w.heap.size + 1, 1, none⟩ = some (.int .i64 b.st) ∧ wx.cell? ⟨g, 0, none⟩ = some (.int .i64 (meetL a b).lv) ∧ wx.cell? ⟨g, 1, none⟩ = some (.int .i64 (meetL a b).st) ∧ wx.cell? ⟨q, 0, none⟩ = some (.int .i64 (meetL a b).lv) ∧ wx.cell? ⟨q, 1, none⟩ = some (.int .i64 (meetL a b).st))
    case first =>
      go_region_held3 (fun w' => w'.cell? ⟨w.heap.size, 0, none⟩ = some (.int .i64 a.lv) ∧ w'.cell? ⟨w.heap.size, 1, none⟩ = some (.int .i64 a.st) ∧ w'.cell? ⟨w.heap.size + 1, 0, none⟩ = some (.int .i64 b.lv) ∧ w'.cell? ⟨w.heap.size + 1, 1, none⟩ = some (.int .i64 b.st))
        (simp [go_sem, *])
        (first | (go_at_call 16; refine (toLabel_any _ _ _).mono ?_; rintro e _ ⟨rfl, X, rfl⟩) | (go_at_call 30; refine (implMeetOf_any _ _ _ _ _).mono ?_; rintro e _ ⟨rfl, X, rfl⟩))
      all_goals (go_wp2_with fail; go_meet; exact ⟨_, rfl, hx.trans (by repeat (first | exact Ext.refl _ | apply Ext.plus | apply Ext.alloc | apply Ext.drew)), by simp [go_sem, *], by simp [go_sem, *], by simp [go_sem, *], by simp [go_sem, *], by simp [go_sem, *], by simp [go_sem, *], by simp [go_sem, *], by simp [go_sem, *]⟩)
    case rest =>
      obtain ⟨g', rfl, hx', _, _, _, _, h7, h8, h9, h10⟩ := hcut
      go_wp2_with (go_at_call 28; refine (eqLabel_any _ _ _ _ _).mono ?_; rintro e _ ⟨rfl, X, rfl⟩; rw [eqLab_self])
      go_ret
      exact ⟨rfl, hx'.trans (by repeat (first | exact Ext.refl _ | apply Ext.plus | apply Ext.alloc | apply Ext.drew))⟩
end Go.Proofs.Ytjihmodonebcaaa

/- The walks of Ahead. -/
import Derived.Test.YtfmjnncgpfkejaaC3
set_option maxRecDepth 100000
set_option linter.unusedVariables false
namespace Go.Proofs.Ytfmjnncgpfkejaa
open Go.RowKit Go.Fin1


set_option maxHeartbeats 1600000 in
theorem implAhead_any (a b : Jb) (na nb : Value) (w : World) (hoa : a.ok) (hob : b.ok) (ha : SlR w 1 rInt na a.nodes) (hb : SlR w 1 rInt nb b.nodes) :
    Calls Try.prog 14 #[a.val na, b.val nb] w fun e w' => e = .returned (.bool (jobR a && jobR b && aheadJ a b)) ∧ Ext w w' := by
  have HA := Lib.hid ha
  have HB := Lib.hid hb
  have HN := Lib.hid (show decide (cmpJ a b < 0) = aheadJ a b by unfold aheadJ; rfl)
  obtain ⟨x1, x2, rfl⟩ := ha.len
  obtain ⟨y1, y2, rfl⟩ := hb.len
  clear ha hb
  go_enter Try.func14, Try.ntmps14
  unfold Jb.val
  go_wp2_with fail
  refine (implJobRight_any a _ _ hoa (HA.out.ext rInt_stable (by repeat (first | exact Ext.refl _ | apply Ext.plus | apply Ext.alloc | apply Ext.drew)))).mono ?_
  rintro e _ ⟨rfl, ⟨Y, rfl⟩⟩
  cases q1 : jobR a
  · go_wp2
    go_ret
    exact ⟨ret_bool (by simp [q1]), (by repeat (first | exact Ext.refl _ | apply Ext.plus | apply Ext.alloc | apply Ext.drew))⟩
  go_wp2_with fail
  refine (implJobRight_any b _ _ hob (HB.out.ext rInt_stable (by repeat (first | exact Ext.refl _ | apply Ext.plus | apply Ext.alloc | apply Ext.drew)))).mono ?_
  rintro e _ ⟨rfl, ⟨Y2, rfl⟩⟩
  cases q2 : jobR b
  · go_wp2
    go_ret
    exact ⟨ret_bool (by simp [q1, q2]), (by repeat (first | exact Ext.refl _ | apply Ext.plus | apply Ext.alloc | apply Ext.drew))⟩
  go_wp2_with fail
  refine (compareJobs_any a b _ _ _).mono ?_
  rintro e _ ⟨rfl, ⟨Y3, rfl⟩⟩
  cases q3 : aheadJ a b
  · have hn : decide (cmpJ a b < 0) = false := by rw [HN.out, q3]
    go_wp2
    go_ret
    exact ⟨ret_bool (by simp [q1, q2, q3]), (by repeat (first | exact Ext.refl _ | apply Ext.plus | apply Ext.alloc | apply Ext.drew))⟩
  · have hn : decide (cmpJ a b < 0) = true := by rw [HN.out, q3]
    go_wp2
    go_ret
    exact ⟨ret_bool (by simp [q1, q2, q3]), (by repeat (first | exact Ext.refl _ | apply Ext.plus | apply Ext.alloc | apply Ext.drew))⟩

set_option maxHeartbeats 800000 in
theorem l04Ahead_any (a b : Jb) (na nb : Value) (w : World) :
    Calls Try.prog 47 #[a.val na, b.val nb] w fun e w' => e = .returned (.bool (aheadJ a b)) ∧ Ext w w' := by
  have HI := Lib.hid (@aheadJ_iff a b)
  obtain ⟨⟨lv, st⟩, id, need, long, prio, state, start, nodes⟩ := a
  obtain ⟨⟨lv2, st2⟩, id2, need2, long2, prio2, state2, start2, nodes2⟩ := b
  unfold Jb.val
  generalize aheadJ _ _ = G at HI
  go_enter Try.func47, Try.ntmps47
  go_wp2
  all_goals go_ret
  all_goals exact ⟨ret_bool (by have h := HI.out; rw [Bool.eq_iff_iff, h]; simp only [decide_eq_true_eq, bne_eq_false_iff_eq, bne_iff_ne, ne_eq] at *; omega), (by repeat (first | exact Ext.refl _ | apply Ext.plus | apply Ext.alloc | apply Ext.drew))⟩

set_option maxHeartbeats 1600000 in
theorem specAhead_any (a b : Jb) (na nb : Value) (w : World) (hoa : a.ok) (hob : b.ok) (ha : SlR w 1 rInt na a.nodes) (hb : SlR w 1 rInt nb b.nodes) :
    Calls Try.prog 15 #[a.val na, b.val nb] w fun e w' => e = .returned (.bool (jobR a && jobR b && aheadJ a b)) ∧ Ext w w' := by
  have HA := Lib.hid ha
  have HB := Lib.hid hb
  obtain ⟨x1, x2, rfl⟩ := ha.len
  obtain ⟨y1, y2, rfl⟩ := hb.len
  clear ha hb
  go_enter Try.func15, Try.ntmps15
  unfold Jb.val
  go_wp2_with fail
  refine (specJobRight_any a _ _ hoa (HA.out.ext rInt_stable (by repeat (first | exact Ext.refl _ | apply Ext.plus | apply Ext.alloc | apply Ext.drew)))).mono ?_
  rintro e _ ⟨rfl, ⟨Y, rfl⟩⟩
  cases q1 : jobR a
  · go_wp2
    go_ret
    exact ⟨ret_bool (by simp [q1]), (by repeat (first | exact Ext.refl _ | apply Ext.plus | apply Ext.alloc | apply Ext.drew))⟩
  go_wp2_with fail
  refine (specJobRight_any b _ _ hob (HB.out.ext rInt_stable (by repeat (first | exact Ext.refl _ | apply Ext.plus | apply Ext.alloc | apply Ext.drew)))).mono ?_
  rintro e _ ⟨rfl, ⟨Y2, rfl⟩⟩
  cases q2 : jobR b
  · go_wp2
    go_ret
    exact ⟨ret_bool (by simp [q1, q2]), (by repeat (first | exact Ext.refl _ | apply Ext.plus | apply Ext.alloc | apply Ext.drew))⟩
  go_wp2_with fail
  refine (l04Ahead_any a b _ _ _).mono ?_
  rintro e _ ⟨rfl, ⟨Y3, rfl⟩⟩
  go_wp2
  go_ret
  exact ⟨ret_bool (by simp [q1, q2]), (by repeat (first | exact Ext.refl _ | apply Ext.plus | apply Ext.alloc | apply Ext.drew))⟩
end Go.Proofs.Ytfmjnncgpfkejaa

/- The walk of compareJobs. -/
import Derived.Test.YtfmjnncgpfkejaaGreatC1
set_option maxRecDepth 100000
set_option linter.unusedVariables false
namespace Go.Proofs.YtfmjnncgpfkejaaGreat
open Go.RowKit Go.Fin1

set_option maxHeartbeats 1600000 in
theorem compareJobs_any (a b : Jb) (na nb : Value) (w : World) :
    Calls Tryz.prog 92 #[a.val na, b.val nb] w fun e w' => e = .returned (.int .i64 (cmpJ a b)) ∧ Ext w w' := by
  obtain ⟨⟨lv, st⟩, id, need, long, prio, state, start, nodes⟩ := a
  obtain ⟨⟨lv2, st2⟩, id2, need2, long2, prio2, state2, start2, nodes2⟩ := b
  unfold Jb.val
  simp only
  have hi := Lib.hid (show ∀ x ∈ [cmpL ⟨lv, st⟩ ⟨lv2, st2⟩, cmpI prio2 prio, cmpI id id2], I64 x from fun x hx => by
    have h1 := cmpL_bd ⟨lv, st⟩ ⟨lv2, st2⟩
    have h2 := cmpI_bd prio2 prio
    have h3 := cmpI_bd id id2
    simp at hx
    rcases hx with rfl | rfl | rfl <;> (unfold I64; omega))
  generalize hG : cmpJ _ _ = G
  have HL : Hid (G = orI [cmpL ⟨lv, st⟩ ⟨lv2, st2⟩, cmpI prio2 prio, cmpI id id2]) := Lib.hid (by rw [← hG]; unfold cmpJ; rfl)
  clear hG
  go_enter Tryz.func92, Tryz.ntmps92
  go_upto_region 1 with fail
  (apply wp_region_y (m := 18) (Ks := [_, _, _, _, _, _, _, _, _, _, _, _, _, _, _, kSli [cmpL ⟨lv, st⟩ ⟨lv2, st2⟩, cmpI prio2 prio, cmpI id id2], _, _]); (case hm => kernel_rfl); (case hc => kernel_rfl); (case hd => kernel_rfl); (case hl => rfl))
  case h =>
    (iterate 15 (apply YReg.step; (case h => (intro w' hw' hF'; obtain ⟨X', rfl⟩ := hw'; have HF' := Lib.hid hF'; clear hF'; go_wp2_with (first | (go_at_call 121; refine (cmpI_any _ _ _).mono ?_; rintro e _ ⟨rfl, rfl⟩) | (go_at_call 120; refine (compareLabels_any _ _ _ _ _).mono ?_; rintro e _ ⟨rfl, X, rfl⟩)); exact ⟨rfl, (by repeat (first | exact Ext.refl _ | apply Ext.plus | apply Ext.alloc | apply Ext.drew))⟩)); (case hv => kernel_rfl)))
    refine YReg.kind (fun w' hw' hF' => ?_) (fun v w1 hK => ?_)
    · obtain ⟨X', rfl⟩ := hw'
      clear hF'
      go_wp2_with fail
      refine ⟨(by repeat (first | exact Ext.refl _ | apply Ext.plus | apply Ext.alloc | apply Ext.drew)), _, _, rfl, ?_⟩
      exact sl_new2 w _ _ X' _ [cmpL ⟨lv, st⟩ ⟨lv2, st2⟩, cmpI prio2 prio, cmpI id id2] hi.out (by show 3 ≤ maxLen; decide)
    · obtain ⟨a3, c3, rfl, hs3⟩ := hK
      clear hs3 w1
      (apply YReg.val (.int .i64 G); (case h => (intro w' hw' hF'; obtain ⟨X', rfl⟩ := hw'; have HF' := Lib.hid hF'; clear hF'; go_wp2_with ((go_at_call 119; have hk := HF'.out.get 15 (p := (kSli [cmpL ⟨lv, st⟩ ⟨lv2, st2⟩, cmpI prio2 prio, cmpI id id2], .slice a3 [cmpL ⟨lv, st⟩ ⟨lv2, st2⟩, cmpI prio2 prio, cmpI id id2].length c3)) (by kernel_rfl) (by kernel_rfl); refine (cmpOr_any _ [cmpL ⟨lv, st⟩ ⟨lv2, st2⟩, cmpI prio2 prio, cmpI id id2] _ (kSli_r hk)).mono ?_; clear hk; rintro e _ ⟨rfl, Y, rfl⟩; rw [← HL.out])); exact ⟨rfl, (by repeat (first | exact Ext.refl _ | apply Ext.plus | apply Ext.alloc | apply Ext.drew))⟩)); (case hv => kernel_rfl))
      (apply YReg.val (.int .i64 G); (case h => (intro w' hw' hF'; obtain ⟨X', rfl⟩ := hw'; have HF' := Lib.hid hF'; clear hF'; go_wp2_with (fail); exact ⟨rfl, (by repeat (first | exact Ext.refl _ | apply Ext.plus | apply Ext.alloc | apply Ext.drew))⟩)); (case hv => kernel_rfl))
      refine YReg.doneN (fun X _ => ?_)
      go_wp2
      go_ret
      exact ⟨rfl, (by repeat (first | exact Ext.refl _ | apply Ext.plus | apply Ext.alloc | apply Ext.drew))⟩
  case hg =>
    (repeat' (first | exact trivial | exact XReg.GoodK.same _ default | refine And.intro ?_ ?_))
    exact kSli_good _ hi.out (by show 3 ≤ maxLen; decide)

end Go.Proofs.YtfmjnncgpfkejaaGreat

/- Sorting jobs: jobs as rows of cells; the comparator; the order. -/
import Derived.Test.YtfmjnncgpfkejaaGreatSCK
import Derived.Test.YtfmjnncgpfkejaaGreatC3
import Derived.Test.YtfmjnncgpfkejaaGreatC4
import Derived.Test.YtfmjnncgpfkejaaGreatVB
set_option maxRecDepth 100000
set_option linter.unusedVariables false
namespace Go.Proofs.YtfmjnncgpfkejaaGreat
open Go.RowKit Go.Fin1 Go.Shelf Go.Sort
theorem swoR : SWO (ltOf cmpR) where
  irrefl x := by unfold ltOf cmpR; exact decide_eq_false (by rw [cmpJ_lt]; omega)
  trans x y z h1 h2 := by unfold ltOf cmpR at *; simp only [decide_eq_true_eq, cmpJ_lt] at *; omega
  ntrans x y z h1 h2 := by unfold ltOf cmpR at *; simp only [decide_eq_false_iff_not, cmpJ_lt] at *; omega
set_option maxHeartbeats 1600000 in
theorem compareJobs_d (a b : Jb) (na nb : Value) (w : World) :
    Calls Tryz.prog 92 #[a.val na, b.val nb] w fun e w' => e = .returned (.int .i64 (cmpJ a b)) ∧ ExtD w w' := by
  obtain ⟨⟨lv, st⟩, id, need, long, prio, state, start, nodes⟩ := a
  obtain ⟨⟨lv2, st2⟩, id2, need2, long2, prio2, state2, start2, nodes2⟩ := b
  unfold Jb.val
  simp only
  have hi := Lib.hid (show ∀ x ∈ [cmpL ⟨lv, st⟩ ⟨lv2, st2⟩, cmpI prio2 prio, cmpI id id2], I64 x from fun x hx => by
    have h1 := cmpL_bd ⟨lv, st⟩ ⟨lv2, st2⟩
    have h2 := cmpI_bd prio2 prio
    have h3 := cmpI_bd id id2
    simp at hx
    rcases hx with rfl | rfl | rfl <;> (unfold I64; omega))
  generalize hG : cmpJ _ _ = G
  have HL : Hid (G = orI [cmpL ⟨lv, st⟩ ⟨lv2, st2⟩, cmpI prio2 prio, cmpI id id2]) := Lib.hid (by rw [← hG]; unfold cmpJ; rfl)
  clear hG
  go_enter Tryz.func92, Tryz.ntmps92
  go_upto_region 1 with fail
  apply wp_region_l (R := ExtD) ExtD.trans (m := 18) (Ks := [_, _, _, _, _, _, _, _, _, _, _, _, _, _, _, kSli [cmpL ⟨lv, st⟩ ⟨lv2, st2⟩, cmpI prio2 prio, cmpI id id2], _, _])
  case hm => kernel_rfl
  case hc => kernel_rfl
  case hd => kernel_rfl
  case hl => rfl
  case h0 => exact ⟨(Ext.refl _).drew, Nat.le_succ _⟩
  case h =>
    iterate 4 (apply LReg.step; (case h => (intro w' hw' hF'; obtain ⟨⟨X', rfl⟩, hd'⟩ := hw'; clear hd'; have HF' := Lib.hid hF'; clear hF'; go_wp2_with (fail); exact ⟨rfl, (by repeat (first | exact Ext.refl _ | apply Ext.plus | apply Ext.alloc | apply Ext.drew)), Nat.le_refl _⟩)); (case hv => kernel_rfl))
    apply LReg.step
    case h =>
      intro w' hw' hF'
      clear hF'
      have HW' := Lib.hid hw'
      clear hw'
      go_wp2_with fail
      refine (compareLabels_d _ _ _ _ _).mono ?_
      rintro e w2 ⟨rfl, hx⟩
      have HX := Lib.hid hx
      clear hx
      go_wp2
      exact ⟨rfl, HX.out⟩
    case hv => kernel_rfl
    iterate 10 (apply LReg.step; (case h => (intro w' hw' hF'; obtain ⟨⟨X', rfl⟩, hd'⟩ := hw'; clear hd'; have HF' := Lib.hid hF'; clear hF'; go_wp2_with ((go_at_call 121; refine (cmpI_any _ _ _).mono ?_; rintro e _ ⟨rfl, rfl⟩)); exact ⟨rfl, (by repeat (first | exact Ext.refl _ | apply Ext.plus | apply Ext.alloc | apply Ext.drew)), Nat.le_refl _⟩)); (case hv => kernel_rfl))
    refine LReg.kind (fun w' hw' hF' => ?_) (fun v w1 hK => ?_)
    · obtain ⟨⟨X', rfl⟩, hd'⟩ := hw'
      clear hF' hd'
      go_wp2_with fail
      refine ⟨⟨(by repeat (first | exact Ext.refl _ | apply Ext.plus | apply Ext.alloc | apply Ext.drew)), Nat.le_refl _⟩, _, _, rfl, ?_⟩
      exact sl_new2 w _ _ X' _ [cmpL ⟨lv, st⟩ ⟨lv2, st2⟩, cmpI prio2 prio, cmpI id id2] hi.out (by show 3 ≤ maxLen; decide)
    · obtain ⟨a3, c3, rfl, hs3⟩ := hK
      clear hs3 w1
      apply LReg.val (.int .i64 G)
      case h =>
        intro w' hw' hF'
        have HK := Lib.hid (kSli_r (hF'.get 15 (p := (kSli [cmpL ⟨lv, st⟩ ⟨lv2, st2⟩, cmpI prio2 prio, cmpI id id2], .slice a3 [cmpL ⟨lv, st⟩ ⟨lv2, st2⟩, cmpI prio2 prio, cmpI id id2].length c3)) (by kernel_rfl) (by kernel_rfl)))
        clear hw' hF'
        go_wp2_with fail
        refine (cmpOr_d _ [cmpL ⟨lv, st⟩ ⟨lv2, st2⟩, cmpI prio2 prio, cmpI id id2] _ HK.out).mono ?_
        rintro e w2 ⟨rfl, hx⟩
        rw [← HL.out]
        have HX := Lib.hid hx
        clear hx
        go_wp2
        exact ⟨rfl, HX.out⟩
      case hv => kernel_rfl
      apply LReg.val (.int .i64 G)
      case h =>
        intro w' hw' hF'
        clear hw' hF'
        go_wp2
        exact ⟨rfl, ExtD.refl _⟩
      case hv => kernel_rfl
      refine LReg.doneN (fun w' hw' _ => ?_)
      have HX := Lib.hid hw'
      clear hw'
      go_wp2
      go_ret
      exact ⟨rfl, ExtD.trans _ _ _ ⟨((Ext.refl w).alloc _).alloc _, Nat.le_refl _⟩ HX.out⟩
  case hg =>
    repeat' (first | exact trivial | exact XReg.GoodKL.same _ _ default | refine And.intro ?_ ?_)
    exact kSli_goodL _ hi.out (by show 3 ≤ maxLen; decide)
end Go.Proofs.YtfmjnncgpfkejaaGreat

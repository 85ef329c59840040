/- The law of BoxRight. -/
import Derived.Test.YtgildaidogjogaaD11
import Derived.Test.YtgildaidogjogaaH
import Derived.Test.YtgildaidogjogaaE3
set_option maxRecDepth 100000
set_option linter.unusedVariables false
namespace Go.Proofs.Ytgildaidogjogaa
open Go.RowKit Go.Fin1

/-- A value that is this desk. -/
def kDesk (d : Dk) : XReg.Kind := fun v w => eDesk w v d
theorem kDesk_good {d : Dk} {W0 : World} {v : Value} (h : eDesk W0 v d) : XReg.GoodK (kDesk d) := ⟨fun _ _ _ hx h => h.ext hx, v, W0, h⟩


set_option maxHeartbeats 1600000 in
theorem fnBoxRight_any (a : Arg Dk) (w : World) (h : eDesk w a.v a.x) :
    Calls Try.prog 3 #[a.v] w fun e w' => e = .returned (.bool true) ∧ Ext w w' := by
  obtain ⟨v, d⟩ := a
  change eDesk w v d at h
  change Calls Try.prog 3 #[v] w _
  have HP := Lib.hid h
  obtain ⟨ap0, kp0, ab0, kb0, as0, ks0, rfl, hu, hn, h1, h2, h3⟩ := h
  have HI : Hid (I64 d.used ∧ I64 d.now ∧ (∀ x ∈ d.pairs, x.ok) ∧ (∀ x ∈ d.box, x.ok) ∧ ∀ x ∈ d.audit, x.ok) := Lib.hid ⟨hu, hn, slr_ltrs h1, slr_ltrs h2, slr_ltrs h3⟩
  clear h1 h2 h3 hn hu
  unfold Dk.val at HP ⊢
  by_cases hf : d.sz ≤ 1048576
  · have ht : decide (((1048576 - d.sz : Nat) : Int) < 0) = false := decide_eq_false (by omega)
    go_enter Try.func3, Try.ntmps3
    go_wp2_with fail
    refine (szDesk_any d _ 1048576 _ (HP.out.ext (by repeat (first | exact Ext.refl _ | apply Ext.plus | apply Ext.alloc | apply Ext.drew))) (Nat.le_refl _)).mono ?_
    rintro e _ ⟨rfl, ⟨X0, rfl⟩⟩
    rw [if_pos hf]
    go_wp2_with fail
    refine (toDesk_any d _ _ (HP.out.ext (by repeat (first | exact Ext.refl _ | apply Ext.plus | apply Ext.alloc | apply Ext.drew))) hf).mono ?_
    rintro e _ ⟨p1, b1, s1, fp1, fb1, fs1, rfl, ⟨X1, rfl⟩, hO⟩
    have H0 := Lib.hid (hO.e HI.out.1 HI.out.2.1 HI.out.2.2.1 HI.out.2.2.2.1 HI.out.2.2.2.2)
    have O0 := Lib.hid hO
    obtain ⟨ap1, kp1, rfl⟩ := hO.p.shape
    obtain ⟨ab1, kb1, rfl⟩ := hO.b.shape
    obtain ⟨as1, ks1, rfl⟩ := hO.a.shape
    clear hO
    unfold Dk.val at H0 ⊢
    go_wp2_with fail
    refine (specBoxRight_any d _ _ H0.out).mono ?_
    rintro e _ ⟨rfl, Y1, rfl⟩
    go_wp2_with fail
    refine (toDesk_any d _ _ (HP.out.ext (by repeat (first | exact Ext.refl _ | apply Ext.plus | apply Ext.alloc | apply Ext.drew))) hf).mono ?_
    rintro e _ ⟨p2, b2, s2, fp2, fb2, fs2, rfl, ⟨X2, rfl⟩, hO⟩
    have H1 := Lib.hid (hO.e HI.out.1 HI.out.2.1 HI.out.2.2.1 HI.out.2.2.2.1 HI.out.2.2.2.2)
    have O1 := Lib.hid hO
    obtain ⟨ap2, kp2, rfl⟩ := hO.p.shape
    obtain ⟨ab2, kb2, rfl⟩ := hO.b.shape
    obtain ⟨as2, ks2, rfl⟩ := hO.a.shape
    clear hO
    unfold Dk.val at H1 ⊢
    go_wp2_with fail
    refine (implBoxRight_any d _ _ (H1.out.ext (by repeat (first | exact Ext.refl _ | apply Ext.plus | apply Ext.alloc | apply Ext.drew)))).mono ?_
    rintro e _ ⟨rfl, Y2, rfl⟩
    go_wp2_with fail
    (apply wp_region_y (m := 5) (Ks := [_, _, kDesk d, _, _]); (case hm => kernel_rfl); (case hc => kernel_rfl); (case hd => kernel_rfl); (case hl => rfl))
    case h =>
      (apply YReg.step; (case h => (intro w' hw' hF'; obtain ⟨X', rfl⟩ := hw'; have HF' := Lib.hid hF'; clear hF'; go_wp2_with (fail); exact ⟨rfl, (by repeat (first | exact Ext.refl _ | apply Ext.plus | apply Ext.alloc | apply Ext.drew))⟩)); (case hv => kernel_rfl))
      (apply YReg.step; (case h => (intro w' hw' hF'; obtain ⟨X', rfl⟩ := hw'; have HF' := Lib.hid hF'; clear hF'; go_wp2_with (fail); exact ⟨rfl, (by repeat (first | exact Ext.refl _ | apply Ext.plus | apply Ext.alloc | apply Ext.drew))⟩)); (case hv => kernel_rfl))
      refine YReg.kind (fun w' hw' hF' => ?_) (fun v w1 hK => ?_)
      · obtain ⟨X', rfl⟩ := hw'
        clear hF'
        go_wp2_with fail
        refine (toDesk_any d _ _ (HP.out.ext (by repeat (first | exact Ext.refl _ | apply Ext.plus | apply Ext.alloc | apply Ext.drew))) hf).mono ?_
        rintro e _ ⟨p3, b3, s3, fp3, fb3, fs3, rfl, ⟨X3, rfl⟩, hO⟩
        have H3 := Lib.hid (hO.e HI.out.1 HI.out.2.1 HI.out.2.2.1 HI.out.2.2.2.1 HI.out.2.2.2.2)
        have O3 := Lib.hid hO
        obtain ⟨ap3, kp3, rfl⟩ := hO.p.shape
        obtain ⟨ab3, kb3, rfl⟩ := hO.b.shape
        obtain ⟨as3, ks3, rfl⟩ := hO.a.shape
        clear hO
        unfold Dk.val at H3 ⊢
        go_wp2
        exact ⟨(by repeat (first | exact Ext.refl _ | apply Ext.plus | apply Ext.alloc | apply Ext.drew)), H3.out⟩
      · obtain ⟨ap3, kp3, ab3, kb3, as3, ks3, rfl, hq1, hq2, hq3, hq4, hq5⟩ := hK
        clear hq1 hq2 hq3 hq4 hq5 w1
        unfold Dk.val
        (apply YReg.val (.bool true); (case h => (intro w' hw' hF'; obtain ⟨X', rfl⟩ := hw'; have HF' := Lib.hid hF'; clear hF'; go_wp2_with ((go_at_call 20; refine (eqDesk_self d _ _ _ (H1.out.ext (by repeat (first | exact Ext.refl _ | apply Ext.plus | apply Ext.alloc | apply Ext.drew))) (HF'.out.get 2 rfl (by kernel_rfl))).mono ?_; rintro e _ ⟨rfl, Y3, rfl⟩)); exact ⟨rfl, (by repeat (first | exact Ext.refl _ | apply Ext.plus | apply Ext.alloc | apply Ext.drew))⟩)); (case hv => kernel_rfl))
        (apply YReg.val (.bool false); (case h => (intro w' hw' hF'; obtain ⟨X', rfl⟩ := hw'; have HF' := Lib.hid hF'; clear hF'; go_wp2_with (fail); exact ⟨rfl, (by repeat (first | exact Ext.refl _ | apply Ext.plus | apply Ext.alloc | apply Ext.drew))⟩)); (case hv => kernel_rfl))
        refine YReg.doneN (fun X _ => ?_)
        go_wp2
        go_ret
        exact ⟨rfl, (by repeat (first | exact Ext.refl _ | apply Ext.plus | apply Ext.alloc | apply Ext.drew))⟩
    case hg =>
      (repeat' (first | exact trivial | exact XReg.GoodK.same _ default | refine And.intro ?_ ?_))
      exact kDesk_good H1.out
  · go_enter Try.func3, Try.ntmps3
    go_wp2_with fail
    refine (szDesk_any d _ 1048576 _ (HP.out.ext (by repeat (first | exact Ext.refl _ | apply Ext.plus | apply Ext.alloc | apply Ext.drew))) (Nat.le_refl _)).mono ?_
    rintro e _ ⟨rfl, X0, rfl⟩
    rw [if_neg hf]
    go_wp2
    go_ret
    exact ⟨rfl, (by repeat (first | exact Ext.refl _ | apply Ext.plus | apply Ext.alloc | apply Ext.drew))⟩
end Go.Proofs.Ytgildaidogjogaa

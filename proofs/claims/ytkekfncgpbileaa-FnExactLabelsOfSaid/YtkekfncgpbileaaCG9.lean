/- The law of ConfigRight. -/
import Derived.Test.YtkekfncgpbileaaCG8
import Derived.Test.YtkekfncgpbileaaBG
import Derived.Deep.Cut
set_option maxRecDepth 100000
set_option linter.unusedVariables false
namespace Go.Proofs.Ytkekfncgpbileaa
open Go.RowKit Go.Fin1

/-- A value that is this configuration. -/
def kCfg (c : Cfg) : XReg.Kind := fun v w => eCfg w v c
theorem kCfg_good {c : Cfg} {W0 : World} {v : Value} (h : eCfg W0 v c) : XReg.GoodK (kCfg c) := ⟨fun _ _ _ hx h => h.ext hx, v, W0, h⟩


set_option maxHeartbeats 1600000 in
theorem fnConfigRight_any (a : Arg Cfg) (w : World) (h : eCfg w a.v a.x) :
    Calls Try.prog 6 #[a.v] w fun e w' => e = .returned (.bool true) ∧ Ext w w' := by
  obtain ⟨v, c⟩ := a
  change eCfg w v c at h
  change Calls Try.prog 6 #[v] w _
  have HP := Lib.hid h
  have HI := Lib.hid h.okC
  obtain ⟨a0, k0, b0, d0, g0, l0, rfl, hn, h1, h2, h3⟩ := h
  clear h1 h2 h3 hn
  unfold Cfg.val at HP ⊢
  by_cases hf : c.fits 1048576
  · have ht : decide (((1048576 - szL List.length c.nodes - c.pairs.length - c.quotas.length : Nat) : Int) < 0) = false := decide_eq_false (by omega)
    go_enter Try.func6, Try.ntmps6
    go_wp2_with fail
    refine (szConfig_any c _ 1048576 _ (HP.out.ext (by repeat (first | exact Ext.refl _ | apply Ext.plus | apply Ext.alloc | apply Ext.drew))) (Nat.le_refl _)).mono ?_
    rintro e _ ⟨rfl, ⟨X0, rfl⟩⟩
    rw [Cfg.left_yes hf]
    go_wp2_with fail
    refine (toConfig_any c _ _ (HP.out.ext (by repeat (first | exact Ext.refl _ | apply Ext.plus | apply Ext.alloc | apply Ext.drew))) hf).mono ?_
    rintro e _ ⟨u1, p1, q1, fu1, fp1, fq1, rfl, ⟨X1, rfl⟩, hO⟩
    have H0 := Lib.hid (hO.e HI.out)
    obtain ⟨a1, k1, rfl⟩ := hO.n.shape
    obtain ⟨b1, d1, rfl⟩ := hO.p.shape
    obtain ⟨g1, l1, rfl⟩ := hO.q.shape
    clear hO
    unfold Cfg.val at H0 ⊢
    go_wp2_with fail
    refine (specConfigRight_any c _ _ H0.out).mono ?_
    rintro e _ ⟨rfl, Y1, rfl⟩
    go_wp2_with fail
    refine (toConfig_any c _ _ (HP.out.ext (by repeat (first | exact Ext.refl _ | apply Ext.plus | apply Ext.alloc | apply Ext.drew))) hf).mono ?_
    rintro e _ ⟨u2, p2, q2, fu2, fp2, fq2, rfl, ⟨X2, rfl⟩, hO⟩
    have H1 := Lib.hid (hO.e HI.out)
    obtain ⟨a2, k2, rfl⟩ := hO.n.shape
    obtain ⟨b2, d2, rfl⟩ := hO.p.shape
    obtain ⟨g2, l2, rfl⟩ := hO.q.shape
    clear hO
    unfold Cfg.val at H1 ⊢
    go_wp2_with fail
    refine (implConfigRight_any c _ _ (H1.out.ext (by repeat (first | exact Ext.refl _ | apply Ext.plus | apply Ext.alloc | apply Ext.drew)))).mono ?_
    rintro e _ ⟨rfl, Y2, rfl⟩
    go_wp2_with fail
    (apply wp_region_y (m := 5) (Ks := [_, _, kCfg c, _, _]); (case hm => kernel_rfl); (case hc => kernel_rfl); (case hd => kernel_rfl); (case hl => rfl))
    case h =>
      (apply YReg.step; (case h => (intro w' hw' hF'; obtain ⟨X', rfl⟩ := hw'; have HF' := Lib.hid hF'; clear hF'; go_wp2_with (fail); exact ⟨rfl, (by repeat (first | exact Ext.refl _ | apply Ext.plus | apply Ext.alloc | apply Ext.drew))⟩)); (case hv => kernel_rfl))
      (apply YReg.step; (case h => (intro w' hw' hF'; obtain ⟨X', rfl⟩ := hw'; have HF' := Lib.hid hF'; clear hF'; go_wp2_with (fail); exact ⟨rfl, (by repeat (first | exact Ext.refl _ | apply Ext.plus | apply Ext.alloc | apply Ext.drew))⟩)); (case hv => kernel_rfl))
      refine YReg.kind (fun w' hw' hF' => ?_) (fun v w1 hK => ?_)
      · obtain ⟨X', rfl⟩ := hw'
        clear hF'
        go_wp2_with fail
        refine (toConfig_any c _ _ (HP.out.ext (by repeat (first | exact Ext.refl _ | apply Ext.plus | apply Ext.alloc | apply Ext.drew))) hf).mono ?_
        rintro e _ ⟨u3, p3, q3, fu3, fp3, fq3, rfl, ⟨X3, rfl⟩, hO⟩
        have H3 := Lib.hid (hO.e HI.out)
        obtain ⟨a3, k3, rfl⟩ := hO.n.shape
        obtain ⟨b3, d3, rfl⟩ := hO.p.shape
        obtain ⟨g3, l3, rfl⟩ := hO.q.shape
        clear hO
        unfold Cfg.val at H3 ⊢
        go_wp2
        exact ⟨(by repeat (first | exact Ext.refl _ | apply Ext.plus | apply Ext.alloc | apply Ext.drew)), H3.out⟩
      · obtain ⟨a3, k3, b3, d3, g3, l3, rfl, hq1, hq2, hq3, hq4⟩ := hK
        clear hq1 hq2 hq3 hq4 w1
        unfold Cfg.val
        (apply YReg.val (.bool true); (case h => (intro w' hw' hF'; obtain ⟨X', rfl⟩ := hw'; have HF' := Lib.hid hF'; clear hF'; go_wp2_with ((go_at_call 51; refine (eqConfig_self c _ _ _ (H1.out.ext (by repeat (first | exact Ext.refl _ | apply Ext.plus | apply Ext.alloc | apply Ext.drew))) (HF'.out.get 2 rfl (by kernel_rfl))).mono ?_; rintro e _ ⟨rfl, Y3, rfl⟩)); exact ⟨rfl, (by repeat (first | exact Ext.refl _ | apply Ext.plus | apply Ext.alloc | apply Ext.drew))⟩)); (case hv => kernel_rfl))
        (apply YReg.val (.bool false); (case h => (intro w' hw' hF'; obtain ⟨X', rfl⟩ := hw'; have HF' := Lib.hid hF'; clear hF'; go_wp2_with (fail); exact ⟨rfl, (by repeat (first | exact Ext.refl _ | apply Ext.plus | apply Ext.alloc | apply Ext.drew))⟩)); (case hv => kernel_rfl))
        refine YReg.doneN (fun X _ => ?_)
        go_wp2
        go_ret
        exact ⟨rfl, (by repeat (first | exact Ext.refl _ | apply Ext.plus | apply Ext.alloc | apply Ext.drew))⟩
    case hg =>
      (repeat' (first | exact trivial | exact XReg.GoodK.same _ default | refine And.intro ?_ ?_))
      exact kCfg_good H1.out
  · go_enter Try.func6, Try.ntmps6
    go_wp2_with fail
    refine (szConfig_any c _ 1048576 _ (HP.out.ext (by repeat (first | exact Ext.refl _ | apply Ext.plus | apply Ext.alloc | apply Ext.drew))) (Nat.le_refl _)).mono ?_
    rintro e _ ⟨rfl, X0, rfl⟩
    rw [Cfg.left_no hf]
    go_wp2
    go_ret
    exact ⟨rfl, (by repeat (first | exact Ext.refl _ | apply Ext.plus | apply Ext.alloc | apply Ext.drew))⟩
end Go.Proofs.Ytkekfncgpbileaa

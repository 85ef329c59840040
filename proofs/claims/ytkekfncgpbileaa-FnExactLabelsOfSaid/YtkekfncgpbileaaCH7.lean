/- The law of LabelsOf. -/
import Derived.Test.YtkekfncgpbileaaCH6
set_option maxRecDepth 100000
set_option linter.unusedVariables false
namespace Go.Proofs.Ytkekfncgpbileaa
open Go.RowKit Go.Fin1
theorem oLabelS_local9 : Local oLabelS := oSl_local (oFlat_local _)
theorem oLabelS_held9 : Held oLabelS := oSl_held (oFlat_held _)
set_option maxHeartbeats 3200000 in
theorem fnLabelsOf_any (a : Arg Cfg) (w : World) (h : eCfg w a.v a.x) :
    Calls Try.prog 9 #[a.v] w fun e w' => e = .returned (.bool true) ∧ Ext w w' := by
  obtain ⟨v, c⟩ := a
  change eCfg w v c at h
  change Calls Try.prog 9 #[v] w _
  have HP := Lib.hid h
  have HI := Lib.hid h.okC
  obtain ⟨a0, k0, b0, d0, g0, l0, rfl, hn, h1, h2, h3⟩ := h
  clear h1 h2 h3 hn
  unfold Cfg.val at HP ⊢
  have HOK := Lib.hid (labsC_ok c)
  have hll := labsC_len c
  have hwl : wL (fun _ : Lab => 2) (labsC c) ≤ 64 := by rw [wL_const]; omega
  by_cases hf : c.fits 1048576
  · have ht : decide (((1048576 - szL List.length c.nodes - c.pairs.length - c.quotas.length : Nat) : Int) < 0) = false := decide_eq_false (by omega)
    have hwc := wCfg_le hf
    go_enter Try.func9, Try.ntmps9
    go_wp2_with fail
    refine (szConfig_any c _ 1048576 _ (HP.out.ext (by repeat (first | exact Ext.refl _ | apply Ext.plus | apply Ext.alloc | apply Ext.drew))) (Nat.le_refl _)).mono ?_
    rintro e _ ⟨rfl, ⟨X0, rfl⟩⟩
    rw [Cfg.left_yes hf]
    go_wp2_with fail
    refine (toConfig_any c _ _ (HP.out.ext (by repeat (first | exact Ext.refl _ | apply Ext.plus | apply Ext.alloc | apply Ext.drew))) hf).mono ?_
    rintro e _ ⟨u1, p1, q1, fu1, fp1, fq1, rfl, ⟨X1, rfl⟩, hO⟩
    have H0 := Lib.hid (hO.e HI.out)
    obtain ⟨a1, k1, rfl⟩ := hO.n.shape
    obtain ⟨b1, d1, rfl⟩ := hO.p.shape
    obtain ⟨g1, l1, rfl⟩ := hO.q.shape
    clear hO
    unfold Cfg.val at H0 ⊢
    go_wp2_with fail
    refine (specLabelsOf_any c _ _ H0.out).mono ?_
    rintro e _ ⟨v', fpw, rfl, ⟨Y1, rfl⟩, hO⟩
    have HW := Lib.hid (own_lab_r hO HOK.out)
    obtain ⟨aw, cw, rfl⟩ := hO.shape
    clear hO
    go_wp2_with fail
    refine (toConfig_any c _ _ (HP.out.ext (by repeat (first | exact Ext.refl _ | apply Ext.plus | apply Ext.alloc | apply Ext.drew))) hf).mono ?_
    rintro e _ ⟨u2, p2, q2, f1, f2, f3, rfl, ⟨X2, rfl⟩, hO⟩
    have HX := Lib.hid hO
    have H1 := Lib.hid (hO.e HI.out)
    have HXB := Lib.hid hO.high
    obtain ⟨a2, k2, rfl⟩ := hO.n.shape
    obtain ⟨b2, d2, rfl⟩ := hO.p.shape
    obtain ⟨g2, l2, rfl⟩ := hO.q.shape
    clear hO
    unfold Cfg.val at H1 ⊢
    go_wp2_with fail
    refine (implLabelsOf_any c _ _ (H1.out.ext (by repeat (first | exact Ext.refl _ | apply Ext.plus | apply Ext.alloc | apply Ext.drew)))).mono ?_
    rintro e _ ⟨vg, fpg, rfl, ⟨X3, rfl⟩, hO⟩
    have HG := Lib.hid hO
    obtain ⟨ag, cg, rfl⟩ := hO.shape
    clear hO
    go_wp2_with fail
    refine (eqLabelS_self _ _ (labsC c) _ (own_lab_r HG.out HOK.out) (HW.out.ext rLab_stable (by repeat (first | exact Ext.refl _ | apply Ext.plus | apply Ext.alloc | apply Ext.drew)))).mono ?_
    rintro e _ ⟨rfl, ⟨X4, rfl⟩⟩
    go_upto_region 10 with fail
    (apply wp_region_y (m := 5) (Ks := [_, _, kCfg c, _, _]); (case hm => kernel_rfl); (case hc => kernel_rfl); (case hd => kernel_rfl); (case hl => rfl))
    case h =>
      (apply YReg.step; (case h => (intro w' hw' hF'; obtain ⟨X', rfl⟩ := hw'; have HF' := Lib.hid hF'; clear hF'; go_wp2_with (fail); exact ⟨rfl, (by repeat (first | exact Ext.refl _ | apply Ext.plus | apply Ext.alloc | apply Ext.drew))⟩)); (case hv => kernel_rfl))
      (apply YReg.step; (case h => (intro w' hw' hF'; obtain ⟨X', rfl⟩ := hw'; have HF' := Lib.hid hF'; clear hF'; go_wp2_with (fail); exact ⟨rfl, (by repeat (first | exact Ext.refl _ | apply Ext.plus | apply Ext.alloc | apply Ext.drew))⟩)); (case hv => kernel_rfl))
      refine YReg.kind (fun w' hw' hF' => ?_) (fun v w1 hK => ?_)
      · obtain ⟨X', rfl⟩ := hw'
        clear hF'
        go_wp2_with fail
        refine (toConfig_any c _ _ (HP.out.ext (by repeat (first | exact Ext.refl _ | apply Ext.plus | apply Ext.alloc | apply Ext.drew))) hf).mono ?_
        rintro e _ ⟨u3, p3, q3, fu3, fp3, fq3, rfl, ⟨X3, rfl⟩, hO⟩
        have H3 := Lib.hid (hO.e HI.out)
        obtain ⟨a3, k3, rfl⟩ := hO.n.shape
        obtain ⟨b3, d3, rfl⟩ := hO.p.shape
        obtain ⟨g3, l3, rfl⟩ := hO.q.shape
        clear hO
        unfold Cfg.val at H3 ⊢
        go_wp2
        exact ⟨(by repeat (first | exact Ext.refl _ | apply Ext.plus | apply Ext.alloc | apply Ext.drew)), H3.out⟩
      obtain ⟨a3, k3, b3, d3, g3, l3, rfl, hq1, hq2, hq3, hq4⟩ := hK
      clear hq1 hq2 hq3 hq4 w1
      unfold Cfg.val
      (apply YReg.val (.bool true); (case h => (intro w' hw' hF'; obtain ⟨X', rfl⟩ := hw'; have HF' := Lib.hid hF'; clear hF'; go_wp2_with ((go_at_call 51; refine (eqConfig_self c _ _ _ (H1.out.ext (by repeat (first | exact Ext.refl _ | apply Ext.plus | apply Ext.alloc | apply Ext.drew))) (HF'.out.get 2 rfl (by kernel_rfl))).mono ?_; rintro e _ ⟨rfl, Y3, rfl⟩)); exact ⟨rfl, (by repeat (first | exact Ext.refl _ | apply Ext.plus | apply Ext.alloc | apply Ext.drew))⟩)); (case hv => kernel_rfl))
      (apply YReg.val (.bool false); (case h => (intro w' hw' hF'; obtain ⟨X', rfl⟩ := hw'; have HF' := Lib.hid hF'; clear hF'; go_wp2_with (fail); exact ⟨rfl, (by repeat (first | exact Ext.refl _ | apply Ext.plus | apply Ext.alloc | apply Ext.drew))⟩)); (case hv => kernel_rfl))
      refine YReg.doneN (fun X hX9 => ?_)
      clear hX9
      go_wp2_with fail
      refine (markConfig_any c _ _ _ 1 _ f1 f2 f3 _ (HX.out.ext (by repeat (first | exact Ext.refl _ | apply Ext.plus | apply Ext.alloc | apply Ext.drew))) (by omega)).mono ?_
      rintro e wm ⟨rfl, hx⟩
      have hE : Ext (w.alloc (.cells #[.slice a0 c.nodes.length k0, .slice b0 c.pairs.length d0, .slice g0 c.quotas.length l0, (.int .i64 c.half)] 75)) wm := hx.grown (by repeat (first | exact Ext.refl _ | apply Ext.plus | apply Ext.alloc | apply Ext.drew)) HX.out.low (by simp; omega)
      have HG1 := Lib.hid ((HG.out.ext oLabelS_local9 oLabelS_held9 (by repeat (first | exact Ext.refl _ | apply Ext.plus | apply Ext.alloc | apply Ext.drew))).chg oLabelS_local9 oLabelS_held9 hx (fun b hb => by have := HXB.out b hb; simp at this ⊢; omega))
      have HE1 := Lib.hid (show Ext _ wm from hx.grown (by repeat (first | exact Ext.refl _ | apply Ext.plus | apply Ext.alloc | apply Ext.drew)) HX.out.low (Nat.le_refl _))
      have HW1 := Lib.hid (HW.out.ext rLab_stable HE1.out)
      clear hx HX HXB HG H1
      obtain ⟨Y5, rfl⟩ := hE
      go_wp2_with fail
      refine (eqLabelS_self _ _ (labsC c) _ (own_lab_r HG1.out HOK.out) HW1.out).mono ?_
      rintro e _ ⟨rfl, ⟨X6, rfl⟩⟩
      go_wp2_with fail
      refine (markLabelS_any _ (labsC c) 1 fpg _ (HG1.out.ext oLabelS_local9 oLabelS_held9 (by repeat (first | exact Ext.refl _ | apply Ext.plus | apply Ext.alloc | apply Ext.drew))).1 HG1.out.2.1 (by omega)).mono ?_
      rintro e wm ⟨rfl, hx, hmk⟩
      have hE : Ext (w.alloc (.cells #[.slice a0 c.nodes.length k0, .slice b0 c.pairs.length d0, .slice g0 c.quotas.length l0, (.int .i64 c.half)] 75)) wm := hx.grown (by repeat (first | exact Ext.refl _ | apply Ext.plus | apply Ext.alloc | apply Ext.drew)) HG1.out.2.2 (by simp; omega)
      have HW2 := Lib.hid (HW.out.ext rLab_stable (hx.grown (HE1.out.plus X6) HG1.out.2.2 (by simp; omega)))
      have HM := Lib.hid (oFl_reads (f := Lab.cells) (fun _ => rfl) hmk)
      clear hmk hx HW HW1 HG1 HE1
      obtain ⟨Y6, rfl⟩ := hE
      go_wp2_with fail
      refine (heldLabelS_any _ (labsC c) 1 _ (HM.out.ext (rc_stable _) (by repeat (first | exact Ext.refl _ | apply Ext.plus | apply Ext.alloc | apply Ext.drew))) (by omega)).mono ?_
      rintro e _ ⟨rfl, ⟨X7, rfl⟩⟩
      go_wp2_with fail
      refine (toConfig_any c _ _ (HP.out.ext (by repeat (first | exact Ext.refl _ | apply Ext.plus | apply Ext.alloc | apply Ext.drew))) hf).mono ?_
      rintro e _ ⟨u5, p5, q5, fu5, fp5, fq5, rfl, ⟨X5, rfl⟩, hO⟩
      have H5 := Lib.hid (hO.e HI.out)
      obtain ⟨a5, k5, rfl⟩ := hO.n.shape
      obtain ⟨b5, d5, rfl⟩ := hO.p.shape
      obtain ⟨g5, l5, rfl⟩ := hO.q.shape
      clear hO
      unfold Cfg.val at H5 ⊢
      go_wp2_with fail
      refine (implLabelsOf_any c _ _ H5.out).mono ?_
      rintro e _ ⟨vh, fph, rfl, ⟨X8, rfl⟩, hO⟩
      have HH := Lib.hid (own_lab_r hO HOK.out)
      obtain ⟨ah, ch, rfl⟩ := hO.shape
      clear hO
      go_wp2_with fail
      refine (eqLabelS_self _ _ (labsC c) _ HH.out (HW2.out.ext rLab_stable (by repeat (first | exact Ext.refl _ | apply Ext.plus | apply Ext.alloc | apply Ext.drew)))).mono ?_
      rintro e _ ⟨rfl, ⟨X9, rfl⟩⟩
      go_wp2_with fail
      refine (heldLabelS_any _ (labsC c) 1 _ (HM.out.ext (rc_stable _) (by repeat (first | exact Ext.refl _ | apply Ext.plus | apply Ext.alloc | apply Ext.drew))) (by omega)).mono ?_
      rintro e _ ⟨rfl, ⟨XA, rfl⟩⟩
      go_wp2
      go_ret
      exact ⟨rfl, (by repeat (first | exact Ext.refl _ | apply Ext.plus | apply Ext.alloc | apply Ext.drew))⟩
    case hg =>
      (repeat' (first | exact trivial | exact XReg.GoodK.same _ default | refine And.intro ?_ ?_))
      exact kCfg_good H1.out
  · go_enter Try.func9, Try.ntmps9
    go_wp2_with fail
    refine (szConfig_any c _ 1048576 _ (HP.out.ext (by repeat (first | exact Ext.refl _ | apply Ext.plus | apply Ext.alloc | apply Ext.drew))) (Nat.le_refl _)).mono ?_
    rintro e _ ⟨rfl, X0, rfl⟩
    rw [Cfg.left_no hf]
    go_wp2
    go_ret
    exact ⟨rfl, (by repeat (first | exact Ext.refl _ | apply Ext.plus | apply Ext.alloc | apply Ext.drew))⟩
end Go.Proofs.Ytkekfncgpbileaa

/- The law of View. -/
import Derived.Test.YtfmjnncgpfkejaaVG
import Derived.Test.YtfmjnncgpfkejaaVH
import Derived.Deep.Cut
set_option maxRecDepth 100000
set_option linter.unusedVariables false
namespace Go.Proofs.Ytfmjnncgpfkejaa
open Go.RowKit Go.Fin1
def kPoolV (p : Pl) : XReg.Kind := fun v w => ePool w v p
theorem kPoolV_good {p : Pl} {W0 : World} {v : Value} (h : ePool W0 v p) : XReg.GoodK (kPoolV p) := ⟨fun _ _ _ hx h => h.ext hx, v, W0, h⟩
set_option maxHeartbeats 1600000 in
theorem fnView_any (a : Arg Pl) (x : Lab) (w : World) (h : ePool w a.v a.x) (hx : x.ok) :
    Calls Try.prog 3 #[a.v, x.val] w fun e w' => e = .returned (.bool true) ∧ Ext w w' := by
  obtain ⟨v, p⟩ := a
  change ePool w v p at h
  change Calls Try.prog 3 #[v, _] w _
  unfold Lab.val
  have HP := Lib.hid h
  obtain ⟨a0, k0, b0, d0, rfl, hn, h1, h2⟩ := h
  have HI : Hid (I64 p.now ∧ (∀ x ∈ p.clear, ∀ y ∈ x, y.ok) ∧ ∀ j ∈ p.jobs, j.fit) := Lib.hid ⟨hn, slr_labss h1, slr_jobs h2⟩
  clear h1 h2 hn hx
  unfold Pl.val at HP ⊢
  by_cases hf : p.fits 1048576
  · have ht : decide (((1048576 - szL List.length p.clear - szL Jb.sz p.jobs : Nat) : Int) < 0) = false := decide_eq_false (by omega)
    go_enter Try.func3, Try.ntmps3
    go_wp2_with fail
    refine (szPool_any p _ 1048576 _ (HP.out.ext (by repeat (first | exact Ext.refl _ | apply Ext.plus | apply Ext.alloc | apply Ext.drew))) (Nat.le_refl _)).mono ?_
    rintro e _ ⟨rfl, ⟨X0, rfl⟩⟩
    rw [if_pos hf]
    go_upto_region 5 with fail
    (apply wp_region_y (m := 6) (Ks := [_, kPoolV p, _, _, _, _]); (case hm => kernel_rfl); (case hc => kernel_rfl); (case hd => kernel_rfl); (case hl => rfl))
    case h =>
      (apply YReg.step; (case h => (intro w' hw' hF'; obtain ⟨X', rfl⟩ := hw'; have HF' := Lib.hid hF'; clear hF'; go_wp2_with (fail); exact ⟨rfl, (by repeat (first | exact Ext.refl _ | apply Ext.plus | apply Ext.alloc | apply Ext.drew))⟩)); (case hv => kernel_rfl))
      refine YReg.kind (fun w' hw' hF' => ?_) (fun v w1 hK => ?_)
      · obtain ⟨X', rfl⟩ := hw'
        clear hF'
        go_wp2_with fail
        refine (toPool_any p _ _ (HP.out.ext (by repeat (first | exact Ext.refl _ | apply Ext.plus | apply Ext.alloc | apply Ext.drew))) hf).mono ?_
        rintro e _ ⟨c3, j3, fc3, fj3, rfl, ⟨X3, rfl⟩, hO⟩
        have H3 := Lib.hid (hO.e HI.out.1 HI.out.2.1 HI.out.2.2)
        obtain ⟨a3, k3, rfl⟩ := hO.1.shape
        obtain ⟨b3, d3, rfl⟩ := hO.2.1.shape
        clear hO
        unfold Pl.val at H3 ⊢
        go_wp2
        exact ⟨(by repeat (first | exact Ext.refl _ | apply Ext.plus | apply Ext.alloc | apply Ext.drew)), H3.out⟩
      obtain ⟨a3, k3, b3, d3, rfl, hq1, hq2, hq3⟩ := hK
      clear hq1 hq2 hq3 w1
      unfold Pl.val
      (apply YReg.val (.agg #[(.int .i64 x.lv), (.int .i64 x.st)]); (case h => (intro w' hw' hF'; obtain ⟨X', rfl⟩ := hw'; have HF' := Lib.hid hF'; clear hF'; go_wp2_with (fail); exact ⟨rfl, (by repeat (first | exact Ext.refl _ | apply Ext.plus | apply Ext.alloc | apply Ext.drew))⟩)); (case hv => kernel_rfl))
      (apply YReg.val (.agg #[(.int .i64 x.lv), (.int .i64 x.st)]); (case h => (intro w' hw' hF'; obtain ⟨X', rfl⟩ := hw'; have HF' := Lib.hid hF'; clear hF'; go_wp2_with ((go_at_call 8; refine (toLabel_any _ _ _).mono ?_; rintro e _ ⟨rfl, X, rfl⟩)); exact ⟨rfl, (by repeat (first | exact Ext.refl _ | apply Ext.plus | apply Ext.alloc | apply Ext.drew))⟩)); (case hv => kernel_rfl))
      (apply YReg.val (.string (viewS p x)); (case h => (intro w' hw' hF'; obtain ⟨X', rfl⟩ := hw'; have HF' := Lib.hid hF'; clear hF'; go_wp2_with ((go_at_call 6; refine (specView_any p x _ _ (HF'.out.get 1 rfl (by kernel_rfl))).mono ?_; rintro e _ ⟨rfl, Y3, rfl⟩)); exact ⟨rfl, (by repeat (first | exact Ext.refl _ | apply Ext.plus | apply Ext.alloc | apply Ext.drew))⟩)); (case hv => kernel_rfl))
      (apply YReg.val (.string (viewS p x)); (case h => (intro w' hw' hF'; obtain ⟨X', rfl⟩ := hw'; have HF' := Lib.hid hF'; clear hF'; go_wp2_with (fail); exact ⟨rfl, (by repeat (first | exact Ext.refl _ | apply Ext.plus | apply Ext.alloc | apply Ext.drew))⟩)); (case hv => kernel_rfl))
      refine YReg.doneN (fun X9 _ => ?_)
      generalize hG : viewS p x = G
      have HG := Lib.hid hG
      clear hG
      go_wp2_with fail
      refine (toPool_any p _ _ (HP.out.ext (by repeat (first | exact Ext.refl _ | apply Ext.plus | apply Ext.alloc | apply Ext.drew))) hf).mono ?_
      rintro e _ ⟨c2, j2, fc2, fj2, rfl, ⟨X2, rfl⟩, hO⟩
      have H1 := Lib.hid (hO.e HI.out.1 HI.out.2.1 HI.out.2.2)
      obtain ⟨a2, k2, rfl⟩ := hO.1.shape
      obtain ⟨b2, d2, rfl⟩ := hO.2.1.shape
      clear hO
      unfold Pl.val at H1 ⊢
      go_upto_region 7 with fail
      (refine wp_region_x 5 (by kernel_rfl) (by kernel_rfl) (by kernel_rfl) ?_; (iterate 5 (apply XReg.step; (case h => (intro w' hw'; obtain ⟨X', rfl⟩ := hw'; go_wp2_with (first | (go_at_call 8; refine (toLabel_any _ _ _).mono ?_; rintro e _ ⟨rfl, X, rfl⟩) | (go_at_call 9; refine (implView_any p x _ _ _ _ _ (H1.out.ext (by repeat (first | exact Ext.refl _ | apply Ext.plus | apply Ext.alloc | apply Ext.drew)))).mono ?_; rintro e _ ⟨rfl, X, rfl⟩)); exact ⟨rfl, (by repeat (first | exact Ext.refl _ | apply Ext.plus | apply Ext.alloc | apply Ext.drew))⟩)); (case hv => kernel_rfl))); refine XReg.doneN (fun X => ?_))
      rw [HG.out]
      go_upto_region 10 with fail
      (apply wp_region_y (m := 5) (Ks := [_, _, kPoolV p, _, _]); (case hm => kernel_rfl); (case hc => kernel_rfl); (case hd => kernel_rfl); (case hl => rfl))
      case h =>
        (apply YReg.step; (case h => (intro w' hw' hF'; obtain ⟨X', rfl⟩ := hw'; have HF' := Lib.hid hF'; clear hF'; go_wp2_with (fail); exact ⟨rfl, (by repeat (first | exact Ext.refl _ | apply Ext.plus | apply Ext.alloc | apply Ext.drew))⟩)); (case hv => kernel_rfl))
        (apply YReg.step; (case h => (intro w' hw' hF'; obtain ⟨X', rfl⟩ := hw'; have HF' := Lib.hid hF'; clear hF'; go_wp2_with (fail); exact ⟨rfl, (by repeat (first | exact Ext.refl _ | apply Ext.plus | apply Ext.alloc | apply Ext.drew))⟩)); (case hv => kernel_rfl))
        refine YReg.kind (fun w' hw' hF' => ?_) (fun v w1 hK => ?_)
        · obtain ⟨X', rfl⟩ := hw'
          clear hF'
          go_wp2_with fail
          refine (toPool_any p _ _ (HP.out.ext (by repeat (first | exact Ext.refl _ | apply Ext.plus | apply Ext.alloc | apply Ext.drew))) hf).mono ?_
          rintro e _ ⟨c5, j5, fc5, fj5, rfl, ⟨X5, rfl⟩, hO⟩
          have H3 := Lib.hid (hO.e HI.out.1 HI.out.2.1 HI.out.2.2)
          obtain ⟨a5, k5, rfl⟩ := hO.1.shape
          obtain ⟨b5, d5, rfl⟩ := hO.2.1.shape
          clear hO
          unfold Pl.val at H3 ⊢
          go_wp2
          exact ⟨(by repeat (first | exact Ext.refl _ | apply Ext.plus | apply Ext.alloc | apply Ext.drew)), H3.out⟩
        obtain ⟨a6, k6, b6, d6, rfl, hq1, hq2, hq3⟩ := hK
        clear hq1 hq2 hq3 w1
        unfold Pl.val
        (apply YReg.val (.bool true); (case h => (intro w' hw' hF'; obtain ⟨X', rfl⟩ := hw'; have HF' := Lib.hid hF'; clear hF'; go_wp2_with ((go_at_call 10; refine (eqPool_self p _ _ _ (H1.out.ext (by repeat (first | exact Ext.refl _ | apply Ext.plus | apply Ext.alloc | apply Ext.drew))) (HF'.out.get 2 rfl (by kernel_rfl))).mono ?_; rintro e _ ⟨rfl, Y3, rfl⟩)); exact ⟨rfl, (by repeat (first | exact Ext.refl _ | apply Ext.plus | apply Ext.alloc | apply Ext.drew))⟩)); (case hv => kernel_rfl))
        (apply YReg.val (.bool false); (case h => (intro w' hw' hF'; obtain ⟨X', rfl⟩ := hw'; have HF' := Lib.hid hF'; clear hF'; go_wp2_with (fail); exact ⟨rfl, (by repeat (first | exact Ext.refl _ | apply Ext.plus | apply Ext.alloc | apply Ext.drew))⟩)); (case hv => kernel_rfl))
        refine YReg.doneN (fun X _ => ?_)
        go_wp2
        go_ret
        exact ⟨rfl, (by repeat (first | exact Ext.refl _ | apply Ext.plus | apply Ext.alloc | apply Ext.drew))⟩
      case hg =>
        (repeat' (first | exact trivial | exact XReg.GoodK.same _ default | refine And.intro ?_ ?_))
        exact kPoolV_good H1.out
    case hg =>
      (repeat' (first | exact trivial | exact XReg.GoodK.same _ default | refine And.intro ?_ ?_))
      exact kPoolV_good HP.out
  · go_enter Try.func3, Try.ntmps3
    go_wp2_with fail
    refine (szPool_any p _ 1048576 _ (HP.out.ext (by repeat (first | exact Ext.refl _ | apply Ext.plus | apply Ext.alloc | apply Ext.drew))) (Nat.le_refl _)).mono ?_
    rintro e _ ⟨rfl, X0, rfl⟩
    rw [if_neg hf]
    go_wp2
    go_ret
    exact ⟨rfl, (by repeat (first | exact Ext.refl _ | apply Ext.plus | apply Ext.alloc | apply Ext.drew))⟩
end Go.Proofs.Ytfmjnncgpfkejaa

/- The quotas of a configuration: both walks. -/
import Derived.Test.YtkekfncgpbileaaCG2
import Derived.Test.YtkekfncgpbileaaC1
import Derived.Test.YtkekfncgpbileaaZ1
set_option maxRecDepth 100000
set_option linter.unusedVariables false
namespace Go.Proofs.Ytkekfncgpbileaa
open Go.RowKit Go.Fin1
set_option maxHeartbeats 3200000 in
theorem quotasOf_any (c : Cfg) (ls : List Lab) (v lv : Value) (w : World) (h : eCfg w v c) (hls : SlR w 2 rLab lv ls) :
    Calls Try.prog 120 #[v, lv] w fun e w' => e = .returned (.bool (qusR ls c.quotas)) ∧ Ext w w' := by
  obtain ⟨a1, c1, a2, c2, a3, c3, rfl, hz, h1, h2, h3⟩ := h
  obtain ⟨-, hlc, hcm⟩ := slr_len h3
  have hlm : c.quotas.length ≤ 9223372036854775807 := by unfold maxLen at hcm; omega
  have H3 := Lib.hid h3
  have HL := Lib.hid hls
  obtain ⟨al, kl, rfl⟩ := hls.len
  clear h1 h2 h3 hz hls hlc hcm
  unfold Cfg.val
  go_enter Try.func120, Try.ntmps120
  go_wp2
  go_loopw [10] (fun i wr => ∃ k : Nat, k ≤ c.quotas.length ∧ i = .int .i64 k ∧ Ext (w.alloc (.cells #[.slice a1 c.nodes.length c1, .slice a2 c.pairs.length c2, .slice a3 c.quotas.length c3, (.int .i64 c.half)] 82)) wr ∧ Hid (∀ j, j < k → quAt ls c.quotas j = true)) (fun i _ => c.quotas.length - (intOf i).toNat)
  case atStart => exact ⟨0, Nat.zero_le _, rfl, (by repeat (first | exact Ext.refl _ | apply Ext.plus | apply Ext.alloc | apply Ext.drew)), Lib.hid (fun j h => absurd h (Nat.not_lt_zero _))⟩
  case round =>
    obtain ⟨k, hk, rfl, ⟨X, rfl⟩, HH⟩ := hrel
    by_cases hlt : k < c.quotas.length
    · obtain ⟨b, off, rfl⟩ := slr_some H3.out hlt
      obtain ⟨ho, hok, h0, h1, h2⟩ := quo_at H3.out hlt
      have HE := Lib.hid (quAt_eq (ls := ls) hlt)
      go_upto_region 4 with fail
      cases r1 : hasL ls ⟨c.quotas[k].l.lv, c.quotas[k].l.st⟩
      · have HN := Lib.hid (qusR_no (ls := ls) hlt (by rw [HE.out, show hasL ls c.quotas[k].l = false from r1]; rfl))
        clear HE
        (refine wp_region_x 28 (by kernel_rfl) (by kernel_rfl) (by kernel_rfl) ?_; (iterate 28 (apply XReg.step; (case h => (intro w' hw'; obtain ⟨X', rfl⟩ := hw'; go_wp2_with ((first | (go_at_call 160; refine (containsLab_any _ ls _ _ (HL.out.ext rLab_stable (by repeat (first | exact Ext.refl _ | apply Ext.plus | apply Ext.alloc | apply Ext.drew)))).mono ?_; rintro e _ ⟨rfl, Y, rfl⟩; rw [r1]) | (go_at_call 81; refine (within_any _ _ _ _).mono ?_; rintro e _ ⟨rfl, rfl⟩; rw [r2]) | (go_at_call 156; refine (compareLabels_any _ _ _ _ _).mono ?_; rintro e _ ⟨rfl, Y, rfl⟩))); exact ⟨rfl, (by repeat (first | exact Ext.refl _ | apply Ext.plus | apply Ext.alloc | apply Ext.drew))⟩)); (case hv => kernel_rfl))); refine XReg.doneN (fun X => ?_))
        go_wp2
        go_ret
        exact ⟨ret_bool HN.out.symm, (by repeat (first | exact Ext.refl _ | apply Ext.plus | apply Ext.alloc | apply Ext.drew))⟩
      cases r2 : isIn c.quotas[k].most 1 9
      · have HN := Lib.hid (qusR_no (ls := ls) hlt (by rw [HE.out, r2]; simp))
        clear HE
        (refine wp_region_x 28 (by kernel_rfl) (by kernel_rfl) (by kernel_rfl) ?_; (iterate 28 (apply XReg.step; (case h => (intro w' hw'; obtain ⟨X', rfl⟩ := hw'; go_wp2_with ((first | (go_at_call 160; refine (containsLab_any _ ls _ _ (HL.out.ext rLab_stable (by repeat (first | exact Ext.refl _ | apply Ext.plus | apply Ext.alloc | apply Ext.drew)))).mono ?_; rintro e _ ⟨rfl, Y, rfl⟩; rw [r1]) | (go_at_call 81; refine (within_any _ _ _ _).mono ?_; rintro e _ ⟨rfl, rfl⟩; rw [r2]) | (go_at_call 156; refine (compareLabels_any _ _ _ _ _).mono ?_; rintro e _ ⟨rfl, Y, rfl⟩))); exact ⟨rfl, (by repeat (first | exact Ext.refl _ | apply Ext.plus | apply Ext.alloc | apply Ext.drew))⟩)); (case hv => kernel_rfl))); refine XReg.doneN (fun X => ?_))
        go_wp2
        go_ret
        exact ⟨ret_bool HN.out.symm, (by repeat (first | exact Ext.refl _ | apply Ext.plus | apply Ext.alloc | apply Ext.drew))⟩
      by_cases hk0 : 0 < k
      · have hkb : decide ((0 : Int) < (k : Int)) = true := decide_eq_true (by omega)
        obtain ⟨-, -, d0, d1, d2⟩ := quo_at H3.out (show k - 1 < c.quotas.length by omega)
        have hin : IntKind.i64.wrap ((k : Int) - 1) = (k : Int) - 1 := IntWalk.i64_in _ (by omega)
        cases r3 : decide (0 ≤ cmpL ⟨c.quotas[k - 1].l.lv, c.quotas[k - 1].l.st⟩ ⟨c.quotas[k].l.lv, c.quotas[k].l.st⟩)
        · have r3' : cmpL c.quotas[k - 1].l c.quotas[k].l < 0 := by have := of_decide_eq_false r3; exact Int.not_le.1 this
          have HY : Hid (quAt ls c.quotas k = true) := Lib.hid (by rw [HE.out, show hasL ls c.quotas[k].l = true from r1, r2, decide_eq_true r3']; simp)
          clear HE r3'
          (refine wp_region_x 28 (by kernel_rfl) (by kernel_rfl) (by kernel_rfl) ?_; (iterate 28 (apply XReg.step; (case h => (intro w' hw'; obtain ⟨X', rfl⟩ := hw'; go_wp2_with ((first | (go_at_call 160; refine (containsLab_any _ ls _ _ (HL.out.ext rLab_stable (by repeat (first | exact Ext.refl _ | apply Ext.plus | apply Ext.alloc | apply Ext.drew)))).mono ?_; rintro e _ ⟨rfl, Y, rfl⟩; rw [r1]) | (go_at_call 81; refine (within_any _ _ _ _).mono ?_; rintro e _ ⟨rfl, rfl⟩; rw [r2]) | (go_at_call 156; refine (compareLabels_any _ _ _ _ _).mono ?_; rintro e _ ⟨rfl, Y, rfl⟩))); exact ⟨rfl, (by repeat (first | exact Ext.refl _ | apply Ext.plus | apply Ext.alloc | apply Ext.drew))⟩)); (case hv => kernel_rfl))); refine XReg.doneN (fun X => ?_))
          go_wp2
          exact ⟨⟨k + 1, by omega, by go_num, (by repeat (first | exact Ext.refl _ | apply Ext.plus | apply Ext.alloc | apply Ext.drew)), Lib.hid (fun j hj => by
            by_cases e : j < k
            · exact HH.out j e
            · obtain rfl : j = k := by omega
              exact HY.out)⟩, by simp [intOf]; omega⟩
        · have r3' : ¬ cmpL c.quotas[k - 1].l c.quotas[k].l < 0 := by have := of_decide_eq_true r3; exact Int.not_lt.2 this
          have HN := Lib.hid (qusR_no (ls := ls) hlt (by rw [HE.out, show hasL ls c.quotas[k].l = true from r1, r2, decide_eq_false r3', decide_eq_false (show ¬ k = 0 by omega)]; rfl))
          clear HE r3'
          (refine wp_region_x 28 (by kernel_rfl) (by kernel_rfl) (by kernel_rfl) ?_; (iterate 28 (apply XReg.step; (case h => (intro w' hw'; obtain ⟨X', rfl⟩ := hw'; go_wp2_with ((first | (go_at_call 160; refine (containsLab_any _ ls _ _ (HL.out.ext rLab_stable (by repeat (first | exact Ext.refl _ | apply Ext.plus | apply Ext.alloc | apply Ext.drew)))).mono ?_; rintro e _ ⟨rfl, Y, rfl⟩; rw [r1]) | (go_at_call 81; refine (within_any _ _ _ _).mono ?_; rintro e _ ⟨rfl, rfl⟩; rw [r2]) | (go_at_call 156; refine (compareLabels_any _ _ _ _ _).mono ?_; rintro e _ ⟨rfl, Y, rfl⟩))); exact ⟨rfl, (by repeat (first | exact Ext.refl _ | apply Ext.plus | apply Ext.alloc | apply Ext.drew))⟩)); (case hv => kernel_rfl))); refine XReg.doneN (fun X => ?_))
          go_wp2
          go_ret
          exact ⟨ret_bool HN.out.symm, (by repeat (first | exact Ext.refl _ | apply Ext.plus | apply Ext.alloc | apply Ext.drew))⟩
      · have hkb : decide ((0 : Int) < (k : Int)) = false := decide_eq_false (by omega)
        have HY : Hid (quAt ls c.quotas k = true) := Lib.hid (by rw [HE.out, show hasL ls c.quotas[k].l = true from r1, r2, decide_eq_true (show k = 0 by omega)]; rfl)
        clear HE
        (refine wp_region_x 28 (by kernel_rfl) (by kernel_rfl) (by kernel_rfl) ?_; (iterate 28 (apply XReg.step; (case h => (intro w' hw'; obtain ⟨X', rfl⟩ := hw'; go_wp2_with ((first | (go_at_call 160; refine (containsLab_any _ ls _ _ (HL.out.ext rLab_stable (by repeat (first | exact Ext.refl _ | apply Ext.plus | apply Ext.alloc | apply Ext.drew)))).mono ?_; rintro e _ ⟨rfl, Y, rfl⟩; rw [r1]) | (go_at_call 81; refine (within_any _ _ _ _).mono ?_; rintro e _ ⟨rfl, rfl⟩; rw [r2]) | (go_at_call 156; refine (compareLabels_any _ _ _ _ _).mono ?_; rintro e _ ⟨rfl, Y, rfl⟩))); exact ⟨rfl, (by repeat (first | exact Ext.refl _ | apply Ext.plus | apply Ext.alloc | apply Ext.drew))⟩)); (case hv => kernel_rfl))); refine XReg.doneN (fun X => ?_))
        go_wp2
        exact ⟨⟨k + 1, by omega, by go_num, (by repeat (first | exact Ext.refl _ | apply Ext.plus | apply Ext.alloc | apply Ext.drew)), Lib.hid (fun j hj => by
          by_cases e : j < k
          · exact HH.out j e
          · obtain rfl : j = k := by omega
            exact HY.out)⟩, by simp [intOf]; omega⟩
    · obtain rfl : k = c.quotas.length := by omega
      have HA := Lib.hid (qusR_yes HH.out)
      go_wp2
      go_ret
      exact ⟨ret_bool HA.out.symm, (by repeat (first | exact Ext.refl _ | apply Ext.plus | apply Ext.alloc | apply Ext.drew))⟩
end Go.Proofs.Ytkekfncgpbileaa

/- The walks of BoxRight: letters. -/
import Derived.Test.YtocadhcggkbimaaD7
set_option maxRecDepth 100000
set_option linter.unusedVariables false
namespace Go.Proofs.Ytocadhcggkbimaa
open Go.RowKit Go.Fin1


set_option maxHeartbeats 3200000 in
theorem lettersRight_any (d : Dk) (dv v : Value) (l : List Ltr) (most : Int) (w : World) (hd : eDesk w dv d) (h : SlR w 6 rLtr v l) :
    Calls Try.prog 56 #[dv, v, (.int .i64 most)] w fun e w' => e = .returned (.bool (letsR d.pairs d.now l most)) ∧ Ext w w' := by
  obtain ⟨a1, c1, a2, c2, a3, c3, rfl, z1, z2, hp, z3, z4⟩ := hd
  have HP := Lib.hid hp
  clear hp z1 z2 z3 z4
  obtain ⟨a, cap, rfl⟩ := h.len
  obtain ⟨_, hlc, hcm⟩ := slr_len h
  have hlm : l.length ≤ 9223372036854775807 := by unfold maxLen at hcm; omega
  clear hcm
  have HS := Lib.hid h
  clear h
  go_enter Try.func56, Try.ntmps56
  unfold Dk.val
  go_wp2
  go_loopw [11, 7, 8] (fun i _ _ wr => ∃ k : Nat, k ≤ l.length ∧ i = .int .i64 k ∧ Ext (w.alloc (.cells #[.slice a1 d.pairs.length c1, .slice a2 d.box.length c2, .slice a3 d.audit.length c3, (.int .i64 d.used), (.int .i64 d.now)] 25)) wr ∧ Hid (∀ j, j < k → letAt d.pairs d.now l j = true)) (fun i _ _ _ => l.length - (intOf i).toNat)
  case atStart =>
    exact ⟨0, Nat.zero_le _, rfl, Ext.refl _, Lib.hid (fun j h => absurd h (Nat.not_lt_zero _))⟩
  case round =>
    obtain ⟨k, hk, rfl, ⟨X, rfl⟩, HH⟩ := hrel
    by_cases hlt : k < l.length
    · obtain ⟨b, off, rfl⟩ := slr_some HS.out hlt
      obtain ⟨ho, hok, h0, h1, h2, h3, h4, h5⟩ := ltr_at HS.out hlt
      go_upto_region 4 with fail
      have HE := Lib.hid (letAt_eq d.pairs d.now hlt)
      have hcs : hasT d.pairs ⟨⟨l[k].a.lv, l[k].a.st⟩, ⟨l[k].b.lv, l[k].b.st⟩, 0, 0⟩ = false ∨ (hasT d.pairs ⟨⟨l[k].a.lv, l[k].a.st⟩, ⟨l[k].b.lv, l[k].b.st⟩, 0, 0⟩ = true ∧ isIn l[k].p 0 d.now = false) ∨ (hasT d.pairs ⟨⟨l[k].a.lv, l[k].a.st⟩, ⟨l[k].b.lv, l[k].b.st⟩, 0, 0⟩ = true ∧ isIn l[k].p 0 d.now = true ∧ isIn l[k].q 0 1000000 = false) ∨ (hasT d.pairs ⟨⟨l[k].a.lv, l[k].a.st⟩, ⟨l[k].b.lv, l[k].b.st⟩, 0, 0⟩ = true ∧ isIn l[k].p 0 d.now = true ∧ isIn l[k].q 0 1000000 = true) := by
        cases hasT d.pairs ⟨⟨l[k].a.lv, l[k].a.st⟩, ⟨l[k].b.lv, l[k].b.st⟩, 0, 0⟩ <;> cases isIn l[k].p 0 d.now <;> cases isIn l[k].q 0 1000000 <;> simp
      rcases hcs with q1 | ⟨q1, q2⟩ | ⟨q1, q2, q3⟩ | ⟨q1, q2, q3⟩
      · have HN := Lib.hid (letsR_no (most := most) hlt (by rw [HE.out, show hasT d.pairs ⟨l[k].a, l[k].b, 0, 0⟩ = false from q1]; rfl))
        clear HE
        (refine wp_region_x 38 (by kernel_rfl) (by kernel_rfl) (by kernel_rfl) ?_; (iterate 38 (apply XReg.step; (case h => (intro w' hw'; obtain ⟨X', rfl⟩ := hw'; go_wp2_with ((first | (go_at_call 45; refine (containsLtr_any _ d.pairs ⟨⟨l[k].a.lv, l[k].a.st⟩, ⟨l[k].b.lv, l[k].b.st⟩, 0, 0⟩ _ (HP.out.ext rLtr_stable (by repeat (first | exact Ext.refl _ | apply Ext.plus | apply Ext.alloc | apply Ext.drew)))).mono ?_; rintro e _ ⟨rfl, Y, rfl⟩) | (go_at_call 70; refine (within_any _ _ _ _).mono ?_; rintro e _ ⟨rfl, rfl⟩) | (go_at_call 44; refine (isWord_any _ _).mono ?_; rintro e _ ⟨rfl, rfl⟩))); exact ⟨rfl, (by repeat (first | exact Ext.refl _ | apply Ext.plus | apply Ext.alloc | apply Ext.drew))⟩)); (case hv => kernel_rfl))); refine XReg.doneN (fun X => ?_))
        go_wp2
        (go_ret; exact ⟨ret_bool HN.out.symm, (by repeat (first | exact Ext.refl _ | apply Ext.plus | apply Ext.alloc | apply Ext.drew))⟩)
      · have HN := Lib.hid (letsR_no (most := most) hlt (by rw [HE.out, q2]; simp))
        clear HE
        (refine wp_region_x 38 (by kernel_rfl) (by kernel_rfl) (by kernel_rfl) ?_; (iterate 38 (apply XReg.step; (case h => (intro w' hw'; obtain ⟨X', rfl⟩ := hw'; go_wp2_with ((first | (go_at_call 45; refine (containsLtr_any _ d.pairs ⟨⟨l[k].a.lv, l[k].a.st⟩, ⟨l[k].b.lv, l[k].b.st⟩, 0, 0⟩ _ (HP.out.ext rLtr_stable (by repeat (first | exact Ext.refl _ | apply Ext.plus | apply Ext.alloc | apply Ext.drew)))).mono ?_; rintro e _ ⟨rfl, Y, rfl⟩) | (go_at_call 70; refine (within_any _ _ _ _).mono ?_; rintro e _ ⟨rfl, rfl⟩) | (go_at_call 44; refine (isWord_any _ _).mono ?_; rintro e _ ⟨rfl, rfl⟩))); exact ⟨rfl, (by repeat (first | exact Ext.refl _ | apply Ext.plus | apply Ext.alloc | apply Ext.drew))⟩)); (case hv => kernel_rfl))); refine XReg.doneN (fun X => ?_))
        go_wp2
        (go_ret; exact ⟨ret_bool HN.out.symm, (by repeat (first | exact Ext.refl _ | apply Ext.plus | apply Ext.alloc | apply Ext.drew))⟩)
      · have HN := Lib.hid (letsR_no (most := most) hlt (by rw [HE.out, q3]; simp))
        clear HE
        (refine wp_region_x 38 (by kernel_rfl) (by kernel_rfl) (by kernel_rfl) ?_; (iterate 38 (apply XReg.step; (case h => (intro w' hw'; obtain ⟨X', rfl⟩ := hw'; go_wp2_with ((first | (go_at_call 45; refine (containsLtr_any _ d.pairs ⟨⟨l[k].a.lv, l[k].a.st⟩, ⟨l[k].b.lv, l[k].b.st⟩, 0, 0⟩ _ (HP.out.ext rLtr_stable (by repeat (first | exact Ext.refl _ | apply Ext.plus | apply Ext.alloc | apply Ext.drew)))).mono ?_; rintro e _ ⟨rfl, Y, rfl⟩) | (go_at_call 70; refine (within_any _ _ _ _).mono ?_; rintro e _ ⟨rfl, rfl⟩) | (go_at_call 44; refine (isWord_any _ _).mono ?_; rintro e _ ⟨rfl, rfl⟩))); exact ⟨rfl, (by repeat (first | exact Ext.refl _ | apply Ext.plus | apply Ext.alloc | apply Ext.drew))⟩)); (case hv => kernel_rfl))); refine XReg.doneN (fun X => ?_))
        go_wp2
        (go_ret; exact ⟨ret_bool HN.out.symm, (by repeat (first | exact Ext.refl _ | apply Ext.plus | apply Ext.alloc | apply Ext.drew))⟩)
      by_cases hk0 : 0 < k
      · have hkb : decide ((0 : Int) < (k : Int)) = true := decide_eq_true (by omega)
        obtain ⟨_, _, _, _, _, _, g4, _⟩ := ltr_at HS.out (show k - 1 < l.length by omega)
        have Hd' := Lib.hid (show l.getD (k - 1) zT = l[k - 1] by simp [show k - 1 < l.length by omega])
        cases hc : decide (l[k].p < l[k - 1].p)
        · have HY : Hid (letAt d.pairs d.now l k = true) := Lib.hid (by
            rw [HE.out, show hasT d.pairs ⟨l[k].a, l[k].b, 0, 0⟩ = true from q1, q2, q3, Hd'.out, decide_eq_true (show l[k - 1].p ≤ l[k].p by simpa using hc)]; simp)
          clear HE
          (refine wp_region_x 38 (by kernel_rfl) (by kernel_rfl) (by kernel_rfl) ?_; (iterate 38 (apply XReg.step; (case h => (intro w' hw'; obtain ⟨X', rfl⟩ := hw'; go_wp2_with ((first | (go_at_call 45; refine (containsLtr_any _ d.pairs ⟨⟨l[k].a.lv, l[k].a.st⟩, ⟨l[k].b.lv, l[k].b.st⟩, 0, 0⟩ _ (HP.out.ext rLtr_stable (by repeat (first | exact Ext.refl _ | apply Ext.plus | apply Ext.alloc | apply Ext.drew)))).mono ?_; rintro e _ ⟨rfl, Y, rfl⟩) | (go_at_call 70; refine (within_any _ _ _ _).mono ?_; rintro e _ ⟨rfl, rfl⟩) | (go_at_call 44; refine (isWord_any _ _).mono ?_; rintro e _ ⟨rfl, rfl⟩))); exact ⟨rfl, (by repeat (first | exact Ext.refl _ | apply Ext.plus | apply Ext.alloc | apply Ext.drew))⟩)); (case hv => kernel_rfl))); refine XReg.doneN (fun X => ?_))
          go_wp2
          exact ⟨⟨k + 1, by omega, by go_num, (by repeat (first | exact Ext.refl _ | apply Ext.plus | apply Ext.alloc | apply Ext.drew)), Lib.hid (fun j hjk => by
            by_cases e : j < k
            · exact HH.out j e
            · obtain rfl : j = k := by omega
              exact HY.out)⟩, by simp [intOf]; omega⟩
        · have HN := Lib.hid (letsR_no (most := most) hlt (by rw [HE.out, Hd'.out, decide_eq_false (show ¬ l[k - 1].p ≤ l[k].p by simpa using hc)]; simp; omega))
          clear HE
          (refine wp_region_x 38 (by kernel_rfl) (by kernel_rfl) (by kernel_rfl) ?_; (iterate 38 (apply XReg.step; (case h => (intro w' hw'; obtain ⟨X', rfl⟩ := hw'; go_wp2_with ((first | (go_at_call 45; refine (containsLtr_any _ d.pairs ⟨⟨l[k].a.lv, l[k].a.st⟩, ⟨l[k].b.lv, l[k].b.st⟩, 0, 0⟩ _ (HP.out.ext rLtr_stable (by repeat (first | exact Ext.refl _ | apply Ext.plus | apply Ext.alloc | apply Ext.drew)))).mono ?_; rintro e _ ⟨rfl, Y, rfl⟩) | (go_at_call 70; refine (within_any _ _ _ _).mono ?_; rintro e _ ⟨rfl, rfl⟩) | (go_at_call 44; refine (isWord_any _ _).mono ?_; rintro e _ ⟨rfl, rfl⟩))); exact ⟨rfl, (by repeat (first | exact Ext.refl _ | apply Ext.plus | apply Ext.alloc | apply Ext.drew))⟩)); (case hv => kernel_rfl))); refine XReg.doneN (fun X => ?_))
          go_wp2
          (go_ret; exact ⟨ret_bool HN.out.symm, (by repeat (first | exact Ext.refl _ | apply Ext.plus | apply Ext.alloc | apply Ext.drew))⟩)
      · have hkb : decide ((0 : Int) < (k : Int)) = false := decide_eq_false (by omega)
        have HY : Hid (letAt d.pairs d.now l k = true) := Lib.hid (by rw [HE.out, show hasT d.pairs ⟨l[k].a, l[k].b, 0, 0⟩ = true from q1, q2, q3, show (k == 0) = true by simp; omega]; rfl)
        clear HE
        (refine wp_region_x 38 (by kernel_rfl) (by kernel_rfl) (by kernel_rfl) ?_; (iterate 38 (apply XReg.step; (case h => (intro w' hw'; obtain ⟨X', rfl⟩ := hw'; go_wp2_with ((first | (go_at_call 45; refine (containsLtr_any _ d.pairs ⟨⟨l[k].a.lv, l[k].a.st⟩, ⟨l[k].b.lv, l[k].b.st⟩, 0, 0⟩ _ (HP.out.ext rLtr_stable (by repeat (first | exact Ext.refl _ | apply Ext.plus | apply Ext.alloc | apply Ext.drew)))).mono ?_; rintro e _ ⟨rfl, Y, rfl⟩) | (go_at_call 70; refine (within_any _ _ _ _).mono ?_; rintro e _ ⟨rfl, rfl⟩) | (go_at_call 44; refine (isWord_any _ _).mono ?_; rintro e _ ⟨rfl, rfl⟩))); exact ⟨rfl, (by repeat (first | exact Ext.refl _ | apply Ext.plus | apply Ext.alloc | apply Ext.drew))⟩)); (case hv => kernel_rfl))); refine XReg.doneN (fun X => ?_))
        go_wp2
        exact ⟨⟨k + 1, by omega, by go_num, (by repeat (first | exact Ext.refl _ | apply Ext.plus | apply Ext.alloc | apply Ext.drew)), Lib.hid (fun j hjk => by
          by_cases e : j < k
          · exact HH.out j e
          · obtain rfl : j = k := by omega
            exact HY.out)⟩, by simp [intOf]; omega⟩
    · have HY := Lib.hid (letsR_yes (ps := d.pairs) (now := d.now) (most := most) (l := l) (fun i hi => HH.out i (by omega)))
      go_wp2
      go_ret
      exact ⟨ret_bool (by rw [HY.out]; first | done | (simp; try omega)), (by repeat (first | exact Ext.refl _ | apply Ext.plus | apply Ext.alloc | apply Ext.drew))⟩
end Go.Proofs.Ytocadhcggkbimaa

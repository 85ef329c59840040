/- The walks of the parts of BoxRight. -/
import Derived.Test.YtocadhcggkbimaaDA1
import Derived.Test.YtocadhcggkbimaaJ6
set_option maxRecDepth 100000
set_option linter.unusedVariables false
namespace Go.Proofs.Ytocadhcggkbimaa
open Go.RowKit Go.Fin1

set_option maxHeartbeats 400000 in
theorem isWord_any (a : Int) (w : World) :
    Calls Try.prog 44 #[(.int .i64 a)] w fun e w' => e = .returned (.bool (isIn a 0 1000000)) ∧ w = w' := by
  go_enter Try.func44, Try.ntmps44
  go_wp2_with (go_at_call 70; refine (within_any _ _ _ _).mono ?_; rintro e w' ⟨rfl, rfl⟩)
  go_ret
  exact ⟨rfl, rfl⟩


set_option maxHeartbeats 3200000 in
theorem pairsRight_any (v : Value) (l : List Ltr) (w : World) (h : SlR w 6 rLtr v l) :
    Calls Try.prog 54 #[v] w fun e w' => e = .returned (.bool (chansR l)) ∧ Ext w w' := by
  obtain ⟨a, cap, rfl⟩ := h.len
  obtain ⟨_, hlc, hcm⟩ := slr_len h
  have hlm : l.length ≤ 9223372036854775807 := by unfold maxLen at hcm; omega
  clear hcm
  have HS := Lib.hid h
  clear h
  go_enter Try.func54, Try.ntmps54
  go_wp2
  go_loopw [7, 3, 4] (fun i _ _ wr => ∃ k : Nat, k ≤ l.length ∧ i = .int .i64 k ∧ Ext w wr ∧ Hid (∀ j, j < k → chanAt l j = true)) (fun i _ _ _ => l.length - (intOf i).toNat)
  case atStart =>
    exact ⟨0, Nat.zero_le _, rfl, Ext.refl _, Lib.hid (fun j h => absurd h (Nat.not_lt_zero _))⟩
  case round =>
    obtain ⟨k, hk, rfl, ⟨X, rfl⟩, HH⟩ := hrel
    by_cases hlt : k < l.length
    · obtain ⟨b, off, rfl⟩ := slr_some HS.out hlt
      obtain ⟨ho, hok, h0, h1, h2, h3, h4, h5⟩ := ltr_at HS.out hlt
      have HT := Lib.hid (SlR.take HS.out (Nat.le_of_lt hlt))
      go_upto_region 4 with fail
      have HE := Lib.hid (chanAt_eq hlt)
      have hcs : labR ⟨l[k].a.lv, l[k].a.st⟩ = false ∨ (labR ⟨l[k].a.lv, l[k].a.st⟩ = true ∧ labR ⟨l[k].b.lv, l[k].b.st⟩ = false) ∨ (labR ⟨l[k].a.lv, l[k].a.st⟩ = true ∧ labR ⟨l[k].b.lv, l[k].b.st⟩ = true ∧ (l[k].p != 0) = true) ∨ (labR ⟨l[k].a.lv, l[k].a.st⟩ = true ∧ labR ⟨l[k].b.lv, l[k].b.st⟩ = true ∧ (l[k].p != 0) = false ∧ (l[k].q != 0) = true) ∨ (labR ⟨l[k].a.lv, l[k].a.st⟩ = true ∧ labR ⟨l[k].b.lv, l[k].b.st⟩ = true ∧ (l[k].p != 0) = false ∧ (l[k].q != 0) = false) := by
        cases labR ⟨l[k].a.lv, l[k].a.st⟩ <;> cases labR ⟨l[k].b.lv, l[k].b.st⟩ <;> cases (l[k].p != 0) <;> cases (l[k].q != 0) <;> simp
      rcases hcs with q1 | ⟨q1, q2⟩ | ⟨q1, q2, q3⟩ | ⟨q1, q2, q3, q4⟩ | ⟨q1, q2, q3, q4⟩
      · have HN := Lib.hid (chansR_no hlt (by rw [HE.out, show labR l[k].a = false from q1]; rfl))
        (refine wp_region_x 27 (by kernel_rfl) (by kernel_rfl) (by kernel_rfl) ?_; (iterate 27 (apply XReg.step; (case h => (intro w' hw'; obtain ⟨X', rfl⟩ := hw'; go_wp2_with ((first | (go_at_call 50; refine (implLabelRight_any _ _ _).mono ?_; rintro e _ ⟨rfl, X, rfl⟩) | (go_at_call 45; refine (containsLtr_any _ (l.take k) l[k] _ (HT.out.ext rLtr_stable (by repeat (first | exact Ext.refl _ | apply Ext.plus | apply Ext.alloc | apply Ext.drew)))).mono ?_; rintro e _ ⟨rfl, Y, rfl⟩))); exact ⟨rfl, (by repeat (first | exact Ext.refl _ | apply Ext.plus | apply Ext.alloc | apply Ext.drew))⟩)); (case hv => kernel_rfl))); refine XReg.doneN (fun X => ?_))
        go_wp2
        (go_ret; exact ⟨ret_bool HN.out.symm, (by repeat (first | exact Ext.refl _ | apply Ext.plus | apply Ext.alloc | apply Ext.drew))⟩)
      · have HN := Lib.hid (chansR_no hlt (by rw [HE.out, show labR l[k].b = false from q2]; simp))
        (refine wp_region_x 27 (by kernel_rfl) (by kernel_rfl) (by kernel_rfl) ?_; (iterate 27 (apply XReg.step; (case h => (intro w' hw'; obtain ⟨X', rfl⟩ := hw'; go_wp2_with ((first | (go_at_call 50; refine (implLabelRight_any _ _ _).mono ?_; rintro e _ ⟨rfl, X, rfl⟩) | (go_at_call 45; refine (containsLtr_any _ (l.take k) l[k] _ (HT.out.ext rLtr_stable (by repeat (first | exact Ext.refl _ | apply Ext.plus | apply Ext.alloc | apply Ext.drew)))).mono ?_; rintro e _ ⟨rfl, Y, rfl⟩))); exact ⟨rfl, (by repeat (first | exact Ext.refl _ | apply Ext.plus | apply Ext.alloc | apply Ext.drew))⟩)); (case hv => kernel_rfl))); refine XReg.doneN (fun X => ?_))
        go_wp2
        (go_ret; exact ⟨ret_bool HN.out.symm, (by repeat (first | exact Ext.refl _ | apply Ext.plus | apply Ext.alloc | apply Ext.drew))⟩)
      · have HN := Lib.hid (chansR_no hlt (by rw [HE.out, decide_eq_false (by simpa using q3)]; simp))
        (refine wp_region_x 27 (by kernel_rfl) (by kernel_rfl) (by kernel_rfl) ?_; (iterate 27 (apply XReg.step; (case h => (intro w' hw'; obtain ⟨X', rfl⟩ := hw'; go_wp2_with ((first | (go_at_call 50; refine (implLabelRight_any _ _ _).mono ?_; rintro e _ ⟨rfl, X, rfl⟩) | (go_at_call 45; refine (containsLtr_any _ (l.take k) l[k] _ (HT.out.ext rLtr_stable (by repeat (first | exact Ext.refl _ | apply Ext.plus | apply Ext.alloc | apply Ext.drew)))).mono ?_; rintro e _ ⟨rfl, Y, rfl⟩))); exact ⟨rfl, (by repeat (first | exact Ext.refl _ | apply Ext.plus | apply Ext.alloc | apply Ext.drew))⟩)); (case hv => kernel_rfl))); refine XReg.doneN (fun X => ?_))
        go_wp2
        (go_ret; exact ⟨ret_bool HN.out.symm, (by repeat (first | exact Ext.refl _ | apply Ext.plus | apply Ext.alloc | apply Ext.drew))⟩)
      · have HN := Lib.hid (chansR_no hlt (by rw [HE.out, decide_eq_false (show ¬ l[k].q = 0 by simpa using q4)]; simp))
        (refine wp_region_x 27 (by kernel_rfl) (by kernel_rfl) (by kernel_rfl) ?_; (iterate 27 (apply XReg.step; (case h => (intro w' hw'; obtain ⟨X', rfl⟩ := hw'; go_wp2_with ((first | (go_at_call 50; refine (implLabelRight_any _ _ _).mono ?_; rintro e _ ⟨rfl, X, rfl⟩) | (go_at_call 45; refine (containsLtr_any _ (l.take k) l[k] _ (HT.out.ext rLtr_stable (by repeat (first | exact Ext.refl _ | apply Ext.plus | apply Ext.alloc | apply Ext.drew)))).mono ?_; rintro e _ ⟨rfl, Y, rfl⟩))); exact ⟨rfl, (by repeat (first | exact Ext.refl _ | apply Ext.plus | apply Ext.alloc | apply Ext.drew))⟩)); (case hv => kernel_rfl))); refine XReg.doneN (fun X => ?_))
        go_wp2
        (go_ret; exact ⟨ret_bool HN.out.symm, (by repeat (first | exact Ext.refl _ | apply Ext.plus | apply Ext.alloc | apply Ext.drew))⟩)
      cases hh : hasT (l.take k) l[k]
      · have HY : Hid (chanAt l k = true) := Lib.hid (by rw [HE.out, show labR l[k].a = true from q1, show labR l[k].b = true from q2, hh, decide_eq_true (show l[k].p = 0 by simpa using q3), decide_eq_true (show l[k].q = 0 by simpa using q4)]; rfl)
        (refine wp_region_x 27 (by kernel_rfl) (by kernel_rfl) (by kernel_rfl) ?_; (iterate 27 (apply XReg.step; (case h => (intro w' hw'; obtain ⟨X', rfl⟩ := hw'; go_wp2_with ((first | (go_at_call 50; refine (implLabelRight_any _ _ _).mono ?_; rintro e _ ⟨rfl, X, rfl⟩) | (go_at_call 45; refine (containsLtr_any _ (l.take k) l[k] _ (HT.out.ext rLtr_stable (by repeat (first | exact Ext.refl _ | apply Ext.plus | apply Ext.alloc | apply Ext.drew)))).mono ?_; rintro e _ ⟨rfl, Y, rfl⟩))); exact ⟨rfl, (by repeat (first | exact Ext.refl _ | apply Ext.plus | apply Ext.alloc | apply Ext.drew))⟩)); (case hv => kernel_rfl))); refine XReg.doneN (fun X => ?_))
        go_wp2
        exact ⟨⟨k + 1, by omega, by go_num, (by repeat (first | exact Ext.refl _ | apply Ext.plus | apply Ext.alloc | apply Ext.drew)), Lib.hid (fun j hjk => by
          by_cases e : j < k
          · exact HH.out j e
          · obtain rfl : j = k := by omega
            exact HY.out)⟩, by simp [intOf]; omega⟩
      · have HN := Lib.hid (chansR_no hlt (by rw [HE.out, hh]; simp))
        (refine wp_region_x 27 (by kernel_rfl) (by kernel_rfl) (by kernel_rfl) ?_; (iterate 27 (apply XReg.step; (case h => (intro w' hw'; obtain ⟨X', rfl⟩ := hw'; go_wp2_with ((first | (go_at_call 50; refine (implLabelRight_any _ _ _).mono ?_; rintro e _ ⟨rfl, X, rfl⟩) | (go_at_call 45; refine (containsLtr_any _ (l.take k) l[k] _ (HT.out.ext rLtr_stable (by repeat (first | exact Ext.refl _ | apply Ext.plus | apply Ext.alloc | apply Ext.drew)))).mono ?_; rintro e _ ⟨rfl, Y, rfl⟩))); exact ⟨rfl, (by repeat (first | exact Ext.refl _ | apply Ext.plus | apply Ext.alloc | apply Ext.drew))⟩)); (case hv => kernel_rfl))); refine XReg.doneN (fun X => ?_))
        go_wp2
        go_ret
        exact ⟨ret_bool HN.out.symm, (by repeat (first | exact Ext.refl _ | apply Ext.plus | apply Ext.alloc | apply Ext.drew))⟩
    · have HY := Lib.hid (chansR_yes (l := l) (fun i hi => HH.out i (by omega)))
      go_wp2
      go_ret
      exact ⟨ret_bool (by rw [HY.out]; simp; omega), (by repeat (first | exact Ext.refl _ | apply Ext.plus | apply Ext.alloc | apply Ext.drew))⟩

set_option maxHeartbeats 3200000 in
theorem l06Pairs_any (v : Value) (l : List Ltr) (w : World) (h : SlR w 6 rLtr v l) :
    Calls Try.prog 59 #[v] w fun e w' => e = .returned (.bool (chansR l)) ∧ Ext w w' := by
  obtain ⟨a, cap, rfl⟩ := h.len
  obtain ⟨_, hlc, hcm⟩ := slr_len h
  have hlm : l.length ≤ 9223372036854775807 := by unfold maxLen at hcm; omega
  clear hcm
  have HS := Lib.hid h
  clear h
  go_enter Try.func59, Try.ntmps59
  go_wp2
  go_loopw [3, 4] (fun i _ wr => ∃ k : Nat, k ≤ l.length ∧ i = .int .i64 k ∧ Ext w wr ∧ Hid (∀ j, j < k → chanAt l j = true)) (fun i _ _ => l.length - (intOf i).toNat)
  case atStart =>
    exact ⟨0, Nat.zero_le _, rfl, Ext.refl _, Lib.hid (fun j h => absurd h (Nat.not_lt_zero _))⟩
  case round =>
    obtain ⟨k, hk, rfl, ⟨X, rfl⟩, HH⟩ := hrel
    by_cases hlt : k < l.length
    · obtain ⟨b, off, rfl⟩ := slr_some HS.out hlt
      obtain ⟨ho, hok, h0, h1, h2, h3, h4, h5⟩ := ltr_at HS.out hlt
      have HE := Lib.hid (chanAt_eq hlt)
      have hcs : labR ⟨l[k].a.lv, l[k].a.st⟩ = false ∨ (labR ⟨l[k].a.lv, l[k].a.st⟩ = true ∧ labR ⟨l[k].b.lv, l[k].b.st⟩ = false) ∨ (labR ⟨l[k].a.lv, l[k].a.st⟩ = true ∧ labR ⟨l[k].b.lv, l[k].b.st⟩ = true ∧ (l[k].p != 0) = true) ∨ (labR ⟨l[k].a.lv, l[k].a.st⟩ = true ∧ labR ⟨l[k].b.lv, l[k].b.st⟩ = true ∧ (l[k].p != 0) = false ∧ (l[k].q != 0) = true) ∨ (labR ⟨l[k].a.lv, l[k].a.st⟩ = true ∧ labR ⟨l[k].b.lv, l[k].b.st⟩ = true ∧ (l[k].p != 0) = false ∧ (l[k].q != 0) = false) := by
        cases labR ⟨l[k].a.lv, l[k].a.st⟩ <;> cases labR ⟨l[k].b.lv, l[k].b.st⟩ <;> cases (l[k].p != 0) <;> cases (l[k].q != 0) <;> simp
      rcases hcs with q1 | ⟨q1, q2⟩ | ⟨q1, q2, q3⟩ | ⟨q1, q2, q3, q4⟩ | ⟨q1, q2, q3, q4⟩
      · have HN := Lib.hid (chansR_no hlt (by rw [HE.out, show labR l[k].a = false from q1]; rfl))
        go_wp2_with ((go_at_call 52; refine (specLabelRight_any _ _ _).mono ?_; rintro e _ ⟨rfl, X, rfl⟩))
        go_wp2
        (go_ret; exact ⟨ret_bool HN.out.symm, (by repeat (first | exact Ext.refl _ | apply Ext.plus | apply Ext.alloc | apply Ext.drew))⟩)
      · have HN := Lib.hid (chansR_no hlt (by rw [HE.out, show labR l[k].b = false from q2]; simp))
        go_wp2_with ((go_at_call 52; refine (specLabelRight_any _ _ _).mono ?_; rintro e _ ⟨rfl, X, rfl⟩))
        go_wp2
        (go_ret; exact ⟨ret_bool HN.out.symm, (by repeat (first | exact Ext.refl _ | apply Ext.plus | apply Ext.alloc | apply Ext.drew))⟩)
      · have HN := Lib.hid (chansR_no hlt (by rw [HE.out, decide_eq_false (by simpa using q3)]; simp))
        go_wp2_with ((go_at_call 52; refine (specLabelRight_any _ _ _).mono ?_; rintro e _ ⟨rfl, X, rfl⟩))
        go_wp2
        (go_ret; exact ⟨ret_bool HN.out.symm, (by repeat (first | exact Ext.refl _ | apply Ext.plus | apply Ext.alloc | apply Ext.drew))⟩)
      · have HN := Lib.hid (chansR_no hlt (by rw [HE.out, decide_eq_false (show ¬ l[k].q = 0 by simpa using q4)]; simp))
        go_wp2_with ((go_at_call 52; refine (specLabelRight_any _ _ _).mono ?_; rintro e _ ⟨rfl, X, rfl⟩))
        go_wp2
        (go_ret; exact ⟨ret_bool HN.out.symm, (by repeat (first | exact Ext.refl _ | apply Ext.plus | apply Ext.alloc | apply Ext.drew))⟩)
      have HE2 : Hid (hasT (l.take k) l[k] = false → chanAt l k = true) := Lib.hid (fun hh => by rw [HE.out, show labR l[k].a = true from q1, show labR l[k].b = true from q2, hh, decide_eq_true (show l[k].p = 0 by simpa using q3), decide_eq_true (show l[k].q = 0 by simpa using q4)]; rfl)
      go_wp2_with ((go_at_call 52; refine (specLabelRight_any _ _ _).mono ?_; rintro e _ ⟨rfl, X, rfl⟩))
      clear q1 q2 q3 q4
      go_loopw [4] (fun i wr => ∃ m : Nat, m ≤ k ∧ i = .int .i64 m ∧ Ext w wr ∧ Hid (∀ (j : Nat) (hj : j < l.length), j < m → sameT l[j] l[k] = false)) (fun i _ => k - (intOf i).toNat)
      case atStart => exact ⟨0, Nat.zero_le _, rfl, (by repeat (first | exact Ext.refl _ | apply Ext.plus | apply Ext.alloc | apply Ext.drew)), Lib.hid (fun j _ h => absurd h (Nat.not_lt_zero _))⟩
      case round =>
        obtain ⟨m, hm, rfl, ⟨Y, rfl⟩, HM⟩ := hrel
        by_cases hmk : m < k
        · have hml : m < l.length := by omega
          obtain ⟨_, _, g0, g1, g2, g3, g4, g5⟩ := ltr_at HS.out hml
          cases q : sameT ⟨⟨l[m].a.lv, l[m].a.st⟩, ⟨l[m].b.lv, l[m].b.st⟩, l[m].p, l[m].q⟩ ⟨⟨l[k].a.lv, l[k].a.st⟩, ⟨l[k].b.lv, l[k].b.st⟩, l[k].p, l[k].q⟩
          · go_upto_region 9 with fail
            (refine wp_region_x 9 (by kernel_rfl) (by kernel_rfl) (by kernel_rfl) ?_; (iterate 9 (apply XReg.step; (case h => (intro w' hw'; obtain ⟨X', rfl⟩ := hw'; go_wp2_with (fail); exact ⟨rfl, (by repeat (first | exact Ext.refl _ | apply Ext.plus | apply Ext.alloc | apply Ext.drew))⟩)); (case hv => kernel_rfl))); refine XReg.doneN (fun X => ?_))
            go_wp2
            exact ⟨⟨m + 1, by omega, by go_num, (by repeat (first | exact Ext.refl _ | apply Ext.plus | apply Ext.alloc | apply Ext.drew)), Lib.hid (fun j hj hjm => by
              by_cases e : j < m
              · exact HM.out j hj e
              · obtain rfl : j = m := by omega
                exact q)⟩, by simp [intOf]; omega⟩
          · have HN := Lib.hid (chansR_no hlt (by rw [HE.out, hasT_yes (l := l.take k) (x := l[k]) (i := m) (by simp; omega) (by simp; exact q)]; simp))
            go_upto_region 9 with fail
            (refine wp_region_x 9 (by kernel_rfl) (by kernel_rfl) (by kernel_rfl) ?_; (iterate 9 (apply XReg.step; (case h => (intro w' hw'; obtain ⟨X', rfl⟩ := hw'; go_wp2_with (fail); exact ⟨rfl, (by repeat (first | exact Ext.refl _ | apply Ext.plus | apply Ext.alloc | apply Ext.drew))⟩)); (case hv => kernel_rfl))); refine XReg.doneN (fun X => ?_))
            go_wp2
            go_ret
            exact ⟨ret_bool HN.out.symm, (by repeat (first | exact Ext.refl _ | apply Ext.plus | apply Ext.alloc | apply Ext.drew))⟩
        · have HY := Lib.hid (HE2.out (hasT_no fun j hj => by
            have hj2 : j < k := by simp at hj; omega
            simp only [List.getElem_take]
            exact HM.out j (by omega) (by omega)))
          go_wp2
          exact ⟨⟨k + 1, by omega, by go_num, (by repeat (first | exact Ext.refl _ | apply Ext.plus | apply Ext.alloc | apply Ext.drew)), Lib.hid (fun j hjk => by
            by_cases e : j < k
            · exact HH.out j e
            · obtain rfl : j = k := by omega
              exact HY.out)⟩, by simp [intOf]; omega⟩
    · have HY := Lib.hid (chansR_yes (l := l) (fun i hi => HH.out i (by omega)))
      go_wp2
      go_ret
      exact ⟨ret_bool (by rw [HY.out]; simp; omega), (by repeat (first | exact Ext.refl _ | apply Ext.plus | apply Ext.alloc | apply Ext.drew))⟩
end Go.Proofs.Ytocadhcggkbimaa

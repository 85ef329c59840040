/- The reference's pairs and quotas of a configuration. -/
import Derived.Test.YtkekfncgpbileaaCG2
import Derived.Test.YtkekfncgpbileaaC1
import Derived.Test.YtkekfncgpbileaaZ1
import Derived.Test.YtkekfncgpbileaaCG4
set_option maxRecDepth 100000
set_option linter.unusedVariables false
namespace Go.Proofs.Ytkekfncgpbileaa
open Go.RowKit Go.Fin1
theorem hasL_ok {ls : List Lab} (hls : ∀ x ∈ ls, labR x = true) {x : Lab} (h : hasL ls x = true) : (0 ≤ x.lv ∧ x.lv ≤ 3) ∧ 0 ≤ x.st ∧ x.st ≤ 7 := by
  have h1 := hls x (hasL_mem.1 h)
  unfold labR at h1
  rw [Bool.and_eq_true, isIn_iff, isIn_iff] at h1
  exact h1
set_option maxHeartbeats 400000 in
theorem l09Ord_any (a b : Int) (w : World) (h1 : 0 ≤ a ∧ a ≤ 3) (h2 : 0 ≤ b ∧ b ≤ 7) :
    Calls Try.prog 147 #[.agg #[(.int .i64 a), (.int .i64 b)]] w fun e w' => e = .returned (.int .i64 (8 * a + b)) ∧ Ext w w' := by
  have e1 : wrap64 (8 * a) = 8 * a := by unfold wrap64; omega
  have e2 : wrap64 (8 * a + b) = 8 * a + b := by unfold wrap64; omega
  clear h1 h2
  go_enter Try.func147, Try.ntmps147
  go_wp2
  go_ret
  exact ⟨ret_int e2, (by repeat (first | exact Ext.refl _ | apply Ext.plus | apply Ext.alloc | apply Ext.drew))⟩
set_option maxHeartbeats 3200000 in
theorem l09Quotas_any (ls : List Lab) (l : List Quo) (v lv : Value) (w : World) (h : SlR w 3 rQuo v l) (hls : SlR w 2 rLab lv ls) (hlr : ∀ x ∈ ls, labR x = true) (h8 : ls.length ≤ 8) :
    Calls Try.prog 113 #[lv, v] w fun e w' => e = .returned (.bool (qusR ls l)) ∧ Ext w w' := by
  obtain ⟨a3, c3, rfl⟩ := h.len
  obtain ⟨-, hlc, hcm⟩ := slr_len h
  have hlm : l.length ≤ 9223372036854775807 := by unfold maxLen at hcm; omega
  have H3 := Lib.hid h
  have HL := Lib.hid hls
  have HR := Lib.hid hlr
  obtain ⟨al, kl, rfl⟩ := hls.len
  clear h hls hlc hcm hlr
  by_cases hl8 : l.length ≤ 8
  · have hb8 : decide ((8 : Int) < (l.length : Int)) = false := decide_eq_false (by omega)
    go_enter Try.func113, Try.ntmps113
    go_wp2
    go_loopw [5] (fun i wr => ∃ k : Nat, k ≤ l.length ∧ i = .int .i64 k ∧ Ext w wr ∧ Hid (∀ j, j < k → quAt ls l j = true)) (fun i _ => l.length - (intOf i).toNat)
    case atStart => exact ⟨0, Nat.zero_le _, rfl, (by repeat (first | exact Ext.refl _ | apply Ext.plus | apply Ext.alloc | apply Ext.drew)), Lib.hid (fun j h => absurd h (Nat.not_lt_zero _))⟩
    case round =>
      obtain ⟨k, hk, rfl, ⟨X, rfl⟩, HH⟩ := hrel
      by_cases hlt : k < l.length
      · obtain ⟨b, off, rfl⟩ := slr_some H3.out hlt
        obtain ⟨ho, hok, h0, h1, h2⟩ := quo_at H3.out hlt
        have HE := Lib.hid (quAt_eq (ls := ls) hlt)
        go_upto_region 6 with fail
        cases r1 : hasL ls ⟨l[k].l.lv, l[k].l.st⟩
        · have HN := Lib.hid (qusR_no (ls := ls) hlt (by rw [HE.out, show hasL ls l[k].l = false from r1]; rfl))
          clear HE
          (refine wp_region_x 37 (by kernel_rfl) (by kernel_rfl) (by kernel_rfl) ?_; (iterate 37 (apply XReg.step; (case h => (intro w' hw'; obtain ⟨X', rfl⟩ := hw'; go_wp2_with ((first | (go_at_call 125; refine (l05Cleared_any _ ls _ _ (HL.out.ext rLab_stable (by repeat (first | exact Ext.refl _ | apply Ext.plus | apply Ext.alloc | apply Ext.drew)))).mono ?_; rintro e _ ⟨rfl, Y, rfl⟩; rw [r1]) | (go_at_call 63; refine (l02Is_any _ _ _ _).mono ?_; rintro e _ ⟨rfl, rfl⟩; rw [r2]) | (go_at_call 147; refine (l09Ord_any _ _ _ ?_ ?_).mono ?_; (first | exact HB1.out.1 | exact HB2.out.1); (first | exact HB1.out.2 | exact HB2.out.2); rintro e _ ⟨rfl, Y, rfl⟩))); exact ⟨rfl, (by repeat (first | exact Ext.refl _ | apply Ext.plus | apply Ext.alloc | apply Ext.drew))⟩)); (case hv => kernel_rfl))); refine XReg.doneN (fun X => ?_))
          go_wp2
          go_ret
          exact ⟨ret_bool HN.out.symm, (by repeat (first | exact Ext.refl _ | apply Ext.plus | apply Ext.alloc | apply Ext.drew))⟩
        cases r2 : isIn l[k].most 1 9
        · have HN := Lib.hid (qusR_no (ls := ls) hlt (by rw [HE.out, r2]; simp))
          clear HE
          (refine wp_region_x 37 (by kernel_rfl) (by kernel_rfl) (by kernel_rfl) ?_; (iterate 37 (apply XReg.step; (case h => (intro w' hw'; obtain ⟨X', rfl⟩ := hw'; go_wp2_with ((first | (go_at_call 125; refine (l05Cleared_any _ ls _ _ (HL.out.ext rLab_stable (by repeat (first | exact Ext.refl _ | apply Ext.plus | apply Ext.alloc | apply Ext.drew)))).mono ?_; rintro e _ ⟨rfl, Y, rfl⟩; rw [r1]) | (go_at_call 63; refine (l02Is_any _ _ _ _).mono ?_; rintro e _ ⟨rfl, rfl⟩; rw [r2]) | (go_at_call 147; refine (l09Ord_any _ _ _ ?_ ?_).mono ?_; (first | exact HB1.out.1 | exact HB2.out.1); (first | exact HB1.out.2 | exact HB2.out.2); rintro e _ ⟨rfl, Y, rfl⟩))); exact ⟨rfl, (by repeat (first | exact Ext.refl _ | apply Ext.plus | apply Ext.alloc | apply Ext.drew))⟩)); (case hv => kernel_rfl))); refine XReg.doneN (fun X => ?_))
          go_wp2
          go_ret
          exact ⟨ret_bool HN.out.symm, (by repeat (first | exact Ext.refl _ | apply Ext.plus | apply Ext.alloc | apply Ext.drew))⟩
        have HB1 := Lib.hid (hasL_ok HR.out (show hasL ls l[k].l = true from r1))
        by_cases hk0 : 0 < k
        · have hkb : decide ((0 : Int) < (k : Int)) = true := decide_eq_true (by omega)
          obtain ⟨-, -, d0, d1, d2⟩ := quo_at H3.out (show k - 1 < l.length by omega)
          have hin : IntKind.i64.wrap ((k : Int) - 1) = (k : Int) - 1 := IntWalk.i64_in _ (by omega)
          have hprev := HH.out (k - 1) (by omega)
          rw [quAt_eq (show k - 1 < l.length by omega)] at hprev
          simp only [Bool.and_eq_true] at hprev
          have HB2 := Lib.hid (hasL_ok HR.out hprev.1.1)
          clear hprev
          have HCM : Hid (cmpL l[k - 1].l l[k].l < 0 ↔ 8 * l[k - 1].l.lv + l[k - 1].l.st < 8 * l[k].l.lv + l[k].l.st) := Lib.hid (by
            rw [cmpL_lt]; have e1 := HB1.out; have e2 := HB2.out; omega)
          cases r3 : decide (8 * l[k].l.lv + l[k].l.st ≤ 8 * l[k - 1].l.lv + l[k - 1].l.st)
          · have HY : Hid (quAt ls l k = true) := Lib.hid (by rw [HE.out, show hasL ls l[k].l = true from r1, r2, decide_eq_true (HCM.out.2 (by have := of_decide_eq_false r3; omega))]; simp)
            clear HE
            (refine wp_region_x 37 (by kernel_rfl) (by kernel_rfl) (by kernel_rfl) ?_; (iterate 37 (apply XReg.step; (case h => (intro w' hw'; obtain ⟨X', rfl⟩ := hw'; go_wp2_with ((first | (go_at_call 125; refine (l05Cleared_any _ ls _ _ (HL.out.ext rLab_stable (by repeat (first | exact Ext.refl _ | apply Ext.plus | apply Ext.alloc | apply Ext.drew)))).mono ?_; rintro e _ ⟨rfl, Y, rfl⟩; rw [r1]) | (go_at_call 63; refine (l02Is_any _ _ _ _).mono ?_; rintro e _ ⟨rfl, rfl⟩; rw [r2]) | (go_at_call 147; refine (l09Ord_any _ _ _ ?_ ?_).mono ?_; (first | exact HB1.out.1 | exact HB2.out.1); (first | exact HB1.out.2 | exact HB2.out.2); rintro e _ ⟨rfl, Y, rfl⟩))); exact ⟨rfl, (by repeat (first | exact Ext.refl _ | apply Ext.plus | apply Ext.alloc | apply Ext.drew))⟩)); (case hv => kernel_rfl))); refine XReg.doneN (fun X => ?_))
            go_wp2
            exact ⟨⟨k + 1, by omega, by go_num, (by repeat (first | exact Ext.refl _ | apply Ext.plus | apply Ext.alloc | apply Ext.drew)), Lib.hid (fun j hj => by
              by_cases e : j < k
              · exact HH.out j e
              · obtain rfl : j = k := by omega
                exact HY.out)⟩, by simp [intOf]; omega⟩
          · have r3' : ¬ cmpL l[k - 1].l l[k].l < 0 := fun h => by have := HCM.out.1 h; have := of_decide_eq_true r3; omega
            have HN := Lib.hid (qusR_no (ls := ls) hlt (by rw [HE.out, show hasL ls l[k].l = true from r1, r2, decide_eq_false (show ¬ k = 0 by omega), decide_eq_false r3']; rfl))
            clear r3'
            clear HE
            (refine wp_region_x 37 (by kernel_rfl) (by kernel_rfl) (by kernel_rfl) ?_; (iterate 37 (apply XReg.step; (case h => (intro w' hw'; obtain ⟨X', rfl⟩ := hw'; go_wp2_with ((first | (go_at_call 125; refine (l05Cleared_any _ ls _ _ (HL.out.ext rLab_stable (by repeat (first | exact Ext.refl _ | apply Ext.plus | apply Ext.alloc | apply Ext.drew)))).mono ?_; rintro e _ ⟨rfl, Y, rfl⟩; rw [r1]) | (go_at_call 63; refine (l02Is_any _ _ _ _).mono ?_; rintro e _ ⟨rfl, rfl⟩; rw [r2]) | (go_at_call 147; refine (l09Ord_any _ _ _ ?_ ?_).mono ?_; (first | exact HB1.out.1 | exact HB2.out.1); (first | exact HB1.out.2 | exact HB2.out.2); rintro e _ ⟨rfl, Y, rfl⟩))); exact ⟨rfl, (by repeat (first | exact Ext.refl _ | apply Ext.plus | apply Ext.alloc | apply Ext.drew))⟩)); (case hv => kernel_rfl))); refine XReg.doneN (fun X => ?_))
            go_wp2
            go_ret
            exact ⟨ret_bool HN.out.symm, (by repeat (first | exact Ext.refl _ | apply Ext.plus | apply Ext.alloc | apply Ext.drew))⟩
        · have hkb : decide ((0 : Int) < (k : Int)) = false := decide_eq_false (by omega)
          have HB2 := HB1
          have HY : Hid (quAt ls l k = true) := Lib.hid (by rw [HE.out, show hasL ls l[k].l = true from r1, r2, decide_eq_true (show k = 0 by omega)]; rfl)
          clear HE
          (refine wp_region_x 37 (by kernel_rfl) (by kernel_rfl) (by kernel_rfl) ?_; (iterate 37 (apply XReg.step; (case h => (intro w' hw'; obtain ⟨X', rfl⟩ := hw'; go_wp2_with ((first | (go_at_call 125; refine (l05Cleared_any _ ls _ _ (HL.out.ext rLab_stable (by repeat (first | exact Ext.refl _ | apply Ext.plus | apply Ext.alloc | apply Ext.drew)))).mono ?_; rintro e _ ⟨rfl, Y, rfl⟩; rw [r1]) | (go_at_call 63; refine (l02Is_any _ _ _ _).mono ?_; rintro e _ ⟨rfl, rfl⟩; rw [r2]) | (go_at_call 147; refine (l09Ord_any _ _ _ ?_ ?_).mono ?_; (first | exact HB1.out.1 | exact HB2.out.1); (first | exact HB1.out.2 | exact HB2.out.2); rintro e _ ⟨rfl, Y, rfl⟩))); exact ⟨rfl, (by repeat (first | exact Ext.refl _ | apply Ext.plus | apply Ext.alloc | apply Ext.drew))⟩)); (case hv => kernel_rfl))); refine XReg.doneN (fun X => ?_))
          go_wp2
          exact ⟨⟨k + 1, by omega, by go_num, (by repeat (first | exact Ext.refl _ | apply Ext.plus | apply Ext.alloc | apply Ext.drew)), Lib.hid (fun j hj => by
            by_cases e : j < k
            · exact HH.out j e
            · obtain rfl : j = k := by omega
              exact HY.out)⟩, by simp [intOf]; omega⟩
      · obtain rfl : k = l.length := by omega
        have HA := Lib.hid (qusR_yes HH.out)
        go_wp2
        go_ret
        exact ⟨ret_bool HA.out.symm, (by repeat (first | exact Ext.refl _ | apply Ext.plus | apply Ext.alloc | apply Ext.drew))⟩
  · have hb8 : decide ((8 : Int) < (l.length : Int)) = true := decide_eq_true (by omega)
    have HN := Lib.hid (qusR_len (ls := ls) (l := l) (by omega))
    go_enter Try.func113, Try.ntmps113
    go_wp2
    go_ret
    exact ⟨ret_bool HN.out.symm, (by repeat (first | exact Ext.refl _ | apply Ext.plus | apply Ext.alloc | apply Ext.drew))⟩
theorem anyTake_step {l : List Prr} {m : Nat} (hm : m < l.length) (p : Prr → Bool) : (l.take (m + 1)).any p = ((l.take m).any p || p l[m]) := by
  rw [List.take_succ_eq_append_getElem hm, List.any_append]; simp
theorem anyTake_yes {l : List Prr} {m k : Nat} (hm : m < k) (hk : k < l.length) (p : Prr → Bool) (h : p l[m] = true) : (l.take k).any p = true :=
  List.any_eq_true.2 ⟨l[m], List.mem_take_iff_getElem.2 ⟨m, by omega, rfl⟩, h⟩
set_option maxHeartbeats 3200000 in
theorem l09Pairs_any (ls : List Lab) (l : List Prr) (v lv : Value) (w : World) (h : SlR w 5 rPrr v l) (hls : SlR w 2 rLab lv ls) :
    Calls Try.prog 112 #[lv, v] w fun e w' => e = .returned (.bool (prsR ls l)) ∧ Ext w w' := by
  obtain ⟨a3, c3, rfl⟩ := h.len
  obtain ⟨-, hlc, hcm⟩ := slr_len h
  have hlm : l.length ≤ 9223372036854775807 := by unfold maxLen at hcm; omega
  have H2 := Lib.hid h
  have HL := Lib.hid hls
  obtain ⟨al, kl, rfl⟩ := hls.len
  clear h hls hlc hcm
  by_cases hl4 : l.length ≤ 4
  · have hb4 : decide ((4 : Int) < (l.length : Int)) = false := decide_eq_false (by omega)
    have H4 := Lib.hid hl4
    go_enter Try.func112, Try.ntmps112
    go_wp2
    go_loopw [5] (fun i wr => ∃ k : Nat, k ≤ l.length ∧ i = .int .i64 k ∧ Ext w wr ∧ Hid (∀ j, j < k → prAt ls l j = true)) (fun i _ => l.length - (intOf i).toNat)
    case atStart => exact ⟨0, Nat.zero_le _, rfl, (by repeat (first | exact Ext.refl _ | apply Ext.plus | apply Ext.alloc | apply Ext.drew)), Lib.hid (fun j h => absurd h (Nat.not_lt_zero _))⟩
    case round =>
      obtain ⟨k, hk, rfl, ⟨X, rfl⟩, HH⟩ := hrel
      by_cases hlt : k < l.length
      · obtain ⟨b, off, rfl⟩ := slr_some H2.out hlt
        obtain ⟨ho, hok, h0, h1, h2, h3, h4⟩ := prr_at H2.out hlt
        have HE := Lib.hid (prAt_eq (ls := ls) hlt)
        cases r1 : hasL ls l[k].a
        · have HN := Lib.hid (prsR_no hlt (by rw [HE.out, r1]; simp))
          go_wp2_with (first | (go_at_call 125; refine (l05Cleared_any _ ls _ _ (HL.out.ext rLab_stable (by repeat (first | exact Ext.refl _ | apply Ext.plus | apply Ext.alloc | apply Ext.drew)))).mono ?_; rintro e _ ⟨rfl, Y, rfl⟩; first | rw [r1] | rw [r2]) | (go_at_call 63; refine (l02Is_any _ _ _ _).mono ?_; rintro e _ ⟨rfl, rfl⟩; rw [r4]) | (go_at_call 100; refine (specbelow_any _ _ _ _ _).mono ?_; rintro e _ ⟨rfl, Y, rfl⟩; rw [show blw ⟨l[k].a.lv, l[k].a.st⟩ ⟨l[k].b.lv, l[k].b.st⟩ = blw l[k].a l[k].b from rfl, r3]))
          go_ret
          exact ⟨ret_bool HN.out.symm, (by repeat (first | exact Ext.refl _ | apply Ext.plus | apply Ext.alloc | apply Ext.drew))⟩
        cases r2 : hasL ls l[k].b
        · have HN := Lib.hid (prsR_no hlt (by rw [HE.out, r2]; simp))
          go_wp2_with (first | (go_at_call 125; refine (l05Cleared_any _ ls _ _ (HL.out.ext rLab_stable (by repeat (first | exact Ext.refl _ | apply Ext.plus | apply Ext.alloc | apply Ext.drew)))).mono ?_; rintro e _ ⟨rfl, Y, rfl⟩; first | rw [r1] | rw [r2]) | (go_at_call 63; refine (l02Is_any _ _ _ _).mono ?_; rintro e _ ⟨rfl, rfl⟩; rw [r4]) | (go_at_call 100; refine (specbelow_any _ _ _ _ _).mono ?_; rintro e _ ⟨rfl, Y, rfl⟩; rw [show blw ⟨l[k].a.lv, l[k].a.st⟩ ⟨l[k].b.lv, l[k].b.st⟩ = blw l[k].a l[k].b from rfl, r3]))
          go_ret
          exact ⟨ret_bool HN.out.symm, (by repeat (first | exact Ext.refl _ | apply Ext.plus | apply Ext.alloc | apply Ext.drew))⟩
        cases r3 : blw l[k].a l[k].b
        case true =>
          have HN := Lib.hid (prsR_no hlt (by rw [HE.out, r3]; simp))
          go_wp2_with (first | (go_at_call 125; refine (l05Cleared_any _ ls _ _ (HL.out.ext rLab_stable (by repeat (first | exact Ext.refl _ | apply Ext.plus | apply Ext.alloc | apply Ext.drew)))).mono ?_; rintro e _ ⟨rfl, Y, rfl⟩; first | rw [r1] | rw [r2]) | (go_at_call 63; refine (l02Is_any _ _ _ _).mono ?_; rintro e _ ⟨rfl, rfl⟩; rw [r4]) | (go_at_call 100; refine (specbelow_any _ _ _ _ _).mono ?_; rintro e _ ⟨rfl, Y, rfl⟩; rw [show blw ⟨l[k].a.lv, l[k].a.st⟩ ⟨l[k].b.lv, l[k].b.st⟩ = blw l[k].a l[k].b from rfl, r3]))
          go_ret
          exact ⟨ret_bool HN.out.symm, (by repeat (first | exact Ext.refl _ | apply Ext.plus | apply Ext.alloc | apply Ext.drew))⟩
        cases r4 : isIn l[k].rate 1 3
        · have HN := Lib.hid (prsR_no hlt (by rw [HE.out, r4]; simp))
          go_wp2_with (first | (go_at_call 125; refine (l05Cleared_any _ ls _ _ (HL.out.ext rLab_stable (by repeat (first | exact Ext.refl _ | apply Ext.plus | apply Ext.alloc | apply Ext.drew)))).mono ?_; rintro e _ ⟨rfl, Y, rfl⟩; first | rw [r1] | rw [r2]) | (go_at_call 63; refine (l02Is_any _ _ _ _).mono ?_; rintro e _ ⟨rfl, rfl⟩; rw [r4]) | (go_at_call 100; refine (specbelow_any _ _ _ _ _).mono ?_; rintro e _ ⟨rfl, Y, rfl⟩; rw [show blw ⟨l[k].a.lv, l[k].a.st⟩ ⟨l[k].b.lv, l[k].b.st⟩ = blw l[k].a l[k].b from rfl, r3]))
          go_ret
          exact ⟨ret_bool HN.out.symm, (by repeat (first | exact Ext.refl _ | apply Ext.plus | apply Ext.alloc | apply Ext.drew))⟩
        go_wp2_with (first | (go_at_call 125; refine (l05Cleared_any _ ls _ _ (HL.out.ext rLab_stable (by repeat (first | exact Ext.refl _ | apply Ext.plus | apply Ext.alloc | apply Ext.drew)))).mono ?_; rintro e _ ⟨rfl, Y, rfl⟩; first | rw [r1] | rw [r2]) | (go_at_call 63; refine (l02Is_any _ _ _ _).mono ?_; rintro e _ ⟨rfl, rfl⟩; rw [r4]) | (go_at_call 100; refine (specbelow_any _ _ _ _ _).mono ?_; rintro e _ ⟨rfl, Y, rfl⟩; rw [show blw ⟨l[k].a.lv, l[k].a.st⟩ ⟨l[k].b.lv, l[k].b.st⟩ = blw l[k].a l[k].b from rfl, r3]))
        go_upto_region 9 with fail
        refine gen_world (fun W hW => ?_)
        have q := CellsAt.fresh9 (w.plus X) #[(.int .i64 l[k].a.lv), (.int .i64 l[k].a.st), (.int .i64 l[k].b.lv), (.int .i64 l[k].b.st), (.int .i64 l[k].rate)] 142
        simp only [World.size_plus] at q
        have hEW : Ext ((w.plus X).alloc (.cells #[(.int .i64 l[k].a.lv), (.int .i64 l[k].a.st), (.int .i64 l[k].b.lv), (.int .i64 l[k].b.st), (.int .i64 l[k].rate)] 142)) W := by rw [hW]; exact (by repeat (first | exact Ext.refl _ | apply Ext.plus | apply Ext.alloc | apply Ext.drew))
        have HB := Lib.hid (q.ext hEW)
        have HEW : Hid (Ext w W) := Lib.hid ((((Ext.refl w).plus X).alloc _).trans hEW)
        have H2W := Lib.hid (H2.out.ext rPrr_stable HEW.out)
        clear hW q hEW h0 h1 h2 h3 h4 ho
        have b0 := HB.out 0 _ rfl
        have b1 := HB.out 1 _ rfl
        have b2 := HB.out 2 _ rfl
        have b3 := HB.out 3 _ rfl
        have hob := World.old_of_cell b0
        go_loopw [7] (fun i wr => ∃ m : Nat, m ≤ k ∧ i = .int .i64 m ∧ Ext W wr ∧ Hid ((l.take m).any (fun y => samePr l[k] y) = false)) (fun i _ => k - (intOf i).toNat)
        case atStart => exact ⟨0, Nat.zero_le _, rfl, Ext.refl _, Lib.hid rfl⟩
        case round =>
          obtain ⟨m, hm, rfl, ⟨Y, rfl⟩, HM⟩ := hrel
          by_cases hmk : m < k
          · have hml : m < l.length := by omega
            have hmb : decide ((m : Int) < (k : Int)) = true := decide_eq_true (by omega)
            obtain ⟨ho', hok', g0, g1, g2, g3, g4⟩ := prr_at H2W.out hml
            have HA := Lib.hid (anyTake_step hml (fun y => samePr l[k] y))
            have HV : Hid (samePr l[k] l[m] = (sameL ⟨l[m].a.lv, l[m].a.st⟩ ⟨l[k].a.lv, l[k].a.st⟩ && sameL ⟨l[m].b.lv, l[m].b.st⟩ ⟨l[k].b.lv, l[k].b.st⟩)) := Lib.hid (by unfold samePr; rw [sameL_comm l[k].a, sameL_comm l[k].b])
            go_upto_region 12 with fail
            cases q1 : sameL ⟨l[m].a.lv, l[m].a.st⟩ ⟨l[k].a.lv, l[k].a.st⟩
            · have HS : Hid ((l.take (m + 1)).any (fun y => samePr l[k] y) = false) := Lib.hid (by rw [HA.out, HM.out, HV.out, q1]; rfl)
              clear HV HA
              (refine wp_region_x 18 (by kernel_rfl) (by kernel_rfl) (by kernel_rfl) ?_; (iterate 18 (apply XReg.step; (case h => (intro w' hw'; obtain ⟨X', rfl⟩ := hw'; go_wp2_with (fail); exact ⟨rfl, (by repeat (first | exact Ext.refl _ | apply Ext.plus | apply Ext.alloc | apply Ext.drew))⟩)); (case hv => kernel_rfl))); refine XReg.doneN (fun X => ?_))
              go_wp2
              exact ⟨⟨m + 1, by omega, by go_num, (by repeat (first | exact Ext.refl _ | apply Ext.plus | apply Ext.alloc | apply Ext.drew)), HS⟩, by simp [intOf]; omega⟩
            cases q2 : sameL ⟨l[m].b.lv, l[m].b.st⟩ ⟨l[k].b.lv, l[k].b.st⟩
            · have HS : Hid ((l.take (m + 1)).any (fun y => samePr l[k] y) = false) := Lib.hid (by rw [HA.out, HM.out, HV.out, q1, q2]; rfl)
              clear HV HA
              (refine wp_region_x 18 (by kernel_rfl) (by kernel_rfl) (by kernel_rfl) ?_; (iterate 18 (apply XReg.step; (case h => (intro w' hw'; obtain ⟨X', rfl⟩ := hw'; go_wp2_with (fail); exact ⟨rfl, (by repeat (first | exact Ext.refl _ | apply Ext.plus | apply Ext.alloc | apply Ext.drew))⟩)); (case hv => kernel_rfl))); refine XReg.doneN (fun X => ?_))
              go_wp2
              exact ⟨⟨m + 1, by omega, by go_num, (by repeat (first | exact Ext.refl _ | apply Ext.plus | apply Ext.alloc | apply Ext.drew)), HS⟩, by simp [intOf]; omega⟩
            · have HN := Lib.hid (prsR_no hlt (by rw [HE.out, anyTake_yes hmk hlt (fun y => samePr l[k] y) (by rw [HV.out, q1, q2]; rfl)]; rfl))
              clear HV HA
              (refine wp_region_x 18 (by kernel_rfl) (by kernel_rfl) (by kernel_rfl) ?_; (iterate 18 (apply XReg.step; (case h => (intro w' hw'; obtain ⟨X', rfl⟩ := hw'; go_wp2_with (fail); exact ⟨rfl, (by repeat (first | exact Ext.refl _ | apply Ext.plus | apply Ext.alloc | apply Ext.drew))⟩)); (case hv => kernel_rfl))); refine XReg.doneN (fun X => ?_))
              go_wp2
              go_ret
              exact ⟨ret_bool HN.out.symm, HEW.out.trans (by repeat (first | exact Ext.refl _ | apply Ext.plus | apply Ext.alloc | apply Ext.drew))⟩
          · obtain rfl : m = k := by omega
            have HY : Hid (prAt ls l m = true) := Lib.hid (by rw [HE.out, HM.out, r1, r2, r3, r4]; rfl)
            go_wp2
            exact ⟨⟨m + 1, by omega, by go_num, HEW.out.trans (by repeat (first | exact Ext.refl _ | apply Ext.plus | apply Ext.alloc | apply Ext.drew)), Lib.hid (fun j hj => by
              by_cases e : j < m
              · exact HH.out j e
              · obtain rfl : j = m := by omega
                exact HY.out)⟩, by simp [intOf]; omega⟩
      · obtain rfl : k = l.length := by omega
        have HA := Lib.hid (prsR_yes H4.out HH.out)
        go_wp2
        go_ret
        exact ⟨ret_bool HA.out.symm, (by repeat (first | exact Ext.refl _ | apply Ext.plus | apply Ext.alloc | apply Ext.drew))⟩
  · have hb4 : decide ((4 : Int) < (l.length : Int)) = true := decide_eq_true (by omega)
    have HN := Lib.hid (prsR_len (ls := ls) hl4)
    go_enter Try.func112, Try.ntmps112
    go_wp2
    go_ret
    exact ⟨ret_bool HN.out.symm, (by repeat (first | exact Ext.refl _ | apply Ext.plus | apply Ext.alloc | apply Ext.drew))⟩
end Go.Proofs.Ytkekfncgpbileaa

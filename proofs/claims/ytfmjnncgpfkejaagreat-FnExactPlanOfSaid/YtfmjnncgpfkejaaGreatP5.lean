/- The walks of Chain. -/
import Derived.Test.YtfmjnncgpfkejaaGreatP2
import Derived.Test.YtfmjnncgpfkejaaGreatP3
set_option maxRecDepth 100000
namespace Go.Proofs.YtfmjnncgpfkejaaGreat
open Go.RowKit Go.Fin1

/-- One label is another. -/
def sameL (a b : Lab) : Bool := decide (a.lv = b.lv) && decide (a.st = b.st)
/-- The step to the i-th label goes up. -/
def stepL (l : List Lab) (i : Nat) : Bool := decide (i = 0) || (blw (l.getD (i - 1) ⟨0, 0⟩) (l.getD i ⟨0, 0⟩) && !sameL (l.getD (i - 1) ⟨0, 0⟩) (l.getD i ⟨0, 0⟩))
@[irreducible] def chainR (l : List Lab) : Bool := decide (1 ≤ l.length) && decide (l.length ≤ 4) && l.all labR && (List.range l.length).all (stepL l)
theorem chainR_len {l : List Lab} (h : l.length < 1 ∨ 4 < l.length) : chainR l = false := by
  unfold chainR
  rcases h with h | h
  · rw [decide_eq_false (show ¬ 1 ≤ l.length by omega)]; rfl
  · rw [decide_eq_false (show ¬ l.length ≤ 4 by omega)]; simp
theorem chainR_all {l : List Lab} (h : l.all labR = false) : chainR l = false := by
  unfold chainR; rw [h]; simp
theorem chainR_lab {l : List Lab} {i : Nat} (hi : i < l.length) (h : labR l[i] = false) : chainR l = false :=
  chainR_all (List.all_eq_false.2 ⟨_, List.getElem_mem hi, by simp [h]⟩)
theorem chainR_step {l : List Lab} {i : Nat} (hi : i < l.length) (h : stepL l i = false) : chainR l = false := by
  unfold chainR
  rw [show (List.range l.length).all (stepL l) = false from List.all_eq_false.2 ⟨i, List.mem_range.2 hi, by simp [h]⟩]; simp
theorem chainR_yes {l : List Lab} (h1 : 1 ≤ l.length) (h4 : l.length ≤ 4) (ha : ∀ (i : Nat) (hi : i < l.length), labR l[i] = true) (hs : ∀ i, i < l.length → stepL l i = true) : chainR l = true := by
  unfold chainR
  rw [show l.all labR = true from List.all_eq_true.2 fun x hx => by obtain ⟨i, hi, rfl⟩ := List.mem_iff_getElem.1 hx; exact ha i hi,
    show (List.range l.length).all (stepL l) = true from List.all_eq_true.2 fun i hi => hs i (List.mem_range.1 hi), decide_eq_true h1, decide_eq_true h4]; rfl
theorem stepL_at {l : List Lab} {i : Nat} (h0 : 0 < i) (hi : i < l.length) : stepL l i = (blw l[i - 1] l[i] && !sameL l[i - 1] l[i]) := by
  unfold stepL
  rw [decide_eq_false (by omega), Bool.false_or]
  simp [List.getD_eq_getElem?_getD, hi, show i - 1 < l.length by omega]

set_option maxHeartbeats 400000 in
@[go_sem high] theorem equalIn_lab (w : World) (a b c d : Int) : (Op.equalIn 10000 52 (.agg #[(.int .i64 a), (.int .i64 b)]) (.agg #[(.int .i64 c), (.int .i64 d)])).run Tryz.prog w = .ok (sameL ⟨a, b⟩ ⟨c, d⟩) w := by
  unfold sameL
  by_cases q1 : a = c <;> by_cases q2 : b = d
  all_goals simp [go_sem, q1, q2, Tryz.underlying52]

set_option maxHeartbeats 400000 in
theorem chain1_any (x : Lab) (w : World) :
    Calls Tryz.prog 112 #[.agg #[(.int .i64 x.lv), (.int .i64 x.st)]] w fun e w' => e = .returned (.bool (!labR x)) ∧ Ext w w' := by
  go_enter Tryz.func112, Tryz.ntmps112
  go_wp2_with ((go_at_call 113; refine (implLabelRight_any _ _ _).mono ?_; rintro e _ ⟨rfl, X, rfl⟩))
  go_ret
  exact ⟨rfl, (by repeat (first | exact Ext.refl _ | apply Ext.plus | apply Ext.alloc | apply Ext.drew))⟩

set_option maxHeartbeats 1600000 in
theorem implChain_any (v : Value) (l : List Lab) (w : World) (h : SlR w 2 rLab v l) :
    Calls Tryz.prog 86 #[v] w fun e w' => e = .returned (.bool (chainR l)) ∧ Ext w w' := by
  obtain ⟨a, cap, rfl⟩ := h.len
  obtain ⟨_, hlc, hcm⟩ := slr_len h
  have hlm : l.length ≤ 9223372036854775807 := by unfold maxLen at hcm; omega
  clear hcm hlc
  have HS := Lib.hid h
  have hh := hmf
  clear h
  by_cases h1 : l.length < 1
  · have hb : decide ((l.length : Int) < 1) = true := decide_eq_true (by omega)
    have H := Lib.hid (chainR_len (.inl h1))
    go_enter Tryz.func86, Tryz.ntmps86
    go_wp2
    go_ret
    exact ⟨ret_bool H.out.symm, (by repeat (first | exact Ext.refl _ | apply Ext.plus | apply Ext.alloc | apply Ext.drew))⟩
  have hb : decide ((l.length : Int) < 1) = false := decide_eq_false (by omega)
  by_cases h4 : 4 < l.length
  · have hb4 : decide ((4 : Int) < l.length) = true := decide_eq_true (by omega)
    have H := Lib.hid (chainR_len (.inr h4))
    go_enter Tryz.func86, Tryz.ntmps86
    go_wp2
    go_ret
    exact ⟨ret_bool H.out.symm, (by repeat (first | exact Ext.refl _ | apply Ext.plus | apply Ext.alloc | apply Ext.drew))⟩
  have hb4 : decide ((4 : Int) < l.length) = false := decide_eq_false (by omega)
  go_enter Tryz.func86, Tryz.ntmps86
  go_wp2_with fail
  refine (containsFuncLab_any 112 #[] (fun x => !labR x) _ l _ HS.out (fun _ _ => rfl) ?_).mono ?_
  · rintro W x _
    exact chain1_any x W
  rintro e _ ⟨rfl, X, rfl⟩
  cases hany : l.any (fun x => !labR x)
  · have HA : Hid (∀ (i : Nat) (hi : i < l.length), labR l[i] = true) := Lib.hid fun i hi => by
      rw [List.any_eq_false] at hany
      simpa using hany _ (List.getElem_mem hi)
    clear hany
    go_wp2
    go_loopw [3] (fun i wr => ∃ k : Nat, 1 ≤ k ∧ k ≤ l.length ∧ i = .int .i64 k ∧ Ext w wr ∧ Hid (∀ j, j < k → stepL l j = true)) (fun i _ => l.length - (intOf i).toNat)
    case atStart => exact ⟨1, Nat.le_refl _, by omega, rfl, (by repeat (first | exact Ext.refl _ | apply Ext.plus | apply Ext.alloc | apply Ext.drew)), Lib.hid (fun j h => by rw [show j = 0 by omega]; rfl)⟩
    case round =>
      obtain ⟨k, hk1, hk, rfl, ⟨Y, rfl⟩, HH⟩ := hrel
      by_cases hlt : k < l.length
      · obtain ⟨b, off, rfl⟩ := slr_some HS.out hlt
        obtain ⟨ho, hok, h0, h1⟩ := lab_at HS.out hlt
        obtain ⟨_, hok', h0', h1'⟩ := lab_at HS.out (show k - 1 < l.length by omega)
        have hs := Lib.hid (stepL_at (l := l) (i := k) (by omega) hlt)
        have hin : IntKind.i64.wrap ((k : Int) - 1) = (k : Int) - 1 := IntWalk.i64_in _ (by omega)
        go_upto_region 6 with fail
        cases q : sameL l[k - 1] l[k]
        · cases qb : blw ⟨l[k - 1].lv, l[k - 1].st⟩ ⟨l[k].lv, l[k].st⟩
          all_goals (refine wp_region_x 23 (by kernel_rfl) (by kernel_rfl) (by kernel_rfl) ?_; (iterate 23 (apply XReg.step; (case h => (intro w' hw'; obtain ⟨X', rfl⟩ := hw'; go_wp2_with ((go_at_call 114; refine (implbelow_any _ _ _ _ _ hok'.2).mono ?_; rintro e _ ⟨rfl, X, rfl⟩)); exact ⟨rfl, (by repeat (first | exact Ext.refl _ | apply Ext.plus | apply Ext.alloc | apply Ext.drew))⟩)); (case hv => kernel_rfl))); refine XReg.doneN (fun X => ?_))
          all_goals go_wp2
          · go_ret
            exact ⟨ret_bool (chainR_step hlt (by rw [hs.out, show blw l[k - 1] l[k] = false from qb]; rfl)).symm, (by repeat (first | exact Ext.refl _ | apply Ext.plus | apply Ext.alloc | apply Ext.drew))⟩
          · have hstep : stepL l k = true := by rw [hs.out, show blw l[k - 1] l[k] = true from qb, q]; rfl
            exact ⟨⟨k + 1, by omega, by omega, by go_num, (by repeat (first | exact Ext.refl _ | apply Ext.plus | apply Ext.alloc | apply Ext.drew)), Lib.hid (fun j hj => by
              by_cases e : j < k
              · exact HH.out j e
              · obtain rfl : j = k := by omega
                exact hstep)⟩, by simp [intOf]; omega⟩
        · (refine wp_region_x 23 (by kernel_rfl) (by kernel_rfl) (by kernel_rfl) ?_; (iterate 23 (apply XReg.step; (case h => (intro w' hw'; obtain ⟨X', rfl⟩ := hw'; go_wp2_with ((go_at_call 114; refine (implbelow_any _ _ _ _ _ hok'.2).mono ?_; rintro e _ ⟨rfl, X, rfl⟩)); exact ⟨rfl, (by repeat (first | exact Ext.refl _ | apply Ext.plus | apply Ext.alloc | apply Ext.drew))⟩)); (case hv => kernel_rfl))); refine XReg.doneN (fun X => ?_))
          go_wp2
          go_ret
          exact ⟨ret_bool (chainR_step hlt (by rw [hs.out, q]; simp)).symm, (by repeat (first | exact Ext.refl _ | apply Ext.plus | apply Ext.alloc | apply Ext.drew))⟩
      · go_wp2
        go_ret
        exact ⟨ret_bool (chainR_yes (by omega) (by omega) HA.out (fun i hi => HH.out i (by omega))).symm, (by repeat (first | exact Ext.refl _ | apply Ext.plus | apply Ext.alloc | apply Ext.drew))⟩
  · have H : Hid (chainR l = false) := Lib.hid (chainR_all (by rw [← Bool.not_eq_true, List.all_eq_not_any_not, hany]; simp))
    go_wp2
    go_ret
    exact ⟨ret_bool H.out.symm, (by repeat (first | exact Ext.refl _ | apply Ext.plus | apply Ext.alloc | apply Ext.drew))⟩

set_option maxHeartbeats 3200000 in
theorem specChain_any (v : Value) (l : List Lab) (w : World) (h : SlR w 2 rLab v l) :
    Calls Tryz.prog 75 #[v] w fun e w' => e = .returned (.bool (chainR l)) ∧ Ext w w' := by
  obtain ⟨a, cap, rfl⟩ := h.len
  obtain ⟨_, hlc, hcm⟩ := slr_len h
  have hlm : l.length ≤ 9223372036854775807 := by unfold maxLen at hcm; omega
  clear hcm hlc
  have HS := Lib.hid h
  clear h
  by_cases h1 : l.length < 1
  · have hb : decide ((l.length : Int) < 1) = true := decide_eq_true (by omega)
    have H := Lib.hid (chainR_len (.inl h1))
    go_enter Tryz.func75, Tryz.ntmps75
    go_wp2
    go_ret
    exact ⟨ret_bool H.out.symm, (by repeat (first | exact Ext.refl _ | apply Ext.plus | apply Ext.alloc | apply Ext.drew))⟩
  have hb : decide ((l.length : Int) < 1) = false := decide_eq_false (by omega)
  by_cases h4 : 4 < l.length
  · have hb4 : decide ((4 : Int) < l.length) = true := decide_eq_true (by omega)
    have H := Lib.hid (chainR_len (.inr h4))
    go_enter Tryz.func75, Tryz.ntmps75
    go_wp2
    go_ret
    exact ⟨ret_bool H.out.symm, (by repeat (first | exact Ext.refl _ | apply Ext.plus | apply Ext.alloc | apply Ext.drew))⟩
  have hb4 : decide ((4 : Int) < l.length) = false := decide_eq_false (by omega)
  go_enter Tryz.func75, Tryz.ntmps75
  go_wp2
  go_loopw [3] (fun i wr => ∃ k : Nat, k ≤ l.length ∧ i = .int .i64 k ∧ Ext w wr ∧ Hid (∀ j, j < k → stepL l j = true) ∧ Hid (∀ (j : Nat) (hj : j < l.length), j < k → labR l[j] = true)) (fun i _ => l.length - (intOf i).toNat)
  case atStart => exact ⟨0, by omega, rfl, (by repeat (first | exact Ext.refl _ | apply Ext.plus | apply Ext.alloc | apply Ext.drew)), Lib.hid (fun j h => absurd h (Nat.not_lt_zero _)), Lib.hid (fun j _ h => absurd h (Nat.not_lt_zero _))⟩
  case round =>
    obtain ⟨k, hk, rfl, ⟨Y, rfl⟩, HH, HL⟩ := hrel
    by_cases hlt : k < l.length
    · obtain ⟨b, off, rfl⟩ := slr_some HS.out hlt
      obtain ⟨ho, hok, h0, h1⟩ := lab_at HS.out hlt
      go_upto_region 6 with fail
      cases ql : labR ⟨l[k].lv, l[k].st⟩
      · have H := Lib.hid (chainR_lab hlt (show labR l[k] = false from ql))
        (refine wp_region_x 35 (by kernel_rfl) (by kernel_rfl) (by kernel_rfl) ?_; (iterate 35 (apply XReg.step; (case h => (intro w' hw'; obtain ⟨X', rfl⟩ := hw'; go_wp2_with (first | (go_at_call 106; refine (specLabelRight_any _ _ _).mono ?_; rintro e _ ⟨rfl, X, rfl⟩) | (go_at_call 107; refine (specbelow_any _ _ _ _ _).mono ?_; rintro e _ ⟨rfl, X, rfl⟩)); exact ⟨rfl, (by repeat (first | exact Ext.refl _ | apply Ext.plus | apply Ext.alloc | apply Ext.drew))⟩)); (case hv => kernel_rfl))); refine XReg.doneN (fun X => ?_))
        go_wp2
        go_ret
        exact ⟨ret_bool H.out.symm, (by repeat (first | exact Ext.refl _ | apply Ext.plus | apply Ext.alloc | apply Ext.drew))⟩
      by_cases hk0 : 0 < k
      · have hkb : decide ((0 : Int) < (k : Int)) = true := decide_eq_true (by omega)
        obtain ⟨_, hok', h0', h1'⟩ := lab_at HS.out (show k - 1 < l.length by omega)
        have hs := Lib.hid (stepL_at (l := l) (i := k) (by omega) hlt)
        have hin : IntKind.i64.wrap ((k : Int) - 1) = (k : Int) - 1 := IntWalk.i64_in _ (by omega)
        cases qb : blw ⟨l[k - 1].lv, l[k - 1].st⟩ ⟨l[k].lv, l[k].st⟩
        · (refine wp_region_x 35 (by kernel_rfl) (by kernel_rfl) (by kernel_rfl) ?_; (iterate 35 (apply XReg.step; (case h => (intro w' hw'; obtain ⟨X', rfl⟩ := hw'; go_wp2_with (first | (go_at_call 106; refine (specLabelRight_any _ _ _).mono ?_; rintro e _ ⟨rfl, X, rfl⟩) | (go_at_call 107; refine (specbelow_any _ _ _ _ _).mono ?_; rintro e _ ⟨rfl, X, rfl⟩)); exact ⟨rfl, (by repeat (first | exact Ext.refl _ | apply Ext.plus | apply Ext.alloc | apply Ext.drew))⟩)); (case hv => kernel_rfl))); refine XReg.doneN (fun X => ?_))
          go_wp2
          go_ret
          exact ⟨ret_bool (chainR_step hlt (by rw [hs.out, show blw l[k - 1] l[k] = false from qb]; rfl)).symm, (by repeat (first | exact Ext.refl _ | apply Ext.plus | apply Ext.alloc | apply Ext.drew))⟩
        cases q : sameL l[k - 1] l[k]
        all_goals (refine wp_region_x 35 (by kernel_rfl) (by kernel_rfl) (by kernel_rfl) ?_; (iterate 35 (apply XReg.step; (case h => (intro w' hw'; obtain ⟨X', rfl⟩ := hw'; go_wp2_with (first | (go_at_call 106; refine (specLabelRight_any _ _ _).mono ?_; rintro e _ ⟨rfl, X, rfl⟩) | (go_at_call 107; refine (specbelow_any _ _ _ _ _).mono ?_; rintro e _ ⟨rfl, X, rfl⟩)); exact ⟨rfl, (by repeat (first | exact Ext.refl _ | apply Ext.plus | apply Ext.alloc | apply Ext.drew))⟩)); (case hv => kernel_rfl))); refine XReg.doneN (fun X => ?_))
        all_goals go_wp2
        · have hstep : stepL l k = true := by rw [hs.out, show blw l[k - 1] l[k] = true from qb, q]; rfl
          exact ⟨⟨k + 1, by omega, by go_num, (by repeat (first | exact Ext.refl _ | apply Ext.plus | apply Ext.alloc | apply Ext.drew)), Lib.hid (fun j hj => by
            by_cases e : j < k
            · exact HH.out j e
            · obtain rfl : j = k := by omega
              exact hstep), Lib.hid (fun j hjl hj => by
            by_cases e : j < k
            · exact HL.out j hjl e
            · obtain rfl : j = k := by omega
              exact ql)⟩, by simp [intOf]; omega⟩
        · go_ret
          exact ⟨ret_bool (chainR_step hlt (by rw [hs.out, q]; simp)).symm, (by repeat (first | exact Ext.refl _ | apply Ext.plus | apply Ext.alloc | apply Ext.drew))⟩
      · obtain rfl : k = 0 := by omega
        clear hk0
        simp only [Nat.zero_mul, Nat.add_zero] at h0 h1
        (refine wp_region_x 35 (by kernel_rfl) (by kernel_rfl) (by kernel_rfl) ?_; (iterate 35 (apply XReg.step; (case h => (intro w' hw'; obtain ⟨X', rfl⟩ := hw'; go_wp2_with (first | (go_at_call 106; refine (specLabelRight_any _ _ _).mono ?_; rintro e _ ⟨rfl, X, rfl⟩) | (go_at_call 107; refine (specbelow_any _ _ _ _ _).mono ?_; rintro e _ ⟨rfl, X, rfl⟩)); exact ⟨rfl, (by repeat (first | exact Ext.refl _ | apply Ext.plus | apply Ext.alloc | apply Ext.drew))⟩)); (case hv => kernel_rfl))); refine XReg.doneN (fun X => ?_))
        go_wp2
        exact ⟨⟨1, by omega, by go_num, (by repeat (first | exact Ext.refl _ | apply Ext.plus | apply Ext.alloc | apply Ext.drew)), Lib.hid (fun j hj => by rw [show j = 0 by omega]; rfl), Lib.hid (fun j hjl hj => by
            obtain rfl : j = 0 := by omega
            exact ql)⟩, by simp [intOf]; omega⟩
    · go_wp2
      go_ret
      exact ⟨ret_bool (chainR_yes (by omega) (by omega) (fun i hi => HL.out i hi (by omega)) (fun i hi => HH.out i (by omega))).symm, (by repeat (first | exact Ext.refl _ | apply Ext.plus | apply Ext.alloc | apply Ext.drew))⟩



end Go.Proofs.YtfmjnncgpfkejaaGreat

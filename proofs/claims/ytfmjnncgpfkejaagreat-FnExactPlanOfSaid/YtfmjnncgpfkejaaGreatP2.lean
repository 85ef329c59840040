/- The walks of IsFree: a predicate handed to slices.ContainsFunc. -/
import Derived.Test.YtfmjnncgpfkejaaGreatP1
set_option maxRecDepth 100000
namespace Go.Proofs.YtfmjnncgpfkejaaGreat
open Go.RowKit Go.Fin1

theorem hmf : ∀ (fn : Fn) (first cap : Array Value) (w : World), (Instr.makeFunc fn first cap).run Tryz.prog w = .ok (.func fn first cap) w := fun _ _ _ _ => rfl

/-- Where the first element lies that answers yes; -1: none does. -/
@[irreducible] def findI {α : Type} (p : α → Bool) (l : List α) : Int := if l.any p then ((l.findIdx p : Nat) : Int) else -1
theorem findI_at {α : Type} {p : α → Bool} {l : List α} {k : Nat} (hk : k < l.length) (h : ∀ (j : Nat) (hj : j < l.length), j < k → p l[j] = false) (hp : p l[k] = true) : findI p l = k := by
  unfold findI
  have h1 : l.any p = true := List.any_eq_true.2 ⟨l[k], List.getElem_mem hk, hp⟩
  have h2 : l.findIdx p = k := by
    rw [List.findIdx_eq hk]
    exact ⟨hp, fun j hj => by simpa using h j (by omega) hj⟩
  rw [if_pos h1, h2]
theorem findI_none {α : Type} {p : α → Bool} {l : List α} (h : ∀ (j : Nat) (hj : j < l.length), p l[j] = false) : findI p l = -1 := by
  unfold findI
  have h1 : l.any p = false := by
    rw [List.any_eq_false]
    intro x hx
    obtain ⟨i, hi, rfl⟩ := List.getElem_of_mem hx
    simp [h i hi]
  rw [h1]; rfl
theorem findI_nonneg {α : Type} (p : α → Bool) (l : List α) : decide (0 ≤ findI p l) = l.any p := by
  unfold findI
  cases l.any p <;> simp

set_option maxHeartbeats 800000 in
theorem isFree1_any (x : Spn) (b : Nat) (c d : Int) (w : World) (h0 : w.cell? ⟨b, 0, none⟩ = some (.int .i64 c)) (h1 : w.cell? ⟨b, 1, none⟩ = some (.int .i64 d)) :
    Calls Tryz.prog 124 #[.agg #[(.int .i64 x.f), (.int .i64 x.t)], .pointer (some ⟨b, 0, none⟩)] w fun e w' => e = .returned (.bool (!apart x ⟨c, d⟩)) ∧ Ext w w' := by
  have ho := World.old_of_cell h0
  cases q1 : decide (x.f < d) <;> cases q2 : decide (c < x.t)
  all_goals go_enter Tryz.func124, Tryz.ntmps124
  all_goals go_wp2
  all_goals go_ret
  all_goals exact ⟨ret_bool (by simp [apart, q1, q2]), (by repeat (first | exact Ext.refl _ | apply Ext.plus | apply Ext.alloc | apply Ext.drew))⟩

set_option maxHeartbeats 800000 in
theorem indexFuncSpn_any (fn : Nat) (cap : Array Value) (p : Spn → Bool) (v : Value) (l : List Spn) (w : World) (h : SlR w 2 rSpn v l)
    (hcf : ∀ args w, (callFunc fn args).run Tryz.prog w = .ok (.enter fn args) w) (Hf : ∀ W x, Ext w W → Calls Tryz.prog fn (#[.agg #[(.int .i64 x.f), (.int .i64 x.t)]] ++ cap) W fun e w' => e = .returned (.bool (p x)) ∧ Ext W w') :
    Calls Tryz.prog 143 #[v, .func (.func fn) #[] cap] w fun e w' =>
      e = .returned ((.int .i64 (findI p l))) ∧ Ext w w' := by
  obtain ⟨a, cap', rfl⟩ := h.len
  obtain ⟨_, hlc, hcm⟩ := slr_len h
  have hlm : l.length ≤ 9223372036854775807 := by unfold maxLen at hcm; omega
  clear hcm hlc
  have HS := Lib.hid h
  have HF := Lib.hid Hf
  clear h Hf
  go_enter Tryz.func143, Tryz.ntmps143
  go_wp2
  go_loopw [8, 5] (fun i _ wr => ∃ k : Nat, k ≤ l.length ∧ i = .int .i64 k ∧ Ext w wr ∧ Hid (∀ j (hj : j < l.length), j < k → p l[j] = false)) (fun i _ _ => l.length - (intOf i).toNat)
  case atStart =>
    exact ⟨0, Nat.zero_le _, rfl, Ext.refl _, Lib.hid (fun j _ h => absurd h (Nat.not_lt_zero _))⟩
  case round =>
    obtain ⟨k, hk, rfl, ⟨X, rfl⟩, HH⟩ := hrel
    by_cases hlt : k < l.length
    · obtain ⟨b, off, rfl⟩ := slr_some HS.out hlt
      obtain ⟨ho, hok, h0, h1⟩ := spn_at HS.out hlt
      go_wp2_with fail
      refine (HF.out _ l[k] (Ext.refl w |>.plus X)).mono ?_
      rintro e _ ⟨rfl, Y, rfl⟩
      cases hp : p l[k]
      · go_wp2
        exact ⟨⟨k + 1, by omega, by go_num, (by repeat (first | exact Ext.refl _ | apply Ext.plus | apply Ext.alloc | apply Ext.drew)), Lib.hid (fun j hj hjk => by
          by_cases e : j < k
          · exact HH.out j hj e
          · obtain rfl : j = k := by omega
            exact hp)⟩, by simp [intOf]; omega⟩
      · go_wp2
        go_ret
        exact ⟨ret_int (findI_at hlt HH.out hp).symm, (by repeat (first | exact Ext.refl _ | apply Ext.plus | apply Ext.alloc | apply Ext.drew))⟩
    · go_wp2
      go_ret
      exact ⟨ret_int (findI_none (fun j hj => HH.out j hj (by omega))).symm, (by repeat (first | exact Ext.refl _ | apply Ext.plus | apply Ext.alloc | apply Ext.drew))⟩

set_option maxHeartbeats 800000 in
theorem containsFuncSpn_any (fn : Nat) (cap : Array Value) (p : Spn → Bool) (v : Value) (l : List Spn) (w : World) (h : SlR w 2 rSpn v l)
    (hcf : ∀ args w, (callFunc fn args).run Tryz.prog w = .ok (.enter fn args) w) (Hf : ∀ W x, Ext w W → Calls Tryz.prog fn (#[.agg #[(.int .i64 x.f), (.int .i64 x.t)]] ++ cap) W fun e w' => e = .returned (.bool (p x)) ∧ Ext W w') :
    Calls Tryz.prog 123 #[v, .func (.func fn) #[] cap] w fun e w' => e = .returned (.bool (l.any p)) ∧ Ext w w' := by
  have HS := Lib.hid (indexFuncSpn_any fn cap p v l w h hcf Hf)
  clear h hcf Hf
  go_enter Tryz.func123, Tryz.ntmps123
  go_wp2_with fail
  refine (HS.out).mono ?_
  rintro e _ ⟨rfl, X, rfl⟩
  go_wp2
  go_ret
  exact ⟨ret_bool (findI_nonneg p l), (by repeat (first | exact Ext.refl _ | apply Ext.plus | apply Ext.alloc | apply Ext.drew))⟩

set_option maxHeartbeats 800000 in
theorem indexFuncLab_any (fn : Nat) (cap : Array Value) (p : Lab → Bool) (v : Value) (l : List Lab) (w : World) (h : SlR w 2 rLab v l)
    (hcf : ∀ args w, (callFunc fn args).run Tryz.prog w = .ok (.enter fn args) w) (Hf : ∀ W x, Ext w W → Calls Tryz.prog fn (#[.agg #[(.int .i64 x.lv), (.int .i64 x.st)]] ++ cap) W fun e w' => e = .returned (.bool (p x)) ∧ Ext W w') :
    Calls Tryz.prog 131 #[v, .func (.func fn) #[] cap] w fun e w' =>
      e = .returned ((.int .i64 (findI p l))) ∧ Ext w w' := by
  obtain ⟨a, cap', rfl⟩ := h.len
  obtain ⟨_, hlc, hcm⟩ := slr_len h
  have hlm : l.length ≤ 9223372036854775807 := by unfold maxLen at hcm; omega
  clear hcm hlc
  have HS := Lib.hid h
  have HF := Lib.hid Hf
  clear h Hf
  go_enter Tryz.func131, Tryz.ntmps131
  go_wp2
  go_loopw [8, 5] (fun i _ wr => ∃ k : Nat, k ≤ l.length ∧ i = .int .i64 k ∧ Ext w wr ∧ Hid (∀ j (hj : j < l.length), j < k → p l[j] = false)) (fun i _ _ => l.length - (intOf i).toNat)
  case atStart =>
    exact ⟨0, Nat.zero_le _, rfl, Ext.refl _, Lib.hid (fun j _ h => absurd h (Nat.not_lt_zero _))⟩
  case round =>
    obtain ⟨k, hk, rfl, ⟨X, rfl⟩, HH⟩ := hrel
    by_cases hlt : k < l.length
    · obtain ⟨b, off, rfl⟩ := slr_some HS.out hlt
      obtain ⟨ho, hok, h0, h1⟩ := lab_at HS.out hlt
      go_wp2_with fail
      refine (HF.out _ l[k] (Ext.refl w |>.plus X)).mono ?_
      rintro e _ ⟨rfl, Y, rfl⟩
      cases hp : p l[k]
      · go_wp2
        exact ⟨⟨k + 1, by omega, by go_num, (by repeat (first | exact Ext.refl _ | apply Ext.plus | apply Ext.alloc | apply Ext.drew)), Lib.hid (fun j hj hjk => by
          by_cases e : j < k
          · exact HH.out j hj e
          · obtain rfl : j = k := by omega
            exact hp)⟩, by simp [intOf]; omega⟩
      · go_wp2
        go_ret
        exact ⟨ret_int (findI_at hlt HH.out hp).symm, (by repeat (first | exact Ext.refl _ | apply Ext.plus | apply Ext.alloc | apply Ext.drew))⟩
    · go_wp2
      go_ret
      exact ⟨ret_int (findI_none (fun j hj => HH.out j hj (by omega))).symm, (by repeat (first | exact Ext.refl _ | apply Ext.plus | apply Ext.alloc | apply Ext.drew))⟩

set_option maxHeartbeats 800000 in
theorem containsFuncLab_any (fn : Nat) (cap : Array Value) (p : Lab → Bool) (v : Value) (l : List Lab) (w : World) (h : SlR w 2 rLab v l)
    (hcf : ∀ args w, (callFunc fn args).run Tryz.prog w = .ok (.enter fn args) w) (Hf : ∀ W x, Ext w W → Calls Tryz.prog fn (#[.agg #[(.int .i64 x.lv), (.int .i64 x.st)]] ++ cap) W fun e w' => e = .returned (.bool (p x)) ∧ Ext W w') :
    Calls Tryz.prog 111 #[v, .func (.func fn) #[] cap] w fun e w' => e = .returned (.bool (l.any p)) ∧ Ext w w' := by
  have HS := Lib.hid (indexFuncLab_any fn cap p v l w h hcf Hf)
  clear h hcf Hf
  go_enter Tryz.func111, Tryz.ntmps111
  go_wp2_with fail
  refine (HS.out).mono ?_
  rintro e _ ⟨rfl, X, rfl⟩
  go_wp2
  go_ret
  exact ⟨ret_bool (findI_nonneg p l), (by repeat (first | exact Ext.refl _ | apply Ext.plus | apply Ext.alloc | apply Ext.drew))⟩

set_option maxHeartbeats 800000 in
theorem implisFree_any (v : Value) (l : List Spn) (a b : Int) (w : World) (h : SlR w 2 rSpn v l) :
    Calls Tryz.prog 95 #[v, .agg #[(.int .i64 a), (.int .i64 b)]] w fun e w' => e = .returned (.bool (freeL l ⟨a, b⟩)) ∧ Ext w w' := by
  have HS := Lib.hid h
  clear h
  have hh := hmf
  go_enter Tryz.func95, Tryz.ntmps95
  go_wp2_with fail
  refine (containsFuncSpn_any _ _ (fun x => !apart x ⟨a, b⟩) v l _ (HS.out.ext rSpn_stable ((Ext.refl w).alloc _)) (fun _ _ => rfl) ?_).mono ?_
  · rintro W x ⟨X, rfl⟩
    exact isFree1_any x _ a b _ (by simp [go_sem]) (by simp [go_sem])
  · rintro e _ ⟨rfl, X, rfl⟩
    go_wp2
    go_ret
    exact ⟨ret_bool (by unfold freeL; rw [List.not_any_eq_all_not]; simp), (by repeat (first | exact Ext.refl _ | apply Ext.plus | apply Ext.alloc | apply Ext.drew))⟩

set_option maxHeartbeats 800000 in
theorem implIsFree_any (v : Value) (l : List Spn) (a b : Int) (w : World) (h : SlR w 2 rSpn v l) :
    Calls Tryz.prog 102 #[v, .agg #[(.int .i64 a), (.int .i64 b)]] w fun e w' => e = .returned (.bool (spnsOk l && spnOk ⟨a, b⟩ && freeL l ⟨a, b⟩)) ∧ Ext w w' := by
  have HS := Lib.hid h
  clear h
  cases q1 : spnsOk l <;> cases q2 : spnOk ⟨a, b⟩
  all_goals go_enter Tryz.func102, Tryz.ntmps102
  all_goals go_wp2_with (first
    | (go_at_call 128; refine (implSpansRight_any v l _ (HS.out.ext rSpn_stable (by repeat (first | exact Ext.refl _ | apply Ext.plus | apply Ext.alloc | apply Ext.drew)))).mono ?_; rintro e _ ⟨rfl, X, rfl⟩)
    | (go_at_call 127; refine (spanRight_any _ _ _).mono ?_; rintro e _ ⟨rfl, X, rfl⟩)
    | (go_at_call 95; refine (implisFree_any v l _ _ _ (HS.out.ext rSpn_stable (by repeat (first | exact Ext.refl _ | apply Ext.plus | apply Ext.alloc | apply Ext.drew)))).mono ?_; rintro e _ ⟨rfl, X, rfl⟩))
  all_goals go_ret
  all_goals exact ⟨ret_bool (by simp_all), (by repeat (first | exact Ext.refl _ | apply Ext.plus | apply Ext.alloc | apply Ext.drew))⟩

set_option maxHeartbeats 800000 in
theorem l03Free_any (v : Value) (l : List Spn) (a b : Int) (w : World) (h : SlR w 2 rSpn v l) :
    Calls Tryz.prog 80 #[v, .agg #[(.int .i64 a), (.int .i64 b)]] w fun e w' => e = .returned (.bool (freeL l ⟨a, b⟩)) ∧ Ext w w' := by
  obtain ⟨ad, cap, rfl⟩ := h.len
  obtain ⟨_, hlc, hcm⟩ := slr_len h
  have hlm : l.length ≤ 9223372036854775807 := by unfold maxLen at hcm; omega
  clear hcm hlc
  have HS := Lib.hid h
  clear h
  go_enter Tryz.func80, Tryz.ntmps80
  go_wp2
  go_loopw [5] (fun i wr => ∃ k : Nat, k ≤ l.length ∧ i = .int .i64 k ∧ Ext (w.alloc (.cells #[(.int .i64 a), (.int .i64 b)] 83)) wr ∧ Hid (∀ (j : Nat) (hj : j < l.length), j < k → apart l[j] ⟨a, b⟩ = true)) (fun i _ => l.length - (intOf i).toNat)
  case atStart =>
    exact ⟨0, Nat.zero_le _, rfl, Ext.refl _, Lib.hid (fun j _ h => absurd h (Nat.not_lt_zero _))⟩
  case round =>
    obtain ⟨k, hk, rfl, ⟨X, rfl⟩, HH⟩ := hrel
    by_cases hlt : k < l.length
    · obtain ⟨bb, off, rfl⟩ := slr_some HS.out hlt
      obtain ⟨ho, hok, h0, h1⟩ := spn_at HS.out hlt
      go_upto_region 4 with fail
      cases q1 : decide (l[k].f < b) <;> cases q2 : decide (a < l[k].t)
      all_goals (refine wp_region_x 18 (by kernel_rfl) (by kernel_rfl) (by kernel_rfl) ?_; (iterate 18 (apply XReg.step; (case h => (intro w' hw'; obtain ⟨X', rfl⟩ := hw'; go_wp2_with (fail); exact ⟨rfl, (by repeat (first | exact Ext.refl _ | apply Ext.plus | apply Ext.alloc | apply Ext.drew))⟩)); (case hv => kernel_rfl))); refine XReg.doneN (fun X => ?_))
      all_goals go_wp2
      iterate 3
        have ha : apart l[k] ⟨a, b⟩ = true := by simp [apart, q1, q2]
        exact ⟨⟨k + 1, by omega, by go_num, (by repeat (first | exact Ext.refl _ | apply Ext.plus | apply Ext.alloc | apply Ext.drew)), Lib.hid (fun j hj hjk => by
          by_cases e : j < k
          · exact HH.out j hj e
          · obtain rfl : j = k := by omega
            exact ha)⟩, by simp [intOf]; omega⟩
      go_ret
      exact ⟨ret_bool (freeL_no hlt (by simp [apart, q1, q2])).symm, (by repeat (first | exact Ext.refl _ | apply Ext.plus | apply Ext.alloc | apply Ext.drew))⟩
    · go_wp2
      go_ret
      exact ⟨ret_bool (freeL_yes (fun j hj => HH.out j hj (by omega))).symm, (by repeat (first | exact Ext.refl _ | apply Ext.plus | apply Ext.alloc | apply Ext.drew))⟩



end Go.Proofs.YtfmjnncgpfkejaaGreat

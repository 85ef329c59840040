/- The walks of SpansRight, IsFree and of what they call. -/
import Derived.Test.YtfmjnncgpfkejaaGreatBA
import Derived.Test.YtfmjnncgpfkejaaGreatBG
set_option maxRecDepth 100000
namespace Go.Proofs.YtfmjnncgpfkejaaGreat
open Go.RowKit Go.Fin1

set_option maxHeartbeats 400000 in
theorem isTime_any (a : Int) (w : World) :
    Calls Tryz.prog 115 #[(.int .i64 a)] w fun e w' => e = .returned (.bool (isIn a 0 1000000)) ∧ w = w' := by
  go_enter Tryz.func115, Tryz.ntmps115
  go_wp2_with (go_at_call 83; refine (within_any _ _ _ _).mono ?_; rintro e _ ⟨rfl, rfl⟩)
  go_ret
  exact ⟨rfl, rfl⟩

set_option maxHeartbeats 400000 in
theorem l02Time_any (a : Int) (w : World) :
    Calls Tryz.prog 108 #[(.int .i64 a)] w fun e w' => e = .returned (.bool (isIn a 0 1000000)) ∧ w = w' := by
  go_enter Tryz.func108, Tryz.ntmps108
  go_wp2_with (go_at_call 78; refine (l02Is_any _ _ _ _).mono ?_; rintro e _ ⟨rfl, rfl⟩)
  go_ret
  exact ⟨rfl, rfl⟩
/-- A valid span. -/
def spnOk (x : Spn) : Bool := isIn x.f 0 1000000 && isIn x.t 0 1000000 && decide (x.f < x.t)
theorem spnOk_iff {x : Spn} : spnOk x = true ↔ 0 ≤ x.f ∧ x.f < x.t ∧ x.t ≤ 1000000 := by
  unfold spnOk; rw [Bool.and_eq_true, Bool.and_eq_true, isIn_iff, isIn_iff, decide_eq_true_eq]; omega
set_option maxHeartbeats 400000 in
theorem spanRight_any (a b : Int) (w : World) :
    Calls Tryz.prog 127 #[.agg #[(.int .i64 a), (.int .i64 b)]] w fun e w' => e = .returned (.bool (spnOk ⟨a, b⟩)) ∧ Ext w w' := by
  go_enter Tryz.func127, Tryz.ntmps127
  go_wp2_with (go_at_call 115; refine (isTime_any _ _).mono ?_; rintro e _ ⟨rfl, rfl⟩)
  all_goals go_ret
  all_goals exact ⟨ret_bool (by simp_all [spnOk]), (by repeat (first | exact Ext.refl _ | apply Ext.plus | apply Ext.alloc | apply Ext.drew))⟩

/-- Span i of a list may follow its elder. -/
def spnAt (l : List Spn) (i : Nat) : Bool := spnOk (l.getD i ⟨0, 0⟩) && (i == 0 || decide ((l.getD (i - 1) ⟨0, 0⟩).t ≤ (l.getD i ⟨0, 0⟩).f))
@[irreducible] def spnsOk (l : List Spn) : Bool := decide (l.length ≤ 20) && (List.range l.length).all (spnAt l)
theorem spnsOk_no {l : List Spn} {i : Nat} (hi : i < l.length) (h : spnAt l i = false) : spnsOk l = false := by
  unfold spnsOk
  have : (List.range l.length).all (spnAt l) = false := by rw [List.all_eq_false]; exact ⟨i, List.mem_range.2 hi, by simp [h]⟩
  rw [this, Bool.and_false]
theorem spnsOk_long {l : List Spn} (h : 20 < l.length) : spnsOk l = false := by unfold spnsOk; rw [decide_eq_false (by omega)]; rfl
theorem spnsOk_yes {l : List Spn} (h : ∀ i, i < l.length → spnAt l i = true) : spnsOk l = decide (l.length ≤ 20) := by
  unfold spnsOk
  have : (List.range l.length).all (spnAt l) = true := by rw [List.all_eq_true]; exact fun i hi => h i (List.mem_range.1 hi)
  rw [this, Bool.and_true]
set_option maxHeartbeats 1600000 in
theorem implSpansRight_any (v : Value) (l : List Spn) (w : World) (h : SlR w 2 rSpn v l) :
    Calls Tryz.prog 128 #[v] w fun e w' => e = .returned (.bool (spnsOk l)) ∧ Ext w w' := by
  obtain ⟨a, cap, rfl⟩ := h.len
  obtain ⟨_, hlc, hcm⟩ := slr_len h
  have hlm : l.length ≤ 9223372036854775807 := by unfold maxLen at hcm; omega
  clear hcm hlc
  have HS := Lib.hid h
  clear h
  go_enter Tryz.func128, Tryz.ntmps128
  go_wp2
  go_loopw [7, 3, 4] (fun i _ _ wr => ∃ k : Nat, k ≤ l.length ∧ i = .int .i64 k ∧ Ext w wr ∧ Hid (∀ j, j < k → spnAt l j = true)) (fun i _ _ _ => l.length - (intOf i).toNat)
  case atStart =>
    exact ⟨0, Nat.zero_le _, rfl, Ext.refl _, Lib.hid (fun j h => absurd h (Nat.not_lt_zero _))⟩
  case round =>
    obtain ⟨k, hk, rfl, ⟨X, rfl⟩, HH⟩ := hrel
    by_cases hlt : k < l.length
    · obtain ⟨b, off, rfl⟩ := slr_some HS.out hlt
      obtain ⟨ho, hok, h0, h1⟩ := spn_at HS.out hlt
      go_upto_region 4 with fail
      have hd : l.getD k ⟨0, 0⟩ = l[k] := by simp [hlt]
      have Hd := Lib.hid hd
      clear hd
      cases hs : spnOk ⟨l[k].f, l[k].t⟩
      · have H := Lib.hid (spnsOk_no hlt (show spnAt l k = false by unfold spnAt; rw [Hd.out, show spnOk l[k] = false from hs]; rfl))
        (refine wp_region_x 18 (by kernel_rfl) (by kernel_rfl) (by kernel_rfl) ?_; (iterate 18 (apply XReg.step; (case h => (intro w' hw'; obtain ⟨X', rfl⟩ := hw'; go_wp2_with ((go_at_call 127; refine (spanRight_any _ _ _).mono ?_; rintro e _ ⟨rfl, X, rfl⟩)); exact ⟨rfl, (by repeat (first | exact Ext.refl _ | apply Ext.plus | apply Ext.alloc | apply Ext.drew))⟩)); (case hv => kernel_rfl))); refine XReg.doneN (fun X => ?_))
        go_wp2
        go_ret
        exact ⟨ret_bool H.out.symm, (by repeat (first | exact Ext.refl _ | apply Ext.plus | apply Ext.alloc | apply Ext.drew))⟩
      · by_cases hk0 : 0 < k
        · have hkb : decide ((0 : Int) < (k : Int)) = true := decide_eq_true (by omega)
          obtain ⟨_, _, _, h3⟩ := spn_at HS.out (show k - 1 < l.length by omega)
          have hd' : l.getD (k - 1) ⟨0, 0⟩ = l[k - 1] := by simp [show k - 1 < l.length by omega]
          have Hd' := Lib.hid hd'
          clear hd'
          cases hc : decide (l[k].f < l[k - 1].t)
          · have H : Hid (spnAt l k = true) := Lib.hid (by
              unfold spnAt; rw [Hd.out, Hd'.out, show spnOk l[k] = true from hs]
              simp at hc; simp [hc])
            (refine wp_region_x 18 (by kernel_rfl) (by kernel_rfl) (by kernel_rfl) ?_; (iterate 18 (apply XReg.step; (case h => (intro w' hw'; obtain ⟨X', rfl⟩ := hw'; go_wp2_with ((go_at_call 127; refine (spanRight_any _ _ _).mono ?_; rintro e _ ⟨rfl, X, rfl⟩)); exact ⟨rfl, (by repeat (first | exact Ext.refl _ | apply Ext.plus | apply Ext.alloc | apply Ext.drew))⟩)); (case hv => kernel_rfl))); refine XReg.doneN (fun X => ?_))
            go_wp2
            exact ⟨⟨k + 1, by omega, by go_num, (by repeat (first | exact Ext.refl _ | apply Ext.plus | apply Ext.alloc | apply Ext.drew)), Lib.hid (fun j hj => by
              by_cases e : j < k
              · exact HH.out j e
              · obtain rfl : j = k := by omega
                exact H.out)⟩, by simp [intOf]; omega⟩
          · have H : Hid (spnAt l k = false) := Lib.hid (by
              unfold spnAt; rw [Hd.out, Hd'.out, show spnOk l[k] = true from hs]
              simp at hc; simp; omega)
            (refine wp_region_x 18 (by kernel_rfl) (by kernel_rfl) (by kernel_rfl) ?_; (iterate 18 (apply XReg.step; (case h => (intro w' hw'; obtain ⟨X', rfl⟩ := hw'; go_wp2_with ((go_at_call 127; refine (spanRight_any _ _ _).mono ?_; rintro e _ ⟨rfl, X, rfl⟩)); exact ⟨rfl, (by repeat (first | exact Ext.refl _ | apply Ext.plus | apply Ext.alloc | apply Ext.drew))⟩)); (case hv => kernel_rfl))); refine XReg.doneN (fun X => ?_))
            go_wp2
            go_ret
            exact ⟨ret_bool (spnsOk_no hlt H.out).symm, (by repeat (first | exact Ext.refl _ | apply Ext.plus | apply Ext.alloc | apply Ext.drew))⟩
        · obtain rfl : k = 0 := by omega
          have H : Hid (spnAt l 0 = true) := Lib.hid (by
            unfold spnAt; rw [Hd.out, show spnOk l[0] = true from hs]; rfl)
          clear hk0
          (refine wp_region_x 18 (by kernel_rfl) (by kernel_rfl) (by kernel_rfl) ?_; (iterate 18 (apply XReg.step; (case h => (intro w' hw'; obtain ⟨X', rfl⟩ := hw'; go_wp2_with ((go_at_call 127; refine (spanRight_any _ _ _).mono ?_; rintro e _ ⟨rfl, X, rfl⟩)); exact ⟨rfl, (by repeat (first | exact Ext.refl _ | apply Ext.plus | apply Ext.alloc | apply Ext.drew))⟩)); (case hv => kernel_rfl))); refine XReg.doneN (fun X => ?_))
          go_wp2
          exact ⟨⟨1, by omega, by go_num, (by repeat (first | exact Ext.refl _ | apply Ext.plus | apply Ext.alloc | apply Ext.drew)), Lib.hid (fun j hj => by
            obtain rfl : j = 0 := by omega
            exact H.out)⟩, by simp [intOf]; omega⟩
    · go_wp2
      go_ret
      exact ⟨ret_bool (by rw [spnsOk_yes (fun i hi => HH.out i (by omega))]; simp; omega), (by repeat (first | exact Ext.refl _ | apply Ext.plus | apply Ext.alloc | apply Ext.drew))⟩


/-- No span of the list overlaps this one. -/
def apart (o x : Spn) : Bool := !(decide (o.f < x.t) && decide (x.f < o.t))
@[irreducible] def freeL (l : List Spn) (x : Spn) : Bool := l.all (fun o => apart o x)
theorem freeL_no {l : List Spn} {x : Spn} {i : Nat} (hi : i < l.length) (h : apart l[i] x = false) : freeL l x = false := by
  unfold freeL; rw [List.all_eq_false]; exact ⟨l[i], List.getElem_mem hi, by simp [h]⟩
theorem freeL_yes {l : List Spn} {x : Spn} (h : ∀ (i : Nat) (hi : i < l.length), apart l[i] x = true) : freeL l x = true := by
  unfold freeL; rw [List.all_eq_true]
  intro o ho
  obtain ⟨i, hi, rfl⟩ := List.getElem_of_mem ho
  exact h i hi
end Go.Proofs.YtfmjnncgpfkejaaGreat

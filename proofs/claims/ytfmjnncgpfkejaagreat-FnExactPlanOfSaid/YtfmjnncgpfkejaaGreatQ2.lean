/- The walks of FirstFit. -/
import Derived.Test.YtfmjnncgpfkejaaGreatQ1
set_option maxRecDepth 100000
set_option linter.unusedVariables false
namespace Go.Proofs.YtfmjnncgpfkejaaGreat
open Go.RowKit Go.Fin1

/-! the first time at which so many rows are free -/
@[irreducible] def fitsAt (rows : List (List Spn)) (need length t : Int) : Bool := decide (need ≤ (fitL rows ⟨t, t + length⟩).length)
@[irreducible] def firstL (rows : List (List Spn)) (need length now : Int) : Int :=
  match (List.range 41).find? (fun (d : Nat) => fitsAt rows need length (now + d)) with
  | some d => now + d
  | none => -1
theorem firstL_at {rows : List (List Spn)} {need length now : Int} {k : Nat} (hk : k ≤ 40) (h : ∀ d, d < k → fitsAt rows need length (now + (d : Nat)) = false) (hp : fitsAt rows need length (now + k) = true) : firstL rows need length now = now + k := by
  unfold firstL
  have : (List.range 41).find? (fun (d : Nat) => fitsAt rows need length (now + d)) = some k := by
    rw [List.find?_range_eq_some]
    exact ⟨hp, List.mem_range.2 (by omega), fun j hj => by simpa using h j hj⟩
  rw [this]
theorem firstL_none {rows : List (List Spn)} {need length now : Int} (h : ∀ d, d < 41 → fitsAt rows need length (now + (d : Nat)) = false) : firstL rows need length now = -1 := by
  unfold firstL
  have : (List.range 41).find? (fun (d : Nat) => fitsAt rows need length (now + d)) = none := by
    rw [List.find?_eq_none]
    intro d hd
    simpa using h d (List.mem_range.1 hd)
  rw [this]
theorem fitNeed_pos {rows : List (List Spn)} {need length t : Int} (hn : 1 ≤ need) : 0 < (fitNeed rows need ⟨t, t + length⟩).length ↔ fitsAt rows need length t = true := by
  unfold fitNeed fitsAt
  split
  · rename_i h
    rw [decide_eq_true h]
    simp; omega
  · rename_i h
    rw [decide_eq_false h]; simp
theorem fit_ge {rows : List (List Spn)} {need length t : Int} : need ≤ ((fitL rows ⟨t, t + length⟩).length : Int) ↔ fitsAt rows need length t = true := by
  unfold fitsAt; rw [decide_eq_true_eq]


set_option maxHeartbeats 800000 in
theorem l03First_any (v : Value) (l : List (List Spn)) (need length now : Int) (w : World) (h : SlR w 1 rSpnS v l) (hl : l.length ≤ 1048576) (hn : 1 ≤ need) (hl1 : 0 ≤ length) (hl2 : length ≤ 1000000) (hn1 : 0 ≤ now) (hn2 : now ≤ 1000000) :
    Calls Tryz.prog 50 #[v, (.int .i64 need), (.int .i64 length), (.int .i64 now)] w fun e w' => e = .returned (.int .i64 (firstL l need length now)) ∧ Ext w w' := by
  have HS := Lib.hid h
  clear h
  go_enter Tryz.func50, Tryz.ntmps50
  go_wp2
  go_loopw [9] (fun i wr => ∃ k : Nat, k ≤ 41 ∧ i = (.int .i64 (now + (k : Int))) ∧ Ext w wr ∧ Hid (∀ d, d < k → fitsAt l need length (now + (d : Nat)) = false)) (fun i _ => 41 - (intOf i - now).toNat)
  case atStart => exact ⟨0, by omega, by go_num, (by repeat (first | exact Ext.refl _ | apply Ext.plus | apply Ext.alloc | apply Ext.drew)), Lib.hid (fun d h => absurd h (Nat.not_lt_zero _))⟩
  case round =>
    obtain ⟨k, hk, rfl, ⟨X, rfl⟩, HH⟩ := hrel
    by_cases hlt : k ≤ 40
    · have hb : decide (now + (k : Int) ≤ now + 40) = true := decide_eq_true (by omega)
      go_wp2_with fail
      refine (l03Fit_any v l need ⟨now + k, now + k + length⟩ _ (HS.out.ext rSpnS_stable (by repeat (first | exact Ext.refl _ | apply Ext.plus | apply Ext.alloc | apply Ext.drew))) hl hn).mono ?_
      rintro e _ ⟨v', rfl, ⟨Y, rfl⟩, hR⟩
      obtain ⟨a', c', rfl⟩ := hR.shape
      clear hR
      cases hf : fitsAt l need length (now + k)
      · have hb2 : ¬ 0 < (fitNeed l need ⟨now + k, now + k + length⟩).length := fun h => by rw [(fitNeed_pos hn).1 h] at hf; cases hf
        go_wp2
        exact ⟨⟨k + 1, by omega, by go_num, (by repeat (first | exact Ext.refl _ | apply Ext.plus | apply Ext.alloc | apply Ext.drew)), Lib.hid (fun d hd => by
          by_cases e : d < k
          · exact HH.out d e
          · obtain rfl : d = k := by omega
            exact hf)⟩, by simp [intOf]; omega⟩
      · have hb2 := (fitNeed_pos hn).2 hf
        go_wp2
        go_ret
        exact ⟨ret_int (firstL_at hlt HH.out hf).symm, (by repeat (first | exact Ext.refl _ | apply Ext.plus | apply Ext.alloc | apply Ext.drew))⟩
    · have hb : decide (now + (k : Int) ≤ now + 40) = false := decide_eq_false (by omega)
      go_wp2
      go_ret
      exact ⟨ret_int (firstL_none (fun d hd => HH.out d (by omega))).symm, (by repeat (first | exact Ext.refl _ | apply Ext.plus | apply Ext.alloc | apply Ext.drew))⟩

theorem isNow_any (a : Int) (w : World) :
    Calls Tryz.prog 57 #[(.int .i64 a)] w fun e w' => e = .returned (.bool (isIn a 0 999900)) ∧ w = w' := by
  go_enter Tryz.func57, Tryz.ntmps57
  go_wp2_with (go_at_call 83; refine (within_any _ _ _ _).mono ?_; rintro e _ ⟨rfl, rfl⟩)
  go_ret
  exact ⟨rfl, rfl⟩

theorem l03Now_any (a : Int) (w : World) :
    Calls Tryz.prog 45 #[(.int .i64 a)] w fun e w' => e = .returned (.bool (isIn a 0 999900)) ∧ w = w' := by
  go_enter Tryz.func45, Tryz.ntmps45
  go_wp2_with (go_at_call 78; refine (l02Is_any _ _ _ _).mono ?_; rintro e _ ⟨rfl, rfl⟩)
  go_ret
  exact ⟨rfl, rfl⟩

@[irreducible] def firstFit (rows : List (List Spn)) (need length now : Int) : Int :=
  if (rowsOk rows && isIn need 1 6 && isIn length 1 40 && isIn now 0 999900) = true then firstL rows need length now else -1

set_option maxHeartbeats 1600000 in
theorem implFirstFit_yes (v : Value) (l : List (List Spn)) (need length now : Int) (w : World) (h : SlR w 1 rSpnS v l) (hl : l.length ≤ 1048576) (q1 : rowsOk l = true) (q2 : isIn need 1 6 = true) (q3 : isIn length 1 40 = true) (q4 : isIn now 0 999900 = true) :
    Calls Tryz.prog 99 #[v, (.int .i64 need), (.int .i64 length), (.int .i64 now)] w fun e w' => e = .returned (.int .i64 (firstL l need length now)) ∧ Ext w w' := by
  have HS := Lib.hid h
  clear h
  obtain ⟨hn, hn6⟩ := isIn_iff.1 q2
  obtain ⟨hl1, hl2⟩ := isIn_iff.1 q3
  obtain ⟨hn1, hn2⟩ := isIn_iff.1 q4
  go_enter Tryz.func99, Tryz.ntmps99
  go_wp2_with (first | (go_at_call 125; refine (rowsRight_any v l _ HS.out).mono ?_; rintro e _ ⟨rfl, X, rfl⟩) | (go_at_call 83; refine (within_any _ _ _ _).mono ?_; rintro e _ ⟨rfl, rfl⟩) | (go_at_call 57; refine (isNow_any _ _).mono ?_; rintro e _ ⟨rfl, rfl⟩))
  clear q1 q2 q3 q4
  go_loopw [9] (fun i wr => ∃ k : Nat, k ≤ 41 ∧ i = (.int .i64 (now + (k : Int))) ∧ Ext w wr ∧ Hid (∀ d, d < k → fitsAt l need length (now + (d : Nat)) = false)) (fun i _ => 41 - (intOf i - now).toNat)
  case atStart => exact ⟨0, by omega, by go_num, (by repeat (first | exact Ext.refl _ | apply Ext.plus | apply Ext.alloc | apply Ext.drew)), Lib.hid (fun d h => absurd h (Nat.not_lt_zero _))⟩
  case round =>
    obtain ⟨k, hk, rfl, ⟨X, rfl⟩, HH⟩ := hrel
    by_cases hlt : k ≤ 40
    · have hb : decide (now + (k : Int) ≤ now + 40) = true := decide_eq_true (by omega)
      go_wp2_with fail
      refine (fit_any v l ⟨now + k, now + k + length⟩ _ (HS.out.ext rSpnS_stable (by repeat (first | exact Ext.refl _ | apply Ext.plus | apply Ext.alloc | apply Ext.drew))) hl).mono ?_
      rintro e _ ⟨v', rfl, ⟨Y, rfl⟩, hR⟩
      obtain ⟨a', c', rfl⟩ := hR.shape
      clear hR
      cases hf : fitsAt l need length (now + k)
      · have hb2 : ¬ need ≤ ((fitL l ⟨now + k, now + k + length⟩).length : Int) := fun h => by rw [fit_ge.1 h] at hf; cases hf
        go_wp2
        exact ⟨⟨k + 1, by omega, by go_num, (by repeat (first | exact Ext.refl _ | apply Ext.plus | apply Ext.alloc | apply Ext.drew)), Lib.hid (fun d hd => by
          by_cases e : d < k
          · exact HH.out d e
          · obtain rfl : d = k := by omega
            exact hf)⟩, by simp [intOf]; omega⟩
      · have hb2 := fit_ge.2 hf
        go_wp2
        go_ret
        exact ⟨ret_int (firstL_at hlt HH.out hf).symm, (by repeat (first | exact Ext.refl _ | apply Ext.plus | apply Ext.alloc | apply Ext.drew))⟩
    · have hb : decide (now + (k : Int) ≤ now + 40) = false := decide_eq_false (by omega)
      go_wp2
      go_ret
      exact ⟨ret_int (firstL_none (fun d hd => HH.out d (by omega))).symm, (by repeat (first | exact Ext.refl _ | apply Ext.plus | apply Ext.alloc | apply Ext.drew))⟩

set_option maxHeartbeats 1600000 in
theorem implFirstFit_any (v : Value) (l : List (List Spn)) (need length now : Int) (w : World) (h : SlR w 1 rSpnS v l) (hl : l.length ≤ 1048576) :
    Calls Tryz.prog 99 #[v, (.int .i64 need), (.int .i64 length), (.int .i64 now)] w fun e w' => e = .returned (.int .i64 (firstFit l need length now)) ∧ Ext w w' := by
  by_cases hall : (rowsOk l && isIn need 1 6 && isIn length 1 40 && isIn now 0 999900) = true
  · have HF : firstFit l need length now = firstL l need length now := by unfold firstFit; rw [if_pos hall]
    rw [Bool.and_eq_true, Bool.and_eq_true, Bool.and_eq_true] at hall
    rw [HF]
    exact implFirstFit_yes v l need length now w h hl hall.1.1.1 hall.1.1.2 hall.1.2 hall.2
  · have HF : Hid (firstFit l need length now = -1) := Lib.hid (by unfold firstFit; rw [if_neg hall])
    have HS := Lib.hid h
    clear h
    cases q1 : rowsOk l <;> cases q2 : isIn need 1 6 <;> cases q3 : isIn length 1 40 <;> cases q4 : isIn now 0 999900
    all_goals first
      | (exfalso; rw [q1, q2, q3, q4] at hall; exact hall rfl)
      | (clear hall
         go_enter Tryz.func99, Tryz.ntmps99
         go_wp2_with (first | (go_at_call 125; refine (rowsRight_any v l _ HS.out).mono ?_; rintro e _ ⟨rfl, X, rfl⟩) | (go_at_call 83; refine (within_any _ _ _ _).mono ?_; rintro e _ ⟨rfl, rfl⟩) | (go_at_call 57; refine (isNow_any _ _).mono ?_; rintro e _ ⟨rfl, rfl⟩))
         go_ret
         exact ⟨ret_int HF.out.symm, (by repeat (first | exact Ext.refl _ | apply Ext.plus | apply Ext.alloc | apply Ext.drew))⟩)


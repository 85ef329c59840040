/- The walks of FitNodes. -/
import Derived.Test.YtbmbanelodabgaaGreatDoorKQA1
import Derived.Test.YtbmbanelodabgaaGreatDoorKJE
import Derived.Test.YtbmbanelodabgaaGreatDoorKCC
import Derived.Test.YtbmbanelodabgaaGreatDoorKTT
set_option maxRecDepth 100000
set_option linter.unusedVariables false
namespace Go.Proofs.YtbmbanelodabgaaGreatDoor
open Go.RowKit Go.Fin1

@[irreducible] def fitNodes (rows : List (List Spn)) (need : Int) (x : Spn) : List Int := if (rowsOk rows && isIn need 1 6 && spnOk x) = true then fitNeed rows need x else []
theorem fitNeed_len (rows : List (List Spn)) (need : Int) (x : Spn) : (fitNeed rows need x).length ≤ rows.length := by
  have := fitL_len rows x
  unfold fitNeed; split
  · simp; omega
  · simp

set_option maxHeartbeats 1600000 in
theorem implFitNodes_any (v : Value) (l : List (List Spn)) (need : Int) (x : Spn) (w : World) (h : SlR w 1 rSpnS v l) (hl : l.length ≤ 1048576) :
    Calls Tryz.prog 149 #[v, (.int .i64 need), .agg #[(.int .i64 x.f), (.int .i64 x.t)]] w fun e w' => ∃ v', e = .returned v' ∧ Ext w w' ∧ Row w.heap.size w' 2 1 intCell v' (fitNodes l need x) := by
  have HS := tH h
  clear h
  by_cases hall : (rowsOk l && isIn need 1 6 && spnOk x) = true
  · have HF : Hid (fitNodes l need x = fitNeed l need x) := tH (by unfold fitNodes; rw [if_pos hall])
    rw [Bool.and_eq_true, Bool.and_eq_true] at hall
    obtain ⟨⟨q1, q2⟩, q3⟩ := hall
    obtain ⟨hn, hn6⟩ := isIn_iff.1 q2
    rw [HF.out]
    clear HF
    by_cases hfull : need ≤ (fitL l x).length
    · have HQ : Hid (fitNeed l need x = (fitL l x).take need.toNat) := tH (by unfold fitNeed; rw [if_pos hfull])
      have hk1 := tH (show need.toNat ≤ (fitL l x).length by omega)
      have hk2 := tH (show 0 < need.toNat by omega)
      go_enter Tryz.func149, Tryz.ntmps149
      go_wp2_with (first | (go_at_call 179; refine (rowsRight_any v l _ (HS.out.ext rSpnS_stable xE)).mono ?_; rintro e _ ⟨rfl, X, rfl⟩; rw [q1]) | (go_at_call 114; refine (within_any _ _ _ _).mono ?_; rintro e _ ⟨rfl, rfl⟩; rw [q2]) | (go_at_call 181; refine (spanRight_any _ _ _).mono ?_; rintro e _ ⟨rfl, X2, rfl⟩; rw [show spnOk ⟨x.f, x.t⟩ = _ from q3]) | (go_at_call 180; refine (fit_any v l x _ (HS.out.ext rSpnS_stable xE) hl).mono ?_; rintro e _ ⟨v', rfl, ⟨Y, rfl⟩, hR⟩; obtain ⟨a', c', hv⟩ := hR.shape; subst hv; have HR := tH hR; have hcp := hR.cap; clear hR))
      go_ret
      exact ⟨_, rfl, xE, (by rw [HQ.out]; have h := Row.take (f := intCell) (K := 1) (fun _ => rfl) HR.out hk1.out hk2.out; exact h.mono (by simp; omega))⟩
    · have HQ : Hid (fitNeed l need x = []) := tH (by unfold fitNeed; rw [if_neg hfull])
      go_enter Tryz.func149, Tryz.ntmps149
      go_wp2_with (first | (go_at_call 179; refine (rowsRight_any v l _ (HS.out.ext rSpnS_stable xE)).mono ?_; rintro e _ ⟨rfl, X, rfl⟩; rw [q1]) | (go_at_call 114; refine (within_any _ _ _ _).mono ?_; rintro e _ ⟨rfl, rfl⟩; rw [q2]) | (go_at_call 181; refine (spanRight_any _ _ _).mono ?_; rintro e _ ⟨rfl, X2, rfl⟩; rw [show spnOk ⟨x.f, x.t⟩ = _ from q3]) | (go_at_call 180; refine (fit_any v l x _ (HS.out.ext rSpnS_stable xE) hl).mono ?_; rintro e _ ⟨v', rfl, ⟨Y, rfl⟩, hR⟩; obtain ⟨a', c', hv⟩ := hR.shape; subst hv; have HR := tH hR; clear hR))
      go_ret
      exact ⟨_, rfl, xE, (by rw [HQ.out]; exact Row.nil _ _ _ _ _)⟩
  · have HF : Hid (fitNodes l need x = []) := tH (by unfold fitNodes; rw [if_neg hall])
    cases q1 : rowsOk l <;> cases q2 : isIn need 1 6 <;> cases q3 : spnOk x
    all_goals first
      | (exfalso; rw [q1, q2, q3] at hall; exact hall rfl)
      | (clear hall
         go_enter Tryz.func149, Tryz.ntmps149
         go_wp2_with (first | (go_at_call 179; refine (rowsRight_any v l _ (HS.out.ext rSpnS_stable xE)).mono ?_; rintro e _ ⟨rfl, X, rfl⟩; rw [q1]) | (go_at_call 114; refine (within_any _ _ _ _).mono ?_; rintro e _ ⟨rfl, rfl⟩; rw [q2]) | (go_at_call 181; refine (spanRight_any _ _ _).mono ?_; rintro e _ ⟨rfl, X2, rfl⟩; rw [show spnOk ⟨x.f, x.t⟩ = _ from q3]) | (go_at_call 180; refine (fit_any v l x _ (HS.out.ext rSpnS_stable xE) hl).mono ?_; rintro e _ ⟨v', rfl, ⟨Y, rfl⟩, hR⟩; obtain ⟨a', c', hv⟩ := hR.shape; subst hv; have HR := tH hR; clear hR))
         go_ret
         exact ⟨_, rfl, xE, (by rw [HF.out]; exact Row.nil _ _ _ _ _)⟩)

end Go.Proofs.YtbmbanelodabgaaGreatDoor

set_option maxRecDepth 100000
set_option linter.unusedVariables false
namespace Go.Proofs.YtbmbanelodabgaaGreatDoor
open Go.RowKit Go.Fin1
theorem spnsOk_at {l : List Spn} (h : spnsOk l = true) : l.length ≤ 20 ∧ ∀ (i : Nat) (hi : i < l.length), spnOk l[i] = true ∧ (∀ (h0 : 0 < i), (l[i - 1]).t ≤ l[i].f) := by
  refine ⟨spnsOk_len h, fun i hi => ?_⟩
  have h1 : spnAt l i = true := by
    cases e : spnAt l i
    · rw [spnsOk_no hi e] at h; cases h
    · rfl
  unfold spnAt at h1
  have hg : ∀ (j : Nat) (hj : j < l.length), l.getD j ⟨0, 0⟩ = l[j] := fun j hj => by simp [List.getD, hj]
  rw [hg i hi, hg (i - 1) (by omega)] at h1
  simp only [Bool.and_eq_true, Bool.or_eq_true, beq_iff_eq, decide_eq_true_eq] at h1
  exact ⟨h1.1, fun h0 => by rcases h1.2 with h2 | h2 <;> omega⟩
theorem spnsOk_of {l : List Spn} (hl : l.length ≤ 20) (h : ∀ (i : Nat) (hi : i < l.length), spnOk l[i] = true ∧ (∀ (h0 : 0 < i), (l[i - 1]).t ≤ l[i].f)) : spnsOk l = true := by
  rw [spnsOk_yes, decide_eq_true hl]
  intro i hi
  have hg : ∀ (j : Nat) (hj : j < l.length), l.getD j ⟨0, 0⟩ = l[j] := fun j hj => by simp [List.getD, hj]
  unfold spnAt
  rw [hg i hi, hg (i - 1) (by omega), (h i hi).1, Bool.true_and]
  by_cases h0 : i = 0
  · simp [h0]
  · have := (h i hi).2 (by omega)
    simp [this]
theorem freeL_at {l : List Spn} {x : Spn} (h : freeL l x = true) (i : Nat) (hi : i < l.length) : ¬ (l[i].f < x.t ∧ x.f < l[i].t) := by
  intro ⟨h1, h2⟩
  have : apart l[i] x = false := by unfold apart; simp [h1, h2]
  rw [freeL_no hi this] at h; cases h
theorem takeWhile_len {α : Type} {p : α → Bool} : ∀ (l : List α), (∀ (j : Nat) (hj : j < l.length), j < (l.takeWhile p).length → p l[j] = true) ∧ (∀ (hk : (l.takeWhile p).length < l.length), p l[(l.takeWhile p).length] = false)
  | [] => ⟨fun j hj => absurd hj (Nat.not_lt_zero _), fun hk => absurd hk (Nat.not_lt_zero _)⟩
  | x :: l => by
    obtain ⟨h1, h2⟩ := takeWhile_len (p := p) l
    cases e : p x
    · refine ⟨fun j hj hjk => ?_, fun hk => ?_⟩
      · simp [e] at hjk
      · simp [e]
    · refine ⟨fun j hj hjk => ?_, fun hk => ?_⟩
      · cases j with
        | zero => exact e
        | succ j =>
          simp only [List.takeWhile_cons, e, if_true, List.length_cons] at hjk
          exact h1 j (by simpa using hj) (by omega)
      · have := hk
        simp only [List.takeWhile_cons, e, if_true, List.length_cons] at this
        simp only [List.takeWhile_cons, e, if_true, List.length_cons, List.getElem_cons_succ]
        exact h2 (by omega)
theorem posS_lt {l : List Spn} {f : Int} (j : Nat) (hj : j < l.length) (h : j < posS l f) : l[j].f < f := by
  unfold posS at h
  have := (takeWhile_len (p := fun y : Spn => decide (y.f < f)) l).1 j hj h
  simpa using this
theorem posS_ge {l : List Spn} {f : Int} (j : Nat) (hj : j < l.length) (h : j = posS l f) : f ≤ l[j].f := by
  subst h
  unfold posS at hj ⊢
  have := (takeWhile_len (p := fun y : Spn => decide (y.f < f)) l).2 hj
  simpa using this
/-- What is put is not free any more; the list is right, and one longer. -/
theorem putL_free {l : List Spn} {x : Spn} (h : (spnsOk l && spnOk x && freeL l x) = true) (hl : l.length < 20) :
    (putL l x).length = l.length + 1 ∧ spnsOk (putL l x) = true ∧ freeL (putL l x) x = false := by
  have hput : putL l x = insL l (posS l x.f) x := putL_ins (by omega) h hl rfl
  simp only [Bool.and_eq_true] at h
  obtain ⟨⟨h1, h2⟩, h3⟩ := h
  have hx := spnOk_iff.1 h2
  have hk := posS_le l x.f
  have hlen : (putL l x).length = l.length + 1 := by rw [hput, insL_len x hk]
  obtain ⟨_, hat⟩ := spnsOk_at h1
  have hget : ∀ (i : Nat) (hi : i < (putL l x).length), (i < posS l x.f → ∃ h : i < l.length, (putL l x)[i] = l[i]) ∧ (i = posS l x.f → (putL l x)[i] = x) ∧ (posS l x.f < i → ∃ h : i - 1 < l.length, (putL l x)[i] = l[i - 1]) := by
    intro i hi
    have hlt : (l.take (posS l x.f)).length = posS l x.f := by rw [List.length_take]; omega
    have he : (putL l x)[i]? = (l.take (posS l x.f) ++ x :: l.drop (posS l x.f))[i]? := by rw [hput]; rfl
    refine ⟨fun hp => ⟨by omega, ?_⟩, fun hp => ?_, fun hp => ⟨by omega, ?_⟩⟩
    · rw [List.getElem?_append_left (by omega), List.getElem?_take, if_pos hp, List.getElem?_eq_getElem hi, List.getElem?_eq_getElem (show i < l.length by omega)] at he
      exact Option.some.inj he
    · rw [List.getElem?_append_right (by omega), hlt, hp, Nat.sub_self, List.getElem?_cons_zero, ← hp, List.getElem?_eq_getElem hi] at he
      exact Option.some.inj he
    · rw [List.getElem?_append_right (by omega), hlt, show i - posS l x.f = (i - posS l x.f - 1) + 1 by omega, List.getElem?_cons_succ, List.getElem?_drop, show posS l x.f + (i - posS l x.f - 1) = i - 1 by omega, List.getElem?_eq_getElem hi, List.getElem?_eq_getElem (show i - 1 < l.length by omega)] at he
      exact Option.some.inj he
  refine ⟨hlen, spnsOk_of (by omega) fun i hi => ⟨?_, fun h0 => ?_⟩, ?_⟩
  · obtain ⟨q1, q2, q3⟩ := hget i hi
    rcases Nat.lt_trichotomy i (posS l x.f) with hp | hp | hp
    · obtain ⟨hi', e⟩ := q1 hp; rw [e]; exact (hat i hi').1
    · rw [q2 hp]; exact h2
    · obtain ⟨hi', e⟩ := q3 hp; rw [e]; exact (hat _ hi').1
  · obtain ⟨q1, q2, q3⟩ := hget i hi
    obtain ⟨p1, p2, p3⟩ := hget (i - 1) (by omega)
    rcases Nat.lt_trichotomy i (posS l x.f) with hp | hp | hp
    · obtain ⟨hi', e⟩ := q1 hp
      obtain ⟨hj', e'⟩ := p1 (by omega)
      rw [e, e']; exact (hat i hi').2 h0
    · obtain ⟨hj', e'⟩ := p1 (by omega)
      rw [q2 hp, e']
      have h4 := posS_lt (f := x.f) (i - 1) hj' (by omega)
      have h5 := freeL_at h3 (i - 1) hj'
      omega
    · obtain ⟨hi', e⟩ := q3 hp
      rw [e]
      by_cases he : i - 1 = posS l x.f
      · rw [p2 he]
        have h4 := posS_ge (f := x.f) (i - 1) hi' he
        have h5 := freeL_at h3 (i - 1) hi'
        have h6 := spnOk_iff.1 (hat (i - 1) hi').1
        omega
      · obtain ⟨hj', e'⟩ := p3 (by omega)
        rw [e']; exact (hat (i - 1) hi').2 (by omega)
  · have hi : posS l x.f < (putL l x).length := by omega
    refine freeL_no hi ?_
    rw [(hget _ hi).2.1 rfl]
    unfold apart
    simp; omega
end Go.Proofs.YtbmbanelodabgaaGreatDoor

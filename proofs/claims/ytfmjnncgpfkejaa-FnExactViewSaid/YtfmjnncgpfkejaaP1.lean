/- The walks of SpansRight, IsFree and of what they call. -/
import Derived.Test.YtfmjnncgpfkejaaBA
import Derived.Test.YtfmjnncgpfkejaaBG
set_option maxRecDepth 100000
namespace Go.Proofs.Ytfmjnncgpfkejaa
open Go.RowKit Go.Fin1

set_option maxHeartbeats 400000 in
theorem isTime_any (a : Int) (w : World) :
    Calls Try.prog 54 #[(.int .i64 a)] w fun e w' => e = .returned (.bool (isIn a 0 1000000)) ∧ w = w' := by
  go_enter Try.func54, Try.ntmps54
  go_wp2_with (go_at_call 53; refine (within_any _ _ _ _).mono ?_; rintro e _ ⟨rfl, rfl⟩)
  go_ret
  exact ⟨rfl, rfl⟩

set_option maxHeartbeats 400000 in
theorem l02Time_any (a : Int) (w : World) :
    Calls Try.prog 57 #[(.int .i64 a)] w fun e w' => e = .returned (.bool (isIn a 0 1000000)) ∧ w = w' := by
  go_enter Try.func57, Try.ntmps57
  go_wp2_with (go_at_call 56; refine (l02Is_any _ _ _ _).mono ?_; rintro e _ ⟨rfl, rfl⟩)
  go_ret
  exact ⟨rfl, rfl⟩
/-- A valid span. -/
def spnOk (x : Spn) : Bool := isIn x.f 0 1000000 && isIn x.t 0 1000000 && decide (x.f < x.t)
theorem spnOk_iff {x : Spn} : spnOk x = true ↔ 0 ≤ x.f ∧ x.f < x.t ∧ x.t ≤ 1000000 := by
  unfold spnOk; rw [Bool.and_eq_true, Bool.and_eq_true, isIn_iff, isIn_iff, decide_eq_true_eq]; omega

/-- Span i of a list may follow its elder. -/
def spnAt (l : List Spn) (i : Nat) : Bool := spnOk (l.getD i ⟨0, 0⟩) && (i == 0 || decide ((l.getD (i - 1) ⟨0, 0⟩).t ≤ (l.getD i ⟨0, 0⟩).f))
@[irreducible] def spnsOk (l : List Spn) : Bool := decide (l.length ≤ 20) && (List.range l.length).all (spnAt l)
theorem spnsOk_no {l : List Spn} {i : Nat} (hi : i < l.length) (h : spnAt l i = false) : spnsOk l = false := by
  unfold spnsOk
  have : (List.range l.length).all (spnAt l) = false := by rw [List.all_eq_false]; exact ⟨i, List.mem_range.2 hi, by simp [h]⟩
  rw [this, Bool.and_false]
theorem spnsOk_long {l : List Spn} (h : 20 < l.length) : spnsOk l = false := by unfold spnsOk; rw [decide_eq_false (by omega)]; rfl
theorem spnsOk_yes {l : List Spn} (h : ∀ i, i < l.length → spnAt l i = true) : spnsOk l = decide (l.length ≤ 20) := by
  unfold spnsOk
  have : (List.range l.length).all (spnAt l) = true := by rw [List.all_eq_true]; exact fun i hi => h i (List.mem_range.1 hi)
  rw [this, Bool.and_true]


/-- No span of the list overlaps this one. -/
def apart (o x : Spn) : Bool := !(decide (o.f < x.t) && decide (x.f < o.t))
@[irreducible] def freeL (l : List Spn) (x : Spn) : Bool := l.all (fun o => apart o x)
theorem freeL_no {l : List Spn} {x : Spn} {i : Nat} (hi : i < l.length) (h : apart l[i] x = false) : freeL l x = false := by
  unfold freeL; rw [List.all_eq_false]; exact ⟨l[i], List.getElem_mem hi, by simp [h]⟩
theorem freeL_yes {l : List Spn} {x : Spn} (h : ∀ (i : Nat) (hi : i < l.length), apart l[i] x = true) : freeL l x = true := by
  unfold freeL; rw [List.all_eq_true]
  intro o ho
  obtain ⟨i, hi, rfl⟩ := List.getElem_of_mem ho
  exact h i hi
end Go.Proofs.Ytfmjnncgpfkejaa

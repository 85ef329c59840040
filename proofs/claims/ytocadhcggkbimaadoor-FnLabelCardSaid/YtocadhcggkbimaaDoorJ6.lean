/- The walks of JobsRight and its law. -/
import Derived.Test.YtocadhcggkbimaaDoorJ5
set_option maxRecDepth 100000
set_option linter.unusedVariables false
namespace Go.Proofs.YtocadhcggkbimaaDoor
open Go.RowKit Go.Fin1

/-- Job i of a list may follow its elders. -/
def jobAt (l : List Jb) (i : Nat) : Bool := match l[i]? with
  | some j => jobR j && decide (j.id = (cntL (l.take i) j.l : Int) + 1)
  | none => true
theorem jobAt_eq {l : List Jb} {i : Nat} (hi : i < l.length) : jobAt l i = (jobR l[i] && decide (l[i].id = (cntL (l.take i) l[i].l : Int) + 1)) := by
  unfold jobAt; rw [List.getElem?_eq_getElem hi]
@[irreducible] def jobsR (l : List Jb) : Bool := decide (l.length ≤ 96) && (List.range l.length).all (jobAt l)
theorem jobsR_no {l : List Jb} {i : Nat} (hi : i < l.length) (h : jobAt l i = false) : jobsR l = false := by
  unfold jobsR
  rw [show (List.range l.length).all (jobAt l) = false from by rw [List.all_eq_false]; exact ⟨i, List.mem_range.2 hi, by simp [h]⟩, Bool.and_false]
theorem jobsR_long {l : List Jb} (h : 96 < l.length) : jobsR l = false := by unfold jobsR; rw [decide_eq_false (by omega)]; rfl
theorem jobsR_yes {l : List Jb} (h6 : l.length ≤ 96) (h : ∀ i, i < l.length → jobAt l i = true) : jobsR l = true := by
  unfold jobsR
  rw [decide_eq_true h6, List.all_eq_true.2 fun i hi => h i (List.mem_range.1 hi)]; rfl
theorem jobsR_len {l : List Jb} (h : jobsR l = true) : l.length ≤ 96 := by
  unfold jobsR at h; rw [Bool.and_eq_true, decide_eq_true_eq] at h; exact h.1
theorem jobsR_at {l : List Jb} (h : jobsR l = true) {i : Nat} (hi : i < l.length) : jobAt l i = true := by
  unfold jobsR at h; rw [Bool.and_eq_true, List.all_eq_true] at h; exact h.2 i (List.mem_range.2 hi)

theorem eJob.nodes {w : World} {j : Jb} {v : Value} (h : eJob w (j.val v) j) : SlR w 1 rInt v j.nodes := by
  obtain ⟨a, c, hv, _, hs⟩ := h
  rw [Jb.val_inj hv]; exact hs



end Go.Proofs.YtocadhcggkbimaaDoor

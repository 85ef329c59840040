/- The walks of FirstFit. -/
import Derived.Test.YtocadhcggkbimaaDoorQ1
set_option maxRecDepth 100000
set_option linter.unusedVariables false
namespace Go.Proofs.YtocadhcggkbimaaDoor
open Go.RowKit Go.Fin1

/-! the first time at which so many rows are free -/
@[irreducible] def fitsAt (rows : List (List Spn)) (need length t : Int) : Bool := decide (need ≤ (fitL rows ⟨t, t + length⟩).length)
@[irreducible] def firstL (rows : List (List Spn)) (need length now : Int) : Int :=
  match (List.range 41).find? (fun (d : Nat) => fitsAt rows need length (now + d)) with
  | some d => now + d
  | none => -1
theorem firstL_at {rows : List (List Spn)} {need length now : Int} {k : Nat} (hk : k ≤ 40) (h : ∀ d, d < k → fitsAt rows need length (now + (d : Nat)) = false) (hp : fitsAt rows need length (now + k) = true) : firstL rows need length now = now + k := by
  unfold firstL
  have : (List.range 41).find? (fun (d : Nat) => fitsAt rows need length (now + d)) = some k := by
    rw [List.find?_range_eq_some]
    exact ⟨hp, List.mem_range.2 (by omega), fun j hj => by simpa using h j hj⟩
  rw [this]
theorem firstL_none {rows : List (List Spn)} {need length now : Int} (h : ∀ d, d < 41 → fitsAt rows need length (now + (d : Nat)) = false) : firstL rows need length now = -1 := by
  unfold firstL
  have : (List.range 41).find? (fun (d : Nat) => fitsAt rows need length (now + d)) = none := by
    rw [List.find?_eq_none]
    intro d hd
    simpa using h d (List.mem_range.1 hd)
  rw [this]
theorem fitNeed_pos {rows : List (List Spn)} {need length t : Int} (hn : 1 ≤ need) : 0 < (fitNeed rows need ⟨t, t + length⟩).length ↔ fitsAt rows need length t = true := by
  unfold fitNeed fitsAt
  split
  · rename_i h
    rw [decide_eq_true h]
    simp; omega
  · rename_i h
    rw [decide_eq_false h]; simp
theorem fit_ge {rows : List (List Spn)} {need length t : Int} : need ≤ ((fitL rows ⟨t, t + length⟩).length : Int) ↔ fitsAt rows need length t = true := by
  unfold fitsAt; rw [decide_eq_true_eq]







@[irreducible] def firstFit (rows : List (List Spn)) (need length now : Int) : Int :=
  if (rowsOk rows && isIn need 1 6 && isIn length 1 40 && isIn now 0 999900) = true then firstL rows need length now else -1

end Go.Proofs.YtocadhcggkbimaaDoor

/- Rows of spans: their walks: rowsRight, fit, FirstFit, FitNodes. -/
import Derived.Test.YtocadhcggkbimaaDoorP2
import Derived.Test.YtocadhcggkbimaaDoorP3
import Derived.Test.YtocadhcggkbimaaDoorJ2
import Derived.Test.YtocadhcggkbimaaDoorBA
set_option maxRecDepth 100000
set_option linter.unusedVariables false
namespace Go.Proofs.YtocadhcggkbimaaDoor
open Go.RowKit Go.Fin1

abbrev rSpnS : World → List Value → List Spn → Prop := rSl 2 rSpn
theorem rSpnS_stable : Stable rSpnS := rSl_stable rSpn_stable




/-- Valid rows. -/
@[irreducible] def rowsOk (rows : List (List Spn)) : Bool := decide (rows.length ≤ 6) && rows.all spnsOk
theorem rowsOk_long {rows : List (List Spn)} (h : 6 < rows.length) : rowsOk rows = false := by unfold rowsOk; rw [decide_eq_false (by omega)]; rfl
theorem rowsOk_short {rows : List (List Spn)} (h : rows.length ≤ 6) : rowsOk rows = !rows.any (fun l => !spnsOk l) := by
  unfold rowsOk; rw [decide_eq_true h, List.not_any_eq_all_not]; simp
theorem rowsOk_no {rows : List (List Spn)} {i : Nat} (hi : i < rows.length) (h : spnsOk rows[i] = false) : rowsOk rows = false := by
  unfold rowsOk; rw [List.all_eq_false.2 ⟨rows[i], List.getElem_mem hi, by simp [h]⟩]; simp
theorem rowsOk_yes {rows : List (List Spn)} (h6 : rows.length ≤ 6) (h : ∀ (i : Nat) (hi : i < rows.length), spnsOk rows[i] = true) : rowsOk rows = true := by
  unfold rowsOk; rw [decide_eq_true h6, List.all_eq_true.2 fun x hx => by obtain ⟨i, hi, rfl⟩ := List.mem_iff_getElem.1 hx; exact h i hi]; rfl



/-! the rows in which a span is free -/
def fitN (rows : List (List Spn)) (x : Spn) : Nat → List Int
  | 0 => []
  | k + 1 => if freeL (rows.getD k []) x then fitN rows x k ++ [(k : Int)] else fitN rows x k
@[irreducible] def fitL (rows : List (List Spn)) (x : Spn) : List Int := fitN rows x rows.length
theorem fitN_len (rows : List (List Spn)) (x : Spn) : ∀ k, (fitN rows x k).length ≤ k
  | 0 => Nat.le_refl _
  | k + 1 => by have := fitN_len rows x k; unfold fitN; split <;> simp <;> omega
theorem fitN_step {rows : List (List Spn)} {x : Spn} {k : Nat} (hk : k < rows.length) : fitN rows x (k + 1) = if freeL rows[k] x then fitN rows x k ++ [(k : Int)] else fitN rows x k := by
  show (if freeL (rows.getD k []) x then _ else _) = _
  rw [show rows.getD k [] = rows[k] by simp [hk]]
theorem fitN_mem {rows : List (List Spn)} {x : Spn} : ∀ {k : Nat} {n : Int}, n ∈ fitN rows x k → 0 ≤ n ∧ n < k
  | 0, n, h => by cases h
  | k + 1, n, h => by
    unfold fitN at h
    split at h
    · rcases List.mem_append.1 h with h | h
      · have := fitN_mem h; omega
      · simp at h; omega
    · have := fitN_mem h; omega
theorem fitN_pre {rows : List (List Spn)} {x : Spn} (k : Nat) : ∀ d, ∃ t, fitN rows x (k + d) = fitN rows x k ++ t
  | 0 => ⟨[], by simp⟩
  | d + 1 => by
    obtain ⟨t, ht⟩ := fitN_pre k d
    have hs : fitN rows x (k + (d + 1)) = if freeL (rows.getD (k + d) []) x then fitN rows x (k + d) ++ [((k + d : Nat) : Int)] else fitN rows x (k + d) := rfl
    rw [hs]
    split
    · exact ⟨t ++ [((k + d : Nat) : Int)], by rw [ht, List.append_assoc]⟩
    · exact ⟨t, ht⟩
theorem fitL_i64 {rows : List (List Spn)} {x : Spn} (h : rows.length ≤ 1048576) : ∀ n ∈ fitL rows x, I64 n := fun n hn => by
  unfold fitL at hn; have := fitN_mem hn; unfold I64; omega
theorem fitL_len (rows : List (List Spn)) (x : Spn) : (fitL rows x).length ≤ rows.length := by unfold fitL; exact fitN_len _ _ _
/-- So many of them; none, if there are not so many. -/
@[irreducible] def fitNeed (rows : List (List Spn)) (need : Int) (x : Spn) : List Int := if need ≤ (fitL rows x).length then (fitL rows x).take need.toNat else []



end Go.Proofs.YtocadhcggkbimaaDoor

/- The walks of Chain. -/
import Derived.Test.YtofpknobahccdaaP2
import Derived.Test.YtofpknobahccdaaP3
set_option maxRecDepth 100000
namespace Go.Proofs.Ytofpknobahccdaa
open Go.RowKit Go.Fin1

/-- One label is another. -/
def sameL (a b : Lab) : Bool := decide (a.lv = b.lv) && decide (a.st = b.st)
/-- The step to the i-th label goes up. -/
def stepL (l : List Lab) (i : Nat) : Bool := decide (i = 0) || (blw (l.getD (i - 1) ⟨0, 0⟩) (l.getD i ⟨0, 0⟩) && !sameL (l.getD (i - 1) ⟨0, 0⟩) (l.getD i ⟨0, 0⟩))
@[irreducible] def chainR (l : List Lab) : Bool := decide (1 ≤ l.length) && decide (l.length ≤ 4) && l.all labR && (List.range l.length).all (stepL l)
theorem chainR_len {l : List Lab} (h : l.length < 1 ∨ 4 < l.length) : chainR l = false := by
  unfold chainR
  rcases h with h | h
  · rw [decide_eq_false (show ¬ 1 ≤ l.length by omega)]; rfl
  · rw [decide_eq_false (show ¬ l.length ≤ 4 by omega)]; simp
theorem chainR_all {l : List Lab} (h : l.all labR = false) : chainR l = false := by
  unfold chainR; rw [h]; simp
theorem chainR_lab {l : List Lab} {i : Nat} (hi : i < l.length) (h : labR l[i] = false) : chainR l = false :=
  chainR_all (List.all_eq_false.2 ⟨_, List.getElem_mem hi, by simp [h]⟩)
theorem chainR_step {l : List Lab} {i : Nat} (hi : i < l.length) (h : stepL l i = false) : chainR l = false := by
  unfold chainR
  rw [show (List.range l.length).all (stepL l) = false from List.all_eq_false.2 ⟨i, List.mem_range.2 hi, by simp [h]⟩]; simp
theorem chainR_yes {l : List Lab} (h1 : 1 ≤ l.length) (h4 : l.length ≤ 4) (ha : ∀ (i : Nat) (hi : i < l.length), labR l[i] = true) (hs : ∀ i, i < l.length → stepL l i = true) : chainR l = true := by
  unfold chainR
  rw [show l.all labR = true from List.all_eq_true.2 fun x hx => by obtain ⟨i, hi, rfl⟩ := List.mem_iff_getElem.1 hx; exact ha i hi,
    show (List.range l.length).all (stepL l) = true from List.all_eq_true.2 fun i hi => hs i (List.mem_range.1 hi), decide_eq_true h1, decide_eq_true h4]; rfl
theorem stepL_at {l : List Lab} {i : Nat} (h0 : 0 < i) (hi : i < l.length) : stepL l i = (blw l[i - 1] l[i] && !sameL l[i - 1] l[i]) := by
  unfold stepL
  rw [decide_eq_false (by omega), Bool.false_or]
  simp [List.getD_eq_getElem?_getD, hi, show i - 1 < l.length by omega]

set_option maxHeartbeats 400000 in
@[go_sem high] theorem equalIn_lab (w : World) (a b c d : Int) : (Op.equalIn 10000 29 (.agg #[(.int .i64 a), (.int .i64 b)]) (.agg #[(.int .i64 c), (.int .i64 d)])).run Try.prog w = .ok (sameL ⟨a, b⟩ ⟨c, d⟩) w := by
  unfold sameL
  by_cases q1 : a = c <;> by_cases q2 : b = d
  all_goals simp [go_sem, q1, q2, Try.underlying29]





end Go.Proofs.Ytofpknobahccdaa

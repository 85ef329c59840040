/- The laws' own helpers over slices of slices. -/
import Derived.Test.YtfmjnncgpfkejaaGreatP3
import Derived.Test.YtfmjnncgpfkejaaGreatJ2
set_option maxRecDepth 100000
set_option linter.unusedVariables false
namespace Go.Proofs.YtfmjnncgpfkejaaGreat
open Go.RowKit Go.Fin1

/-- How much a list takes of the laws' bound. -/
@[irreducible] def szL {α : Type} (f : α → Nat) (l : List α) : Nat := l.length + (l.map f).sum
theorem szL_len {α : Type} (f : α → Nat) (l : List α) : l.length ≤ szL f l := by unfold szL; omega
theorem sum_take {α : Type} (f : α → Nat) {l : List α} {k : Nat} (hk : k < l.length) : ((l.take (k + 1)).map f).sum = ((l.take k).map f).sum + f l[k] := by
  rw [List.take_succ_eq_append_getElem hk]; simp only [List.map_append, List.sum_append, List.map_cons, List.map_nil, List.sum_cons, List.sum_nil, Nat.add_zero]
theorem sum_take_le {α : Type} (f : α → Nat) : ∀ (l : List α) (k : Nat), ((l.take k).map f).sum ≤ (l.map f).sum
  | [], k => by simp
  | x :: l, 0 => by simp
  | x :: l, k + 1 => by have := sum_take_le f l k; simp only [List.take_succ_cons, List.map_cons, List.sum_cons]; omega
theorem szL_take {α : Type} (f : α → Nat) {l : List α} {k : Nat} (hk : k < l.length) : ((l.take (k + 1)).map f).sum = ((l.take k).map f).sum + f l[k] := sum_take f hk
theorem szL_le {α : Type} (f : α → Nat) {l : List α} {k : Nat} (hk : k < l.length) : l.length + ((l.take k).map f).sum + f l[k] ≤ szL f l := by
  unfold szL
  have := sum_take_le f l (k + 1)
  rw [sum_take f hk] at this; omega
theorem szL_at {α : Type} (f : α → Nat) {l : List α} {k : Nat} (hk : k < l.length) : f l[k] ≤ szL f l := by have := szL_le f hk; omega


end Go.Proofs.YtfmjnncgpfkejaaGreat

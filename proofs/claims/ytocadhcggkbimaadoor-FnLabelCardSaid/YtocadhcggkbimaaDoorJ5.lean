/- The walks of JobsRight and its law. -/
import Derived.Test.YtocadhcggkbimaaDoorJ4
set_option maxRecDepth 100000
set_option linter.unusedVariables false
namespace Go.Proofs.YtocadhcggkbimaaDoor
open Go.ChangeShapes Go.WideShapes Go.ChangeAt Go.RowKit Go.Fin1


theorem SlR.take {α : Type} {w : World} {K n cap k : Nat} {r : World → List Value → α → Prop} {a : Option Addr} {xs : List α} (h : SlR w K r (.slice a n cap) xs) (hk : k ≤ xs.length) : SlR w K r (.slice a k cap) (xs.take k) := by
  obtain ⟨a', cap', hv, h1, h2, h3⟩ := h
  obtain ⟨rfl, rfl, rfl⟩ : a = a' ∧ n = xs.length ∧ cap = cap' := by simpa using hv
  refine ⟨a, cap, by simp [Nat.min_eq_left hk], by simp; omega, h2, fun i hi => ?_⟩
  have hi' : i < xs.length := by simp at hi; omega
  obtain ⟨b, off, cs, ha, hl, hc, hr⟩ := h3 i hi'
  exact ⟨b, off, cs, ha, hl, hc, by simpa using hr⟩

/-- How many jobs bear a label. -/
@[irreducible] def cntL (l : List Jb) (x : Lab) : Nat := (l.filter (fun j => sameL j.l x)).length
theorem cntL_step {l : List Jb} {x : Lab} {k : Nat} (hk : k < l.length) : cntL (l.take (k + 1)) x = cntL (l.take k) x + if sameL l[k].l x then 1 else 0 := by
  unfold cntL
  rw [List.take_succ_eq_append_getElem hk, List.filter_append, List.length_append]
  congr 1
  by_cases h : sameL l[k].l x <;> simp [h]
theorem cntL_le (l : List Jb) (x : Lab) : cntL l x ≤ l.length := by unfold cntL; exact List.length_filter_le _ _
theorem sameL_self (a : Lab) : sameL a a = true := by simp [sameL]


end Go.Proofs.YtocadhcggkbimaaDoor

/- Composite literals: slices of labels that were just built. -/
import Derived.Test.YtkhmdhdaldbbhaaVBC
import Derived.Test.YtkhmdhdaldbbhaaZZ1
set_option maxRecDepth 100000
set_option linter.unusedVariables false
namespace Go.Proofs.Ytkhmdhdaldbbhaa
open Go.RowKit Go.Fin1
/-- A block that holds labels reads as their list. -/
theorem slr_labB {W : World} {b n : Nat} {ty : Nat} {ls : List Lab} (h : Blk W b (ls.flatMap Lab.cells) ty) (hn : n = ls.length) (hok : ∀ x ∈ ls, x.ok) (hm : ls.length ≤ maxLen) : SlR W 2 rLab (.slice (some ⟨b, 0, none⟩) n n) ls := by
  subst hn
  refine ⟨_, ls.length, rfl, Nat.le_refl _, hm, fun i hi => ⟨b, 0, ls[i].cells, rfl, rfl, fun j u hu => ?_, rfl, hok _ (List.getElem_mem hi)⟩⟩
  have hj : j < 2 := (List.getElem?_eq_some_iff.1 hu).1
  have hl : ((ls.flatMap Lab.cells).drop (i * 2)).take 2 = ls[i].cells := by
    have key : ∀ (l : List Lab) (i : Nat) (hi : i < l.length), ((l.flatMap Lab.cells).drop (i * 2)).take 2 = l[i].cells := by
      intro l
      induction l with
      | nil => intro i hi; cases hi
      | cons a l ih =>
        intro i hi
        cases i with
        | zero => rw [List.flatMap_cons]; rfl
        | succ i =>
          have := ih i (by simpa using hi)
          rw [List.flatMap_cons, List.getElem_cons_succ, ← this, Nat.add_mul, Nat.one_mul, Nat.add_comm (i * 2) 2, ← List.drop_drop]
          rfl
    exact key ls i hi
  rw [h.cell, Nat.zero_add]
  rw [← hl, List.getElem?_take, if_pos hj, List.getElem?_drop] at hu
  exact hu
/-- A block of slices reads as a list of lists. -/
theorem slr_valB {α : Type} {W : World} {b n : Nat} {ty : Nat} {vs : List Value} {r : World → List Value → α → Prop} {xs : List α} (h : Blk W b vs ty) (hn : n = xs.length) (hl : vs.length = xs.length) (hm : xs.length ≤ maxLen) (hr : ∀ (i : Nat) (h1 : i < vs.length) (h2 : i < xs.length), r W [vs[i]] xs[i]) : SlR W 1 r (.slice (some ⟨b, 0, none⟩) n n) xs := by
  subst hn
  refine ⟨_, xs.length, rfl, Nat.le_refl _, hm, fun i hi => ⟨b, 0, [vs[i]'(by omega)], rfl, rfl, fun j u hu => ?_, hr i (by omega) hi⟩⟩
  have hj : j = 0 := by
    have := (List.getElem?_eq_some_iff.1 hu).1
    simp at this; omega
  subst hj
  rw [h.cell, Nat.zero_add, Nat.mul_one, Nat.add_zero, List.getElem?_eq_getElem (by omega)]
  simpa using hu
end Go.Proofs.Ytkhmdhdaldbbhaa

/- append to a slice of the call's own, as an operation that turns that slice's block alone. -/
import Derived.Test.YtfkjdiaeblcimaaI
import Derived.Test.YtfkjdiaeblcimaaV
set_option maxRecDepth 100000
set_option linter.unusedVariables false
namespace Go
open Go.RowKit
/-- The block of a slice. -/
def blkL : Value → List Nat
  | .slice (some a) _ _ => [a.block]
  | _ => []
theorem grownBy_chg {w w' : World} {v : Value} (h : w.grownBy w' v.ownBlock) : Chg (blkL v) w w' := by
  refine ⟨h.os, h.tape, h.output, h.size, fun k hk hn => h.block k hk fun e => hn ?_⟩
  unfold Value.ownBlock at e
  unfold blkL
  split at e
  · simp at e; subst e; simp
  · cases e
section
variable {α : Type} {P : Program} {ops : Array Oper} {rest : List Oper} {op : Oper} {a : Act} {Q : Exit → Act → World → Prop}
theorem Row.appC {t e : TypeId} {size bytes : Nat} {W : World} {f : α → List Value} (E : ElemInfo P t e size bytes) (hgd : op.guard = none) (s x : Operand)
    (ho : op.op = .call { callee := .builtin .append, args := #[s, x], argTypes := #[t, t] })
    (B : Nat) (hB : B ≤ W.heap.size) (v : Value) (xs : List α) (hs : a.eval s = v) (hown : Row B W e size f v xs)
    (ad : Addr) (m c : Nat) (ys : List α) (hx : a.eval x = .slice (some ad) m c) (hm : m = ys.length) (hf : ∀ x, (f x).length = size) (hnews : ∀ j u, (ys.flatMap f)[j]? = some u → W.cell? (ad.add j) = some u) (h1 : ∀ u ∈ ys.flatMap f, u.oneCell' = true)
    (h63 : xs.length + ys.length ≤ maxLen) (hbytes : (xs.length + ys.length) * bytes ≤ 140737488355328)
    (h : ∀ v' w', Row B w' e size f v' (xs ++ ys) → Chg (blkL v) W w' → wpList P ops Q rest (a.put op.dst v') w') : wpList P ops Q (op :: rest) a W := by
  subst hm
  obtain ⟨i, z, hi, hz, hsize, hby, hzs⟩ := E.info
  refine wpList_append_own W hgd s x t ho B e i z size bytes E.und hi hz hsize hby hzs E.pos v xs.length (xs.flatMap f) hs hown ad ys.length c (ys.flatMap f) hx (flatMap_len hf ys) hnews h1 h63 hbytes hB ?_
  intro v' w' ho' hg hne
  refine h v' w' ?_ (grownBy_chg hg)
  unfold Row
  rw [List.length_append, List.flatMap_append]
  exact ho'
end
theorem Row.blk {α : Type} {B : Nat} {w : World} {ty K : Nat} {f : α → List Value} {v : Value} {xs : List α} (h : Row B w ty K f v xs) : ∀ b ∈ blkL v, B ≤ b ∧ b < w.heap.size := by
  rcases h.2 with ⟨rfl, _⟩ | ⟨g, cap, cur, rfl, hb, hg, _⟩
  · intro b hb; cases hb
  · intro b hbm
    simp [blkL] at hbm
    subst hbm
    exact ⟨hb, (Array.getElem?_eq_some_iff.1 hg).1⟩
theorem Row.chg {α : Type} {B : Nat} {w w' : World} {S : List Nat} {ty K : Nat} {f : α → List Value} {v : Value} {xs : List α} (h : Row B w ty K f v xs) (hx : Chg S w w') (hd : ∀ b ∈ blkL v, b ∉ S) : Row B w' ty K f v xs := by
  refine ⟨h.1, ?_⟩
  rcases h.2 with hn | ⟨g, cap, cur, rfl, hb, hg, hh⟩
  · exact .inl hn
  · exact .inr ⟨g, cap, cur, rfl, hb, by rw [hx.block g (Array.getElem?_eq_some_iff.1 hg).1 (hd g (by simp [blkL]))]; exact hg, hh⟩
open XReg in
theorem ZReg.endG {P : Program} {ops : Array Oper} {F : World → Prop} {a : Act} {w : World} (h : ∀ W, W = w → F W) : RunZ P ops F [] a w := ZReg.end_ (h w rfl)
theorem Row.madeB' {α : Type} {W : World} {b B ty K : Nat} {f : α → List Value} (hb : b = W.heap.size) (hB : B ≤ W.heap.size) : Row B (W.alloc (.cells #[] ty)) ty K f (.slice (some ⟨b, 0, none⟩) 0 0) [] := by
  subst hb; exact (Row.made W ty K f).mono hB
end Go

/- Owned flat lists as rows; the type of a row's block. -/
import Derived.Test.YtfmjnncgpfkejaaGreatBG
import Derived.Test.YtfmjnncgpfkejaaGreatE5
set_option maxRecDepth 100000
set_option linter.unusedVariables false
namespace Go
open Go.RowKit
theorem flat_pieces {α : Type} {f : α → List Value} {K : Nat} : ∀ (xs : List α) (l : List Value), (∀ (i : Nat) (h : i < xs.length), (l.drop (i * K)).take K = f xs[i]) → l.take (xs.length * K) = xs.flatMap f
  | [], l, _ => by simp
  | x :: xs, l, h => by
    have h0 := h 0 (by simp)
    simp only [Nat.zero_mul, List.drop_zero, List.getElem_cons_zero] at h0
    have ih := flat_pieces (f := f) (K := K) xs (l.drop K) fun i hi => by
      have := h (i + 1) (by simpa using hi)
      rw [List.getElem_cons_succ] at this
      rw [List.drop_drop, ← this, Nat.add_mul, Nat.one_mul, Nat.add_comm K]
    rw [List.flatMap_cons, ← h0, ← ih, List.length_cons, Nat.add_mul, Nat.one_mul, Nat.add_comm, List.take_add]
theorem Own.rowF {α : Type} {B : Nat} {w : World} {ty K : Nat} {f : α → List Value} {fp : List Nat} {v : Value} {xs : List α} (hK : ∀ x, (f x).length = K) (h : Own B w (oSl ty K (oFlat f)) fp [v] xs) : Row B w ty K f v xs := by
  obtain ⟨⟨v', hv, h⟩, hnd, hge⟩ := h
  obtain rfl : v = v' := by simpa using hv
  rcases h with ⟨rfl, rfl, _⟩ | ⟨g, cap, cur, fps, rfl, hg, hsz, hl, hm, hf, rfl, h⟩
  · exact ⟨by simp, .inl ⟨rfl, rfl⟩⟩
  · refine ⟨flatMap_len hK xs, .inr ⟨g, cap, cur, rfl, hge g (by simp), hg, hl, hm, hsz, ?_⟩⟩
    exact flat_pieces xs _ fun i hi => (h i hi _ (List.getElem?_eq_getElem (by omega))).2
theorem Row.type {α : Type} {B : Nat} {w : World} {ty K : Nat} {f : α → List Value} {v : Value} {xs : List α} (h : Row B w ty K f v xs) : ∀ b ∈ blkL v, ∃ cur, w.heap[b]? = some (.cells cur ty (0, 0)) := by
  rcases h.2 with ⟨rfl, _⟩ | ⟨g, cap, cur, rfl, hb, hg, _⟩
  · intro b hb; cases hb
  · intro b hbm
    obtain rfl : b = g := by simpa [blkL] using hbm
    exact ⟨cur, hg⟩
theorem Chg.past {S T : List Nat} {a b c : World} (h : Chg S a b) (k : Chg T b c) (hT : ∀ x ∈ T, a.heap.size ≤ x) : Chg S a c :=
  ⟨k.os.trans h.os, k.tape.trans h.tape, k.output.trans h.output, Nat.le_trans h.size k.size, fun i hi hs => (k.block i (Nat.lt_of_lt_of_le hi h.size) (fun hx => by have := hT i hx; omega)).trans (h.block i hi hs)⟩
section
variable {α : Type} {P : Program} {ops : Array Oper} {rest : List Oper} {op : Oper} {a : Act} {Q : Exit → Act → World → Prop}
/-- append of one element that was just laid, in a world of which nothing is said. -/
theorem Row.appN {t e : TypeId} {size bytes : Nat} {W : World} {cs : Array Value} {f : α → List Value} (E : ElemInfo P t e size bytes) (hgd : op.guard = none) (s x : Operand)
    (ho : op.op = .call { callee := .builtin .append, args := #[s, x], argTypes := #[t, t] })
    (B : Nat) (hB : B ≤ W.heap.size) (v : Value) (xs : List α) (hs : a.eval s = v) (hown : Row B W e size f v xs) (y : α) (hy : cs.toList = f y)
    (b0 : Nat) (hb0 : b0 = W.heap.size) (hx : a.eval x = .slice (some ⟨b0, 0, none⟩) 1 1) (hf : ∀ x, (f x).length = size) (h1 : ∀ u ∈ cs.toList, u.oneCell' = true)
    (h63 : xs.length + 1 ≤ maxLen) (hbytes : (xs.length + 1) * bytes ≤ 140737488355328)
    (h : ∀ v' w', Row B w' e size f v' (xs ++ [y]) → Chg (blkL v) W w' → wpList P ops Q rest (a.put op.dst v') w') : wpList P ops Q (op :: rest) a (W.alloc (.cells cs e)) := by
  subst hb0
  have hx1 : Ext W (W.alloc (.cells cs e)) := (Ext.refl _).alloc _
  refine Row.appC E hgd s x ho B (by rw [World.size_alloc]; omega) v xs hs (hown.ext hx1) ⟨W.heap.size, 0, none⟩ 1 1 [y] hx rfl hf (fun j u hu => ?_) (by simpa [← hy] using h1) (by simpa using h63) (by simpa using hbytes) ?_
  · rw [Addr.add_lit, Nat.zero_add, World.cell?_alloc_new]
    simpa [← hy] using hu
  · intro v' w' hR hc
    exact h v' w' hR ((hx1.chg _).trans hc)
end
/-- A block of ours, whole. -/
def Blk (w : World) (b : Nat) (cs : List Value) (ty : TypeId) : Prop := w.heap[b]? = some (.cells cs.toArray ty (0, 0))
theorem Blk.chg {S : List Nat} {w w' : World} {b : Nat} {cs : List Value} {ty : TypeId} (h : Blk w b cs ty) (hx : Chg S w w') (hb : b ∉ S) : Blk w' b cs ty := by
  unfold Blk at *; rw [hx.block b (Array.getElem?_eq_some_iff.1 h).1 hb]; exact h
theorem Blk.ext {w w' : World} {b : Nat} {cs : List Value} {ty : TypeId} (h : Blk w b cs ty) (hx : Ext w w') : Blk w' b cs ty := h.chg (hx.chg []) (by simp)
theorem Blk.old {w : World} {b : Nat} {cs : List Value} {ty : TypeId} (h : Blk w b cs ty) : w.old b := (Array.getElem?_eq_some_iff.1 h).1
theorem Blk.cell {w : World} {b : Nat} {cs : List Value} {ty : TypeId} (h : Blk w b cs ty) (i : Nat) : w.cell? ⟨b, i, none⟩ = cs[i]? := by rw [cell_of_heap h]; simp
theorem Blk.fz {w : World} {b : Nat} {cs : List Value} {ty : TypeId} (h : Blk w b cs ty) (i : Nat) : w.frozen? ⟨b, i, none⟩ = false := frozen_of_heap h i
theorem Blk.new {w : World} {b : Nat} {cs : Array Value} {ty : TypeId} (hb : b = w.heap.size) : Blk (w.alloc (.cells cs ty)) b cs.toList ty := by
  subst hb; unfold Blk; simpa using heap_alloc_new w (.cells cs ty)
theorem Blk.set {w : World} {b : Nat} {cs : List Value} {ty : TypeId} (h : Blk w b cs ty) (i : Nat) (v : Value) : Blk (w.setCell ⟨b, i, none⟩ v) b (cs.set i v) ty := by
  have := setCell_heap h i v
  unfold Blk; rw [this]; simp
theorem made_zero (z : Value) (n : Nat) : (madeCells #[z] (n * 1)).toList = List.replicate n z := by
  refine List.ext_getElem? fun j => ?_
  by_cases hj : j < n
  · simp [madeCells, hj, Nat.mod_one]
  · have hz : (madeCells #[z] n).size = n := size_madeCells _ _
    rw [Nat.mul_one, List.getElem?_eq_none (by rw [Array.length_toList, hz]; omega), List.getElem?_eq_none (by rw [List.length_replicate]; omega)]
end Go

/- The draws of spans. -/
import Derived.Test.YtocadhcggkbimaaDR3
import Derived.Test.YtocadhcggkbimaaT3
import Derived.Test.YtocadhcggkbimaaQ2
import Derived.Test.YtocadhcggkbimaaQ5
import Derived.Test.YtocadhcggkbimaaE5
set_option maxRecDepth 100000
set_option linter.unusedVariables false
namespace Go
open Go.RowKit
/-- A block of ours, whole. -/
def Blk (w : World) (b : Nat) (cs : List Value) (ty : TypeId) : Prop := w.heap[b]? = some (.cells cs.toArray ty (0, 0))
theorem Blk.chg {S : List Nat} {w w' : World} {b : Nat} {cs : List Value} {ty : TypeId} (h : Blk w b cs ty) (hx : Chg S w w') (hb : b ∉ S) : Blk w' b cs ty := by
  unfold Blk at *; rw [hx.block b (Array.getElem?_eq_some_iff.1 h).1 hb]; exact h
theorem Blk.ext {w w' : World} {b : Nat} {cs : List Value} {ty : TypeId} (h : Blk w b cs ty) (hx : Ext w w') : Blk w' b cs ty := h.chg (hx.chg []) (by simp)
theorem Blk.old {w : World} {b : Nat} {cs : List Value} {ty : TypeId} (h : Blk w b cs ty) : w.old b := (Array.getElem?_eq_some_iff.1 h).1
theorem Blk.cell {w : World} {b : Nat} {cs : List Value} {ty : TypeId} (h : Blk w b cs ty) (i : Nat) : w.cell? ⟨b, i, none⟩ = cs[i]? := by rw [cell_of_heap h]; simp
theorem Blk.fz {w : World} {b : Nat} {cs : List Value} {ty : TypeId} (h : Blk w b cs ty) (i : Nat) : w.frozen? ⟨b, i, none⟩ = false := frozen_of_heap h i
theorem Blk.new {w : World} {b : Nat} {cs : Array Value} {ty : TypeId} (hb : b = w.heap.size) : Blk (w.alloc (.cells cs ty)) b cs.toList ty := by
  subst hb; unfold Blk; simpa using heap_alloc_new w (.cells cs ty)
theorem Blk.set {w : World} {b : Nat} {cs : List Value} {ty : TypeId} (h : Blk w b cs ty) (i : Nat) (v : Value) : Blk (w.setCell ⟨b, i, none⟩ v) b (cs.set i v) ty := by
  have := setCell_heap h i v
  unfold Blk; rw [this]; simp
end Go
namespace Go.Proofs.Ytocadhcggkbimaa
open Go.RowKit Go.Fin1

end Go.Proofs.Ytocadhcggkbimaa

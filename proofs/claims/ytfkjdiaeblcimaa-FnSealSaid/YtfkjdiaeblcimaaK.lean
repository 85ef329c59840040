/- Small words for the walks of this seat: a world that has grown ('plus'), what is old in it, a few closing lemmas. No statement is proved here. -/
import Derived.Test.YtfkjdiaeblcimaaRows
import Derived.WalkKit
import Derived.WalkSpells
import Derived.WalkLawsBesides
import Derived.Lib.Hide
set_option maxRecDepth 100000
namespace Go
/-- What a call may add to a world: new blocks, and another count of draws. -/
structure More where
  objs : Array Obj
  drawn : Nat
def More.n (X : More) : Nat := X.objs.size
def World.plus (w : World) (X : More) : World := { w with heap := w.heap ++ X.objs, drawn := X.drawn }
/-- Block b is there already. -/
def World.old (w : World) (b : Nat) : Prop := b < w.heap.size
theorem World.old_of_lt {w : World} {b : Nat} (h : b < w.heap.size) : w.old b := h
theorem World.old_of_cell {w : World} {b o : Nat} {v : Value} (h : w.cell? ⟨b, o, none⟩ = some v) : w.old b := World.block_lt_of_cell? w _ h
def More.has (X : More) (w : World) (b : Nat) : Prop := w.heap.size ≤ b ∧ b < w.heap.size + X.n
@[go_sem, simp] theorem World.size_plus (w : World) (X : More) : (w.plus X).heap.size = w.heap.size + X.n := by simp [World.plus, More.n]
@[go_sem, simp] theorem World.tape_plus (w : World) (X : More) : (w.plus X).tape = w.tape := rfl
@[go_sem low] theorem World.old_alloc (w : World) (o : Obj) (b : Nat) : (w.alloc o).old b = (b = w.heap.size ∨ w.old b) := by
  simp only [World.old, World.size_alloc, eq_iff_iff]; omega
@[go_sem low] theorem World.old_plus (w : World) (X : More) (b : Nat) : (w.plus X).old b = (X.has w b ∨ w.old b) := by
  simp only [World.old, World.size_plus, More.has, eq_iff_iff]; omega
@[go_sem] theorem World.old_drew (w : World) (b : Nat) : w.drew.old b = w.old b := rfl
@[go_sem] theorem World.old_setCell (w : World) (a : Addr) (v : Value) (b : Nat) : (w.setCell a v).old b = w.old b := by simp [World.old]
@[go_sem] theorem World.cell?_alloc_was (w : World) (o : Obj) (b i : Nat) (h : w.old b) : (w.alloc o).cell? ⟨b, i, none⟩ = w.cell? ⟨b, i, none⟩ := World.cell?_alloc_lt w o _ h
@[go_sem] theorem World.frozen?_alloc_was (w : World) (o : Obj) (b i : Nat) (h : w.old b) : (w.alloc o).frozen? ⟨b, i, none⟩ = w.frozen? ⟨b, i, none⟩ := World.frozen?_alloc_old w o _ (Nat.ne_of_lt h)
theorem World.heap_plus (w : World) (X : More) (b : Nat) (h : w.old b) : (w.plus X).heap[b]? = w.heap[b]? := by
  simp only [World.plus]; exact Array.getElem?_append_left h
@[go_sem] theorem World.cell?_plus (w : World) (X : More) (b i : Nat) (h : w.old b) : (w.plus X).cell? ⟨b, i, none⟩ = w.cell? ⟨b, i, none⟩ := by
  simp only [World.cell?, World.heap_plus w X b h]
@[go_sem] theorem World.frozen?_plus (w : World) (X : More) (b i : Nat) (h : w.old b) : (w.plus X).frozen? ⟨b, i, none⟩ = w.frozen? ⟨b, i, none⟩ := by
  simp only [World.frozen?, World.heap_plus w X b h]
@[go_sem] theorem World.setCell_plus (w : World) (X : More) (b i : Nat) (v : Value) (h : w.old b) : (w.plus X).setCell ⟨b, i, none⟩ v = (w.setCell ⟨b, i, none⟩ v).plus X := by
  simp only [World.setCell, World.plus, World.mk.injEq, and_true]
  refine Array.ext_getElem? fun k => ?_
  simp only [Array.getElem?_modify, Array.getElem?_append, Array.size_modify]
  by_cases hk : k < w.heap.size
  · simp only [hk, if_true]
  · have hb : b < w.heap.size := h
    have : b ≠ k := by omega
    simp only [hk, if_false, this]
@[go_sem] theorem World.plus_drew (w : World) (X : More) : (w.plus X).drew = w.plus ⟨X.objs, X.drawn + 1⟩ := rfl
@[go_sem] theorem World.drew_plus (w : World) (X : More) : w.drew.plus X = w.plus X := rfl
/-- w' is w, grown: all that was there stands as it stood. -/
def Ext (w w' : World) : Prop := ∃ X : More, w' = w.plus X
theorem Ext.refl (w : World) : Ext w w := ⟨⟨#[], w.drawn⟩, by simp [World.plus]⟩
theorem Ext.trans {a b c : World} (h : Ext a b) (k : Ext b c) : Ext a c := by
  obtain ⟨X, rfl⟩ := h; obtain ⟨Y, rfl⟩ := k
  exact ⟨⟨X.objs ++ Y.objs, Y.drawn⟩, by simp [World.plus, Array.append_assoc]⟩
theorem Ext.alloc {a b : World} (h : Ext a b) (o : Obj) : Ext a (b.alloc o) :=
  h.trans ⟨⟨#[o], b.drawn⟩, by simp only [World.plus, World.alloc, Array.push_eq_append]⟩
theorem Ext.plus {a b : World} (h : Ext a b) (X : More) : Ext a (b.plus X) := h.trans ⟨X, rfl⟩
theorem Ext.drew {a b : World} (h : Ext a b) : Ext a b.drew := h.trans ⟨⟨#[], b.drawn + 1⟩, by simp only [World.plus, World.drew, Array.append_empty]⟩
theorem Ext.below {w w' : World} (h : Ext w w') : RowKit.Below w.heap.size w w' := by
  obtain ⟨X, rfl⟩ := h
  exact ⟨rfl, rfl, rfl, by simp, fun k hk => World.heap_plus w X k hk⟩
theorem Ext.of_below {w w' : World} (h : RowKit.Below w.heap.size w w') : Ext w w' := by
  refine ⟨⟨w'.heap.extract w.heap.size w'.heap.size, w'.drawn⟩, ?_⟩
  have e : w'.heap = w.heap ++ w'.heap.extract w.heap.size w'.heap.size := by
    refine Array.ext_getElem? fun k => ?_
    rw [Array.getElem?_append]
    by_cases hk : k < w.heap.size
    · rw [if_pos hk, h.block k hk]
    · rw [if_neg hk, Array.getElem?_extract]
      have := h.size
      by_cases hk' : k < w'.heap.size
      · rw [if_pos (by omega)]; congr 1; omega
      · rw [if_neg (by omega), Array.getElem?_eq_none (by omega)]
  cases w; cases w'
  simp only [World.plus, World.mk.injEq] at *
  exact ⟨e, h.tape, trivial, h.os, h.output⟩
theorem Ext.grown {w a w' : World} {row : Option Nat} (h : Ext w a) (hg : a.grownBy w' row) (hr : ∀ k, row = some k → w.heap.size ≤ k) : Ext w w' :=
  Ext.of_below (h.below.grown hg h.below.size hr)
theorem Ext.setCell {w a : World} (h : Ext w a) {p : Addr} (hp : w.heap.size ≤ p.block) (u : Value) : Ext w (a.setCell p u) :=
  Ext.of_below (h.below.setCell hp u)
namespace Fin1
theorem ret_bool {a b : Bool} (h : a = b) : Ending.returned (.bool a) = .returned (.bool b) := by rw [h]
theorem ret_int {k : IntKind} {a b : Int} (h : a = b) : Ending.returned (.int k a) = .returned (.int k b) := by rw [h]
theorem ret_str {a b : ByteArray} (h : a = b) : Ending.returned (.string a) = .returned (.string b) := by rw [h]
end Fin1
end Go

/- Results that lie in a block of their own: what its cells hold, and how that stays. -/
import Derived.Test.YtfmjnncgpfkejaaGreatE4
import Derived.Test.YtfmjnncgpfkejaaGreatJ8
set_option maxRecDepth 100000
set_option linter.unusedVariables false
namespace Go
open Go.RowKit
/-- The first cells of block b. -/
def CellsAt (w : World) (b : Nat) (cs : List Value) : Prop := ∀ i u, cs[i]? = some u → w.cell? ⟨b, i, none⟩ = some u
theorem CellsAt.ext {w w' : World} {b : Nat} {cs : List Value} (h : CellsAt w b cs) (hx : Ext w w') : CellsAt w' b cs := fun i u hu => hx.cell (h i u hu)
theorem CellsAt.chg {S : List Nat} {w w' : World} {b : Nat} {cs : List Value} (h : CellsAt w b cs) (hx : Chg S w w') (hb : b ∉ S) : CellsAt w' b cs := fun i u hu => by
  have := h i u hu
  have hlt := World.block_lt_of_cell? w _ this
  simp only [World.cell?, hx.block b hlt hb] at this ⊢
  exact this
theorem CellsAt.new {α : Type} {B : Nat} {A : World} {o : Ow α} {fp : List Nat} {v : List Value} {x : α} (h : Own B A o fp v x) (cs : List Value) (ty : TypeId) : CellsAt (A.alloc (.cells cs.toArray ty)) A.heap.size cs := fun i u hu => by
  rw [World.cell?_alloc_new]; simpa using hu
theorem CellsAt.of_heap {w : World} {b : Nat} {cs : List Value} {ty : TypeId} (h : w.heap[b]? = some (.cells cs.toArray ty (0, 0))) : CellsAt w b cs := fun i u hu => by
  rw [cell_of_heap h]; simpa using hu
/-- A world under a name of its own. -/
theorem gen_world {P : Program} {c : Code} {Q : Exit → Act → World → Prop} {a : Act} {W0 : World} (h : ∀ W, W = W0 → c.wp P Q a W) : c.wp P Q a W0 := h W0 rfl
theorem gen_calls {P : Program} {f : Nat} {args : Array Value} {Q : Ending → World → Prop} {W0 : World} (h : ∀ W, W = W0 → Calls P f args W Q) : Calls P f args W0 Q := h W0 rfl
theorem CellsAt.lay {w : World} {b : Nat} {cs0 cs : List Value} {ty : TypeId} (h : w.heap[b]? = some (.cells cs0.toArray ty (0, 0))) (hs : spl cs0.toArray 0 cs = cs.toArray) : CellsAt (w.layCells b 0 cs) b cs :=
  CellsAt.of_heap (ty := ty) (by rw [layCells_heap cs 0 h, hs])
/-- The blocks of flat elements bear their type. -/
theorem oFl_type {α : Type} {ty K : Nat} {f : α → List Value} {w : World} {fp : List Nat} {v : Value} {xs : List α} (h : oSl ty K (oFlat f) w fp [v] xs) : ∀ b ∈ fp, ∃ cur, w.heap[b]? = some (.cells cur ty (0, 0)) := by
  obtain ⟨v', hv, h⟩ := h
  rcases h with ⟨_, _, rfl⟩ | ⟨g, cap, cur, fps, hv, hg, hsz, hl, hm, hf, rfl, h⟩
  · intro b hb; cases hb
  · intro b hb
    rcases List.mem_cons.1 hb with rfl | hb
    · exact ⟨cur, hg⟩
    · obtain ⟨fi, hfi, hbf⟩ := List.mem_flatten.1 hb
      obtain ⟨i, hi, rfl⟩ := List.getElem_of_mem hfi
      have := (h i (by omega) _ (List.getElem?_eq_getElem hi)).1
      rw [this] at hbf; cases hbf
theorem apart_of_type {w : World} {g : Nat} {cur : Array Value} {t t' : TypeId} (hg : w.heap[g]? = some (.cells cur t (0, 0))) (ht : t ≠ t') {fp : List Nat} (h : ∀ b ∈ fp, ∃ cur, w.heap[b]? = some (.cells cur t' (0, 0))) : g ∉ fp := fun hb => by
  obtain ⟨cur', h'⟩ := h g hb
  rw [hg] at h'
  simp at h'
  exact ht h'.2
/-- A fresh block. -/
def kBox (B : Nat) (cs : List Value) (ty : TypeId) : XReg.Kind := fun v w => ∃ g, v = .pointer (some ⟨g, 0, none⟩) ∧ B ≤ g ∧ w.heap[g]? = some (.cells cs.toArray ty (0, 0))
theorem kBox_good (W0 : World) (cs : List Value) (ty : TypeId) : XReg.GoodK (kBox W0.heap.size cs ty) :=
  ⟨fun v w w' hx ⟨g, hv, hB, hg⟩ => ⟨g, hv, hB, by obtain ⟨X, rfl⟩ := hx; rw [World.heap_plus w X g (Array.getElem?_eq_some_iff.1 hg).1]; exact hg⟩,
    _, W0.alloc (.cells cs.toArray ty), W0.heap.size, rfl, Nat.le_refl _, Array.getElem?_push_size⟩
theorem kBox_g {B : Nat} {cs : List Value} {ty : TypeId} {g : Nat} {w : World} (h : kBox B cs ty (.pointer (some ⟨g, 0, none⟩)) w) : B ≤ g ∧ w.heap[g]? = some (.cells cs.toArray ty (0, 0)) := by
  obtain ⟨g', hv, h1, h2⟩ := h
  obtain rfl : g = g' := by simpa using hv
  exact ⟨h1, h2⟩
end Go
namespace Go.Proofs.YtfmjnncgpfkejaaGreat
open Go.RowKit Go.Fin1
/-- A value that is this job, its nodes in a list of integers of their own. -/
def kJobO (j : Jb) : XReg.Kind := fun v w => ∃ a c fp, v = j.val (.slice a j.nodes.length c) ∧ oIntS w fp [.slice a j.nodes.length c] j.nodes
theorem kJobO_in {j : Jb} {nv : Value} {w : World} {fp : List Nat} (h : oIntS w fp [nv] j.nodes) : kJobO j (j.val nv) w := by
  obtain ⟨a, c, rfl, _, _⟩ := oSl_shape h
  exact ⟨a, c, fp, rfl, h⟩
theorem kJobO_r {j : Jb} {nv : Value} {w : World} (h : kJobO j (j.val nv) w) : ∃ fp, oIntS w fp [nv] j.nodes := by
  obtain ⟨a, c, fp, hv, h⟩ := h
  rw [Jb.val_inj hv]; exact ⟨fp, h⟩
theorem kJobO_good {j : Jb} {nv : Value} {w : World} {fp : List Nat} (h : oIntS w fp [nv] j.nodes) : XReg.GoodK (kJobO j) :=
  ⟨fun _ _ _ hx ⟨a, c, fp, hv, h⟩ => ⟨a, c, fp, hv, oIntS_local.ext oIntS_held hx h⟩, _, w, kJobO_in h⟩
theorem oIntS_new (w : World) (xs : List Int) (hm : xs.length ≤ maxLen) : ∃ v w' fp, oIntS w' fp [v] xs := by
  obtain ⟨fp, h⟩ := Row.own (B := w.heap.size) (w := w.alloc (.cells (xs.map (Value.int .i64)).toArray 2)) (ty := 2) (K := 1) (f := intCell) (v := .slice (some ⟨w.heap.size, 0, none⟩) xs.length xs.length) (xs := xs) (fun _ => rfl)
    ⟨flatMap_len (K := 1) (fun _ => rfl) xs, .inr ⟨w.heap.size, xs.length, _, rfl, Nat.le_refl _, heap_alloc_new w _, Nat.le_refl _, hm, by simp, by
      rw [Nat.mul_one, List.take_of_length_le (by simp)]
      induction xs with
      | nil => rfl
      | cons x xs ih => simp [intCell] at ih ⊢; exact ih (by simp at hm; omega)⟩⟩
  exact ⟨_, _, fp, h.1⟩
end Go.Proofs.YtfmjnncgpfkejaaGreat

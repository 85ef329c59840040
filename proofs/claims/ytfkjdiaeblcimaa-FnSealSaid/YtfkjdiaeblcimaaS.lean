/- Memory that a value owns: footprints of blocks; what stays when other blocks turn. No statement is proved here. -/
import Derived.Test.YtfkjdiaeblcimaaR
import Derived.Test.YtfkjdiaeblcimaaO
set_option maxRecDepth 100000
namespace Go
open Go.RowKit
/-- w' is w but for the blocks of S, and grown. -/
structure Chg (S : List Nat) (w w' : World) : Prop where
  os : w'.os = w.os
  tape : w'.tape = w.tape
  output : w'.output = w.output
  size : w.heap.size ≤ w'.heap.size
  block : ∀ k, k < w.heap.size → k ∉ S → w'.heap[k]? = w.heap[k]?
theorem Chg.refl (S : List Nat) (w : World) : Chg S w w := ⟨rfl, rfl, rfl, Nat.le_refl _, fun _ _ _ => rfl⟩
theorem Chg.trans {S : List Nat} {a b c : World} (h : Chg S a b) (k : Chg S b c) : Chg S a c :=
  ⟨k.os.trans h.os, k.tape.trans h.tape, k.output.trans h.output, Nat.le_trans h.size k.size, fun i hi hs => (k.block i (Nat.lt_of_lt_of_le hi h.size) hs).trans (h.block i hi hs)⟩
theorem Chg.mono {S S' : List Nat} {w w' : World} (h : Chg S w w') (hs : ∀ b ∈ S, b ∈ S') : Chg S' w w' :=
  ⟨h.os, h.tape, h.output, h.size, fun k hk hn => h.block k hk fun hb => hn (hs k hb)⟩
theorem Ext.chg {w w' : World} (h : Ext w w') (S : List Nat) : Chg S w w' := by
  have b := h.below
  exact ⟨b.os, b.tape, b.output, b.size, fun k hk _ => b.block k hk⟩
theorem Chg.setCell {S : List Nat} {w a : World} (h : Chg S w a) {p : Addr} (hp : p.block ∈ S ∨ w.heap.size ≤ p.block) (u : Value) : Chg S w (a.setCell p u) := by
  refine ⟨h.os, h.tape, h.output, by simpa [World.setCell] using h.size, fun k hk hn => ?_⟩
  rw [Below.heap_setCell _ _ _ _ (fun e => by
    subst e
    rcases hp with hp | hp
    · exact hn hp
    · omega)]
  exact h.block k hk hn
/-- If all that may have turned is younger than w0, then w0 has only grown. -/
theorem Chg.ext {S : List Nat} {w0 w w' : World} (h0 : Ext w0 w) (h : Chg S w w') (hs : ∀ b ∈ S, w0.heap.size ≤ b) : Ext w0 w' := by
  have b := h0.below
  refine Ext.of_below ⟨h.os.trans b.os, h.tape.trans b.tape, h.output.trans b.output, Nat.le_trans b.size h.size, fun k hk => ?_⟩
  exact (h.block k (Nat.lt_of_lt_of_le hk b.size) fun hb => by have := hs k hb; omega).trans (b.block k hk)
section
variable {α β : Type}
/-- 'The cells cs, with what they lead to in the blocks fp, hold the datum x, and nobody else leads there.' -/
abbrev Ow (α : Type) := World → List Nat → List Value → α → Prop
def oFlat (f : α → List Value) : Ow α := fun _ fp cs x => fp = [] ∧ cs = f x
def oSl (ty k : Nat) (o : Ow α) : Ow (List α) := fun w fp cs xs => ∃ v, cs = [v] ∧ ((v = .slice none 0 0 ∧ xs = [] ∧ fp = []) ∨
  ∃ (g cap : Nat) (cur : Array Value) (fps : List (List Nat)), v = .slice (some ⟨g, 0, none⟩) xs.length cap ∧ w.heap[g]? = some (.cells cur ty (0, 0)) ∧ cur.size = cap * k ∧ xs.length ≤ cap ∧ cap ≤ maxLen ∧
    fps.length = xs.length ∧ fp = g :: fps.flatten ∧ ∀ (i : Nat) (h : i < xs.length) (fi : List Nat), fps[i]? = some fi → o w fi ((cur.toList.drop (i * k)).take k) xs[i])
/-- What hangs on the blocks of fp alone. -/
def Local (o : Ow α) : Prop := ∀ w w' fp cs x, (∀ b ∈ fp, w'.heap[b]? = w.heap[b]?) → o w fp cs x → o w' fp cs x
/-- Every block of the footprint is there. -/
def Held (o : Ow α) : Prop := ∀ w fp cs x, o w fp cs x → ∀ b ∈ fp, b < w.heap.size
theorem oFlat_local (f : α → List Value) : Local (oFlat f) := fun _ _ _ _ _ _ h => h
theorem oFlat_held (f : α → List Value) : Held (oFlat f) := fun _ fp _ _ h b hb => by rw [h.1] at hb; cases hb
theorem oSl_local {ty k : Nat} {o : Ow α} (ho : Local o) : Local (oSl ty k o) := by
  rintro w w' fp cs xs hb ⟨v, hcs, h⟩
  refine ⟨v, hcs, ?_⟩
  rcases h with h | ⟨g, cap, cur, fps, hv, hg, hsz, hl, hm, hf, rfl, h⟩
  · exact .inl h
  · refine .inr ⟨g, cap, cur, fps, hv, by rw [hb g (by simp)]; exact hg, hsz, hl, hm, hf, rfl, fun i hi fi hfi => ?_⟩
    exact ho w w' fi _ _ (fun b hbf => hb b (List.mem_cons_of_mem _ (List.mem_flatten.2 ⟨fi, List.mem_of_getElem? hfi, hbf⟩))) (h i hi fi hfi)
theorem oSl_held {ty k : Nat} {o : Ow α} (ho : Held o) : Held (oSl ty k o) := by
  rintro w fp cs xs ⟨v, hcs, h⟩ b hb
  rcases h with ⟨_, _, rfl⟩ | ⟨g, cap, cur, fps, hv, hg, hsz, hl, hm, hf, rfl, h⟩
  · cases hb
  · rcases List.mem_cons.1 hb with rfl | hb
    · exact (Array.getElem?_eq_some_iff.1 hg).1
    · obtain ⟨fi, hfi, hbf⟩ := List.mem_flatten.1 hb
      obtain ⟨i, hi, rfl⟩ := List.getElem_of_mem hfi
      exact ho w _ _ _ (h i (by omega) _ (List.getElem?_eq_getElem hi)) b hbf
theorem Local.ext {o : Ow α} (ho : Local o) (hh : Held o) {w w' : World} (hx : Ext w w') {fp : List Nat} {cs : List Value} {x : α} (h : o w fp cs x) : o w' fp cs x :=
  ho w w' fp cs x (fun b hb => by obtain ⟨X, rfl⟩ := hx; exact World.heap_plus w X b (hh w fp cs x h b hb)) h
/-- What is apart from the blocks that turned stays. -/
theorem Local.chg {o : Ow α} (ho : Local o) (hh : Held o) {S : List Nat} {w w' : World} (hx : Chg S w w') {fp : List Nat} {cs : List Value} {x : α} (hd : ∀ b ∈ fp, b ∉ S) (h : o w fp cs x) : o w' fp cs x :=
  ho w w' fp cs x (fun b hb => hx.block b (hh w fp cs x h b hb) (hd b hb)) h
/-- A reader that an owner pays. -/
def Reads (o : Ow α) (r : World → List Value → α → Prop) (k : Nat) : Prop := ∀ w fp cs x, o w fp cs x → cs.length = k ∧ r w cs x
theorem cell_of_heap {w : World} {g : Nat} {cur : Array Value} {ty : TypeId} (hg : w.heap[g]? = some (.cells cur ty (0, 0))) (j : Nat) : w.cell? ⟨g, j, none⟩ = cur[j]? := by
  simp [World.cell?, hg]
theorem frozen_of_heap {w : World} {g : Nat} {cur : Array Value} {ty : TypeId} (hg : w.heap[g]? = some (.cells cur ty (0, 0))) (j : Nat) : w.frozen? ⟨g, j, none⟩ = false := by
  simp [World.frozen?, hg]
theorem drop_take_get {cur : Array Value} {i k j : Nat} {u : Value} (h : ((cur.toList.drop (i * k)).take k)[j]? = some u) : cur[i * k + j]? = some u := by
  rw [List.getElem?_take] at h
  split at h
  · rw [List.getElem?_drop] at h; simpa using h
  · cases h
theorem oSl_reads {ty k : Nat} {o : Ow α} {r : World → List Value → α → Prop} (ho : Reads o r k) {w : World} {fp : List Nat} {cs : List Value} {xs : List α} (h : oSl ty k o w fp cs xs) : ∃ v, cs = [v] ∧ SlR w k r v xs := by
  obtain ⟨v, hcs, h⟩ := h
  refine ⟨v, hcs, ?_⟩
  rcases h with ⟨rfl, rfl, _⟩ | ⟨g, cap, cur, fps, rfl, hg, hsz, hl, hm, hf, rfl, h⟩
  · exact ⟨none, 0, rfl, Nat.le_refl _, Nat.zero_le _, fun i hi => absurd hi (Nat.not_lt_zero _)⟩
  · refine ⟨_, cap, rfl, hl, hm, fun i hi => ?_⟩
    obtain ⟨hk, hr⟩ := ho w _ _ _ (h i hi _ (List.getElem?_eq_getElem (by omega)))
    refine ⟨g, 0, _, rfl, hk, fun j u hu => ?_, hr⟩
    rw [cell_of_heap hg, show 0 + i * k + j = i * k + j from by omega]
    exact drop_take_get hu
end
end Go

/- Small tools for memory that a call owns: what stays when a block of another is written. No statement is proved here. -/
import Derived.Test.YtfkjdiaeblcimaaF
set_option maxRecDepth 100000
namespace Go
open Go.RowKit
section
variable {α : Type}
theorem Own.mono {B B' : Nat} {w : World} {o : Ow α} {fp : List Nat} {cs : List Value} {x : α} (h : Own B w o fp cs x) (hb : B' ≤ B) : Own B' w o fp cs x := ⟨h.1, h.2.1, fun b hbm => Nat.le_trans hb (h.2.2 b hbm)⟩
theorem Own.chg {B : Nat} {w w' : World} {o : Ow α} (hl : Local o) (hh : Held o) {S : List Nat} (hx : Chg S w w') {fp : List Nat} {cs : List Value} {x : α} (hd : ∀ b ∈ S, b < B) (h : Own B w o fp cs x) : Own B w' o fp cs x :=
  ⟨hl.chg hh hx (fun b hb hs => by have := hd b hs; have := h.2.2 b hb; omega) h.1, h.2⟩
theorem Own.set {B : Nat} {w : World} {o : Ow α} (hl : Local o) (hh : Held o) {fp : List Nat} {cs : List Value} {x : α} {a : Addr} (ha : a.block < B) (v : Value) (h : Own B w o fp cs x) : Own B (w.setCell a v) o fp cs x :=
  h.chg hl hh (S := [a.block]) ((Chg.refl _ _).setCell (.inl (by simp)) v) (fun b hb => by simp at hb; omega)
theorem Own.plus {B : Nat} {w : World} {o : Ow α} (hl : Local o) (hh : Held o) {fp : List Nat} {cs : List Value} {x : α} (h : Own B w o fp cs x) (X : More) : Own B (w.plus X) o fp cs x := h.ext hl hh ((Ext.refl _).plus X)
/-- What an owner says can be read. -/
theorem SlR.cells {w w' : World} {k : Nat} {r : World → List Value → α → Prop} {v : Value} {xs : List α} (h : SlR w k r v xs) (hr : ∀ cs x, r w cs x → r w' cs x) (hc : ∀ a v, w.cell? a = some v → w'.cell? a = some v) : SlR w' k r v xs := by
  obtain ⟨a, cap, hv, h1, h2, h3⟩ := h
  refine ⟨a, cap, hv, h1, h2, fun i hi => ?_⟩
  obtain ⟨b, off, cs, ha, hk, hcc, hr'⟩ := h3 i hi
  exact ⟨b, off, cs, ha, hk, fun j u hu => hc _ _ (hcc j u hu), hr _ _ hr'⟩
theorem layCells_plus : ∀ (vs : List Value) (w : World) (X : More) (g i : Nat), w.old g → (w.plus X).layCells g i vs = (w.layCells g i vs).plus X
  | [], _, _, _, _, _ => rfl
  | v :: vs, w, X, g, i, h => by
    unfold World.layCells
    rw [World.setCell_plus w X g i v h, layCells_plus vs _ X g (i + 1) (by rw [World.old_setCell]; exact h)]
/-- What is owned in new memory does not see how the elder memory was written. -/
theorem Own.swap {B : Nat} {A A' : World} {X : More} {o : Ow α} (hl : Local o) {fp : List Nat} {cs : List Value} {x : α} (h : Own B (A.plus X) o fp cs x) (hb : A.heap.size ≤ B) (hs : A'.heap.size = A.heap.size) : Own B (A'.plus X) o fp cs x := by
  refine ⟨hl _ _ _ _ _ (fun b hbm => ?_) h.1, h.2⟩
  have := h.2.2 b hbm
  simp only [World.plus]
  rw [Array.getElem?_append_right (by omega), Array.getElem?_append_right (by omega), hs]
theorem Own.shape {B : Nat} {w : World} {ty k : Nat} {o : Ow α} {fp : List Nat} {v : Value} {xs : List α} (h : Own B w (oSl ty k o) fp [v] xs) : ∃ a cap, v = .slice a xs.length cap := by
  obtain ⟨v', hv, h⟩ := h.1
  obtain rfl : v = v' := by simpa using hv
  rcases h with ⟨rfl, rfl, _⟩ | ⟨g, cap, _, _, rfl, _⟩
  · exact ⟨none, 0, rfl⟩
  · exact ⟨_, cap, rfl⟩
/-- What the block of an owned slice holds. -/
theorem Own.blk {B : Nat} {w : World} {ty k : Nat} {o : Ow α} {fp : List Nat} {v : Value} {xs : List α} (h : Own B w (oSl ty k o) fp [v] xs) :
    (v = .slice none 0 0 ∧ xs = [] ∧ fp = []) ∨ ∃ g cap cur, v = .slice (some ⟨g, 0, none⟩) xs.length cap ∧ w.heap[g]? = some (.cells cur ty (0, 0)) ∧ cur.size = cap * k ∧ xs.length ≤ cap ∧ cap ≤ maxLen ∧ B ≤ g ∧ g ∈ fp := by
  obtain ⟨⟨v', hv, h⟩, hn, hb⟩ := h
  obtain rfl : v = v' := by simpa using hv
  rcases h with h | ⟨g, cap, cur, fps, hv, hg, hsz, hl, hm, hf, rfl, h⟩
  · exact .inl h
  · exact .inr ⟨g, cap, cur, hv, hg, hsz, hl, hm, hb g (by simp), by simp⟩
/-- Element i of an owned slice: what it owns, and that the slice stays owned when that element alone turns. -/
theorem oSl_at {w : World} {ty k : Nat} {o : Ow α} (ho : Local o) (hh : Held o) {fp : List Nat} {g n cap : Nat} {xs : List α} (h : oSl ty k o w fp [.slice (some ⟨g, 0, none⟩) n cap] xs) (hn : fp.Nodup) {i : Nat} (hi : i < xs.length) :
    ∃ fi cs, w.old g ∧ (∀ j, w.frozen? ⟨g, j, none⟩ = false) ∧ cs.length = k ∧ (∀ j u, cs[j]? = some u → w.cell? ⟨g, i * k + j, none⟩ = some u) ∧ o w fi cs xs[i] ∧ fi.Nodup ∧ g ∉ fi ∧ (∀ b ∈ fi, b ∈ fp) ∧ g ∈ fp ∧
      (∀ w' x', Chg fi w w' → o w' fi cs x' → oSl ty k o w' fp [.slice (some ⟨g, 0, none⟩) n cap] (xs.set i x')) ∧
      ∀ vs x', vs.length ≤ k → o (w.layCells g (i * k) vs) fi (vs ++ cs.drop vs.length) x' → oSl ty k o (w.layCells g (i * k) vs) fp [.slice (some ⟨g, 0, none⟩) n cap] (xs.set i x') := by
  obtain ⟨v', hv, h⟩ := h
  rcases h with ⟨rfl, _, _⟩ | ⟨g', cap', cur, fps, rfl, hg, hsz, hl, hm, hf, rfl, h⟩
  · simp at hv
  · obtain ⟨rfl, rfl, rfl⟩ : g = g' ∧ n = xs.length ∧ cap = cap' := by simpa using hv
    obtain ⟨hgn, hnd⟩ := List.nodup_cons.1 hn
    have hif : i < fps.length := by omega
    have hmem : fps[i] ∈ fps := List.getElem_mem hif
    have hki : (i + 1) * k ≤ cur.size := by rw [hsz]; exact Nat.mul_le_mul_right _ (by omega)
    rw [Nat.add_mul, Nat.one_mul] at hki
    have hcl : ((cur.toList.drop (i * k)).take k).length = k := by simp; omega
    have hother : ∀ j (hj : j < fps.length), j ≠ i → ∀ b ∈ fps[j], b ∉ fps[i] := by
      intro j hj hne b hbj hbi
      have hp := List.pairwise_iff_getElem.1 (List.pairwise_flatten.1 hnd).2
      rcases Nat.lt_or_gt_of_ne hne with h1 | h1
      · exact hp j i hj hif h1 b hbj b hbi rfl
      · exact hp i j hif hj h1 b hbi b hbj rfl
    refine ⟨fps[i], (cur.toList.drop (i * k)).take k, (Array.getElem?_eq_some_iff.1 hg).1, frozen_of_heap hg, hcl, fun j u hu => by rw [cell_of_heap hg]; exact drop_take_get hu, h i hi _ (List.getElem?_eq_getElem hif), (List.pairwise_flatten.1 hnd).1 _ hmem, fun hb => hgn (List.mem_flatten.2 ⟨_, hmem, hb⟩), fun b hb => List.mem_cons_of_mem _ (List.mem_flatten.2 ⟨_, hmem, hb⟩), by simp, ?_, ?_⟩
    · intro w' x' hx ho'
      refine ⟨_, rfl, .inr ⟨g, cap, cur, fps, by simp, ?_, hsz, by simpa using hl, hm, by simpa using hf, rfl, fun j hj fj hfj => ?_⟩⟩
      · rw [hx.block g (Array.getElem?_eq_some_iff.1 hg).1 (fun hb => hgn (List.mem_flatten.2 ⟨_, hmem, hb⟩))]; exact hg
      · have hj' : j < xs.length := by simpa using hj
        have hjf : j < fps.length := by omega
        by_cases e : j = i
        · subst e
          rw [List.getElem?_eq_getElem hjf] at hfj
          cases hfj
          simpa using ho'
        · rw [List.getElem_set_ne (Ne.symm e)]
          rw [List.getElem?_eq_getElem hjf] at hfj
          cases hfj
          exact ho.chg hh hx (hother j hjf e) (h j hj' _ (List.getElem?_eq_getElem hjf))
    · intro vs x' hvs ho'
      have hx := layCells_chg vs w g (i * k)
      refine ⟨_, rfl, .inr ⟨g, cap, spl cur (i * k) vs, fps, by simp, layCells_heap vs _ hg, by rw [spl_size]; exact hsz, by simpa using hl, hm, by simpa using hf, rfl, fun j hj fj hfj => ?_⟩⟩
      have hj' : j < xs.length := by simpa using hj
      have hjf : j < fps.length := by omega
      rw [List.getElem?_eq_getElem hjf] at hfj
      cases hfj
      have hjk : (j + 1) * k ≤ cur.size := by rw [hsz]; exact Nat.mul_le_mul_right _ (by omega)
      rw [Nat.add_mul, Nat.one_mul] at hjk
      by_cases e : j = i
      · subst e
        have hcs : ((spl cur (j * k) vs).toList.drop (j * k)).take k = vs ++ ((cur.toList.drop (j * k)).take k).drop vs.length := by
          refine List.ext_getElem? fun q => ?_
          rw [List.getElem?_take, List.getElem?_drop, Array.getElem?_toList, spl_get vs cur _ _ (by omega)]
          by_cases hq : q < k
          · rw [if_pos hq]
            by_cases hqv : q < vs.length
            · rw [if_pos (by omega), List.getElem?_append_left hqv, show j * k + q - j * k = q from by omega]
            · rw [if_neg (by omega), List.getElem?_append_right (by omega), List.getElem?_drop, List.getElem?_take, if_pos (by omega), List.getElem?_drop, Array.getElem?_toList]
              congr 1; omega
          · rw [if_neg hq, List.getElem?_eq_none]
            simp; omega
        rw [hcs]
        simpa using ho'
      · rw [List.getElem_set_ne (Ne.symm e)]
        have hsame : ((spl cur (i * k) vs).toList.drop (j * k)).take k = (cur.toList.drop (j * k)).take k := by
          refine List.ext_getElem? fun q => ?_
          rw [List.getElem?_take, List.getElem?_take]
          by_cases hq : q < k
          · rw [if_pos hq, if_pos hq, List.getElem?_drop, List.getElem?_drop, Array.getElem?_toList, Array.getElem?_toList, spl_get vs cur _ _ (by omega), if_neg]
            rintro ⟨h1, h2⟩
            rcases Nat.lt_or_gt_of_ne e with h | h
            · have : (j + 1) * k ≤ i * k := Nat.mul_le_mul_right _ h
              rw [Nat.add_mul, Nat.one_mul] at this
              omega
            · have : (i + 1) * k ≤ j * k := Nat.mul_le_mul_right _ h
              rw [Nat.add_mul, Nat.one_mul] at this
              omega
          · rw [if_neg hq, if_neg hq]
        rw [hsame]
        refine ho.chg hh hx (fun b hb hbg => ?_) (h j hj' _ (List.getElem?_eq_getElem hjf))
        simp at hbg
        subst hbg
        exact hgn (List.mem_flatten.2 ⟨_, List.getElem_mem hjf, hb⟩)
/-- As 'oSl_at': the element's own cells are laid anew and what it leads to turns. -/
theorem oSl_at3 {w : World} {ty k : Nat} {o : Ow α} (ho : Local o) (hh : Held o) {fp : List Nat} {g n cap : Nat} {xs : List α} (h : oSl ty k o w fp [.slice (some ⟨g, 0, none⟩) n cap] xs) (hn : fp.Nodup) {i : Nat} (hi : i < xs.length) :
    ∃ fi cs, w.old g ∧ (∀ j, w.frozen? ⟨g, j, none⟩ = false) ∧ cs.length = k ∧ (∀ j u, cs[j]? = some u → w.cell? ⟨g, i * k + j, none⟩ = some u) ∧ o w fi cs xs[i] ∧ fi.Nodup ∧ g ∉ fi ∧ (∀ b ∈ fi, b ∈ fp) ∧ g ∈ fp ∧
      ∀ w' vs x', vs.length ≤ k → w'.heap[g]? = (w.layCells g (i * k) vs).heap[g]? → Chg (g :: fi) w w' → o w' fi (vs ++ cs.drop vs.length) x' → oSl ty k o w' fp [.slice (some ⟨g, 0, none⟩) n cap] (xs.set i x') := by
  obtain ⟨v', hv, h⟩ := h
  rcases h with ⟨rfl, _, _⟩ | ⟨g', cap', cur, fps, rfl, hg, hsz, hl, hm, hf, rfl, h⟩
  · simp at hv
  · obtain ⟨rfl, rfl, rfl⟩ : g = g' ∧ n = xs.length ∧ cap = cap' := by simpa using hv
    obtain ⟨hgn, hnd⟩ := List.nodup_cons.1 hn
    have hif : i < fps.length := by omega
    have hmem : fps[i] ∈ fps := List.getElem_mem hif
    have hki : (i + 1) * k ≤ cur.size := by rw [hsz]; exact Nat.mul_le_mul_right _ (by omega)
    rw [Nat.add_mul, Nat.one_mul] at hki
    have hcl : ((cur.toList.drop (i * k)).take k).length = k := by simp; omega
    have hother : ∀ j (hj : j < fps.length), j ≠ i → ∀ b ∈ fps[j], b ∉ fps[i] := by
      intro j hj hne b hbj hbi
      have hp := List.pairwise_iff_getElem.1 (List.pairwise_flatten.1 hnd).2
      rcases Nat.lt_or_gt_of_ne hne with h1 | h1
      · exact hp j i hj hif h1 b hbj b hbi rfl
      · exact hp i j hif hj h1 b hbi b hbj rfl
    refine ⟨fps[i], (cur.toList.drop (i * k)).take k, (Array.getElem?_eq_some_iff.1 hg).1, frozen_of_heap hg, hcl, fun j u hu => by rw [cell_of_heap hg]; exact drop_take_get hu, h i hi _ (List.getElem?_eq_getElem hif), (List.pairwise_flatten.1 hnd).1 _ hmem, fun hb => hgn (List.mem_flatten.2 ⟨_, hmem, hb⟩), fun b hb => List.mem_cons_of_mem _ (List.mem_flatten.2 ⟨_, hmem, hb⟩), by simp, ?_⟩
    · intro w' vs x' hvs hgw hx ho'
      refine ⟨_, rfl, .inr ⟨g, cap, spl cur (i * k) vs, fps, by simp, (by rw [hgw]; exact layCells_heap vs _ hg), by rw [spl_size]; exact hsz, by simpa using hl, hm, by simpa using hf, rfl, fun j hj fj hfj => ?_⟩⟩
      have hj' : j < xs.length := by simpa using hj
      have hjf : j < fps.length := by omega
      rw [List.getElem?_eq_getElem hjf] at hfj
      cases hfj
      have hjk : (j + 1) * k ≤ cur.size := by rw [hsz]; exact Nat.mul_le_mul_right _ (by omega)
      rw [Nat.add_mul, Nat.one_mul] at hjk
      by_cases e : j = i
      · subst e
        have hcs : ((spl cur (j * k) vs).toList.drop (j * k)).take k = vs ++ ((cur.toList.drop (j * k)).take k).drop vs.length := by
          refine List.ext_getElem? fun q => ?_
          rw [List.getElem?_take, List.getElem?_drop, Array.getElem?_toList, spl_get vs cur _ _ (by omega)]
          by_cases hq : q < k
          · rw [if_pos hq]
            by_cases hqv : q < vs.length
            · rw [if_pos (by omega), List.getElem?_append_left hqv, show j * k + q - j * k = q from by omega]
            · rw [if_neg (by omega), List.getElem?_append_right (by omega), List.getElem?_drop, List.getElem?_take, if_pos (by omega), List.getElem?_drop, Array.getElem?_toList]
              congr 1; omega
          · rw [if_neg hq, List.getElem?_eq_none]
            simp; omega
        rw [hcs]
        simpa using ho'
      · rw [List.getElem_set_ne (Ne.symm e)]
        have hsame : ((spl cur (i * k) vs).toList.drop (j * k)).take k = (cur.toList.drop (j * k)).take k := by
          refine List.ext_getElem? fun q => ?_
          rw [List.getElem?_take, List.getElem?_take]
          by_cases hq : q < k
          · rw [if_pos hq, if_pos hq, List.getElem?_drop, List.getElem?_drop, Array.getElem?_toList, Array.getElem?_toList, spl_get vs cur _ _ (by omega), if_neg]
            rintro ⟨h1, h2⟩
            rcases Nat.lt_or_gt_of_ne e with h | h
            · have : (j + 1) * k ≤ i * k := Nat.mul_le_mul_right _ h
              rw [Nat.add_mul, Nat.one_mul] at this
              omega
            · have : (i + 1) * k ≤ j * k := Nat.mul_le_mul_right _ h
              rw [Nat.add_mul, Nat.one_mul] at this
              omega
          · rw [if_neg hq, if_neg hq]
        rw [hsame]
        refine ho.chg hh hx (fun b hb hbg => ?_) (h j hj' _ (List.getElem?_eq_getElem hjf))
        rcases List.mem_cons.1 hbg with rfl | hbg
        · exact hgn (List.mem_flatten.2 ⟨_, List.getElem_mem hjf, hb⟩)
        · exact hother j hjf e b hb hbg
end
end Go

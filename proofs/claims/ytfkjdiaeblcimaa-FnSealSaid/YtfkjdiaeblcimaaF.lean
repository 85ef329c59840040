/- A slice that is made at its full length and filled element by element. No statement is proved here. -/
import Derived.Test.YtfkjdiaeblcimaaS
set_option maxRecDepth 100000
namespace Go
open Go.RowKit
section
variable {P : Program} {ops : Array Oper} {rest : List Oper} {op : Oper} {a : Act} {Q : Exit → Act → World → Prop}
theorem make_n {t e : TypeId} {size bytes : Nat} {W : World} (E : ElemInfo P t e size bytes) (hgd : op.guard = none) (l c : Operand) (hop : op.op = Op.makeSlice t l c) (w0 : World) (hext : Ext w0 W)
    (n : Nat) (kl kc : IntKind) (hl : a.eval l = .int kl n) (hc : a.eval c = .int kc n) (hb : bytes * n ≤ 281474976710656) (hm : n ≤ maxLen)
    (h : ∀ X g cur, (w0.plus X).heap[g]? = some (.cells cur e (0, 0)) → cur.size = n * size → w0.heap.size ≤ g → wpList P ops Q rest (a.put op.dst (.slice (some ⟨g, 0, none⟩) n n)) (w0.plus X)) : wpList P ops Q (op :: rest) a W := by
  obtain ⟨i, z, hi, hz, hsize, hby, hzs⟩ := E.info
  refine wpList_make_full W hgd l c t hop w0.heap.size e i z size E.und hi hz hsize kl kc n n n hl hc rfl rfl (by rw [hby]; exact hb) hm hext.below.size ?_
  intro w' hown hg
  obtain ⟨X, rfl⟩ := hext.grown hg (fun k hk => by cases hk)
  obtain ⟨_, h2⟩ := hown
  rcases h2 with ⟨h2, _⟩ | ⟨g, cap, cur, hv, hbg, hgg, hn, hcap, hsz, _⟩
  · cases h2
  · simp at hv
    obtain ⟨rfl, rfl⟩ := hv
    exact h X _ cur hgg hsz hbg
end

/-- Values laid one behind the other into a block. -/
def World.layCells (w : World) (g : Nat) : Nat → List Value → World
  | _, [] => w
  | i, v :: vs => (w.setCell ⟨g, i, none⟩ v).layCells g (i + 1) vs
def spl (cur : Array Value) : Nat → List Value → Array Value
  | _, [] => cur
  | i, v :: vs => spl (cur.setIfInBounds i v) (i + 1) vs
theorem spl_size : ∀ (vs : List Value) (cur : Array Value) (i : Nat), (spl cur i vs).size = cur.size
  | [], _, _ => rfl
  | v :: vs, cur, i => by unfold spl; rw [spl_size vs]; simp
theorem spl_get : ∀ (vs : List Value) (cur : Array Value) (i j : Nat), i + vs.length ≤ cur.size → (spl cur i vs)[j]? = if i ≤ j ∧ j < i + vs.length then vs[j - i]? else cur[j]?
  | [], cur, i, j, _ => by unfold spl; rw [if_neg (by rintro ⟨h1, h2⟩; simp at h2; omega)]
  | v :: vs, cur, i, j, h => by
    unfold spl
    rw [spl_get vs _ _ _ (by simp at h ⊢; omega)]
    simp only [List.length_cons] at h ⊢
    by_cases e : j = i
    · subst e
      rw [if_neg (by omega), if_pos (by omega), Nat.sub_self, Array.getElem?_setIfInBounds_self, if_pos (by omega)]; rfl
    · by_cases e' : i + 1 ≤ j ∧ j < i + 1 + vs.length
      · rw [if_pos e', if_pos (by omega), show j - i = (j - (i + 1)) + 1 from by omega]; rfl
      · rw [if_neg e', if_neg (by omega), Array.getElem?_setIfInBounds_ne (Ne.symm e)]
theorem setCell_heap {w : World} {g : Nat} {cur : Array Value} {ty : TypeId} {fr : Nat × Nat} (hg : w.heap[g]? = some (.cells cur ty fr)) (i : Nat) (v : Value) : (w.setCell ⟨g, i, none⟩ v).heap[g]? = some (.cells (cur.setIfInBounds i v) ty fr) := by
  simp [World.setCell, Array.getElem?_modify, hg]
theorem layCells_heap : ∀ (vs : List Value) {w : World} {g : Nat} {cur : Array Value} {ty : TypeId} {fr : Nat × Nat} (i : Nat), w.heap[g]? = some (.cells cur ty fr) → (w.layCells g i vs).heap[g]? = some (.cells (spl cur i vs) ty fr)
  | [], _, _, _, _, _, _, hg => hg
  | v :: vs, _, _, _, _, _, i, hg => by unfold World.layCells spl; exact layCells_heap vs (i + 1) (setCell_heap hg i v)
theorem layCells_chg : ∀ (vs : List Value) (w : World) (g i : Nat), Chg [g] w (w.layCells g i vs)
  | [], w, g, _ => Chg.refl _ _
  | v :: vs, w, g, i => by unfold World.layCells; exact ((Chg.refl [g] w).setCell (.inl (by simp)) v).trans (layCells_chg vs _ g (i + 1))

section
variable {α : Type}
/-- What a call owns: the datum, in blocks of its own, each met once. -/
def Own (B : Nat) (w : World) (o : Ow α) (fp : List Nat) (cs : List Value) (x : α) : Prop := o w fp cs x ∧ fp.Nodup ∧ ∀ b ∈ fp, B ≤ b
/-- A slice of xs in block g, of which the first k elements have been laid. -/
def Fill (B : Nat) (w : World) (g ty K : Nat) (o : Ow α) (xs : List α) (k : Nat) : Prop :=
  ∃ (cur : Array Value) (fps : List (List Nat)), w.heap[g]? = some (.cells cur ty (0, 0)) ∧ cur.size = xs.length * K ∧ fps.length = k ∧
    (∀ (j : Nat) (hj : j < xs.length) (fj : List Nat), fps[j]? = some fj → o w fj ((cur.toList.drop (j * K)).take K) xs[j]) ∧ (g :: fps.flatten).Nodup ∧ ∀ b ∈ g :: fps.flatten, B ≤ b
theorem Fill.start {B : Nat} {w : World} {g ty K : Nat} {o : Ow α} {xs : List α} {cur : Array Value} (hg : w.heap[g]? = some (.cells cur ty (0, 0))) (hs : cur.size = xs.length * K) (hB : B ≤ g) : Fill B w g ty K o xs 0 :=
  ⟨cur, [], hg, hs, rfl, fun j _ fj h => by simp at h, by simp, by simpa using hB⟩
theorem Fill.ext {B : Nat} {w w' : World} {g ty K k : Nat} {o : Ow α} {xs : List α} (hl : Local o) (hh : Held o) (hx : Ext w w') (h : Fill B w g ty K o xs k) : Fill B w' g ty K o xs k := by
  obtain ⟨cur, fps, hg, h1, h2, h3, h4, h5⟩ := h
  refine ⟨cur, fps, ?_, h1, h2, fun j hj fj hf => hl.ext hh hx (h3 j hj fj hf), h4, h5⟩
  obtain ⟨X, rfl⟩ := hx
  rw [World.heap_plus w X g (Array.getElem?_eq_some_iff.1 hg).1]; exact hg
theorem Fill.old {B : Nat} {w : World} {g ty K k : Nat} {o : Ow α} {xs : List α} (h : Fill B w g ty K o xs k) : w.old g ∧ B ≤ g ∧ ∀ j, w.frozen? ⟨g, j, none⟩ = false := by
  obtain ⟨cur, fps, hg, _, _, _, _, h5⟩ := h
  exact ⟨(Array.getElem?_eq_some_iff.1 hg).1, h5 g (by simp), frozen_of_heap hg⟩
theorem Fill.cell {B : Nat} {w : World} {g ty K k : Nat} {o : Ow α} {xs : List α} (h : Fill B w g ty K o xs k) {i q : Nat} (hi : i < xs.length) (hq : q < K) : ∃ v, w.cell? ⟨g, i * K + q, none⟩ = some v := by
  obtain ⟨cur, fps, hg, hs, _⟩ := h
  have : i * K + q < cur.size := by
    rw [hs]
    have : (i + 1) * K ≤ xs.length * K := Nat.mul_le_mul_right _ hi
    rw [Nat.add_mul, Nat.one_mul] at this
    omega
  exact ⟨cur[i * K + q], by rw [cell_of_heap hg]; exact Array.getElem?_eq_getElem this⟩
theorem take_spl {cur : Array Value} {vs : List Value} {i k K n : Nat} (hv : vs.length = K) (hk : k < n) (hs : cur.size = n * K) :
    ((spl cur (k * K) vs).toList.drop (i * K)).take K = if i = k then vs else (cur.toList.drop (i * K)).take K := by
  have hb : ∀ m, m < n → (m + 1) * K ≤ cur.size := fun m hm => by rw [hs]; exact Nat.mul_le_mul_right _ hm
  have hk' := hb k hk
  rw [Nat.add_mul, Nat.one_mul] at hk'
  refine List.ext_getElem? fun j => ?_
  rw [List.getElem?_take]
  by_cases hj : j < K
  · rw [if_pos hj, List.getElem?_drop, Array.getElem?_toList, spl_get vs cur _ _ (by omega), hv]
    by_cases e : i = k
    · subst e
      rw [if_pos (by omega), if_pos rfl, show i * K + j - i * K = j from by omega]
    · have hc : ¬ (k * K ≤ i * K + j ∧ i * K + j < k * K + K) := by
        rintro ⟨h1, h2⟩
        rcases Nat.lt_or_gt_of_ne e with h | h
        · have : (i + 1) * K ≤ k * K := Nat.mul_le_mul_right _ h
          rw [Nat.add_mul, Nat.one_mul] at this
          omega
        · have : (k + 1) * K ≤ i * K := Nat.mul_le_mul_right _ h
          rw [Nat.add_mul, Nat.one_mul] at this
          omega
      rw [if_neg hc, if_neg e, List.getElem?_take, if_pos hj, List.getElem?_drop, Array.getElem?_toList]
  · rw [if_neg hj]
    split
    · rw [List.getElem?_eq_none (by omega)]
    · rw [List.getElem?_take, if_neg hj]
theorem Fill.step {B : Nat} {w : World} {g ty K k : Nat} {o : Ow α} {xs : List α} (hl : Local o) (hh : Held o) (h : Fill B w g ty K o xs k) (hk : k < xs.length) {fp : List Nat} {vs : List Value} (hv : vs.length = K)
    (hown : o w fp vs xs[k]) (hnd : fp.Nodup) {M : Nat} (hM : ∀ b ∈ fp, M ≤ b) {w1 : World} (h1 : Fill B w1 g ty K o xs k) (hw1 : w1.heap.size ≤ M) (hx : Ext w1 w) (hB : B ≤ M) : Fill B (w.layCells g (k * K) vs) g ty K o xs (k + 1) := by
  -- the footprint of what was laid is older than M: it is read off in the elder world w1
  obtain ⟨cur, fps, hg, hs, hfl, hel, hn, hb⟩ := h1
  have hold : ∀ b ∈ g :: fps.flatten, b < M := fun b hbm => by
    rcases List.mem_cons.1 hbm with rfl | hbm
    · have := (Array.getElem?_eq_some_iff.1 hg).1; omega
    · obtain ⟨fj, hfj, hbf⟩ := List.mem_flatten.1 hbm
      obtain ⟨j, hj, rfl⟩ := List.getElem_of_mem hfj
      have := hh w1 _ _ _ (hel j (by omega) _ (List.getElem?_eq_getElem hj)) b hbf
      omega
  have hgw : w.heap[g]? = some (.cells cur ty (0, 0)) := by
    obtain ⟨X, rfl⟩ := hx
    rw [World.heap_plus w1 X g (Array.getElem?_eq_some_iff.1 hg).1]; exact hg
  have hgnot : g ∉ fps.flatten := (List.nodup_cons.1 hn).1
  have hgM : g < M := hold g (by simp)
  refine ⟨spl cur (k * K) vs, fps ++ [fp], layCells_heap vs (k * K) hgw, by rw [spl_size]; exact hs, by simp [hfl], fun j hj fj hf => ?_, ?_, ?_⟩
  · rw [take_spl hv hk hs]
    by_cases e : j = k
    · subst e
      rw [if_pos rfl]
      rw [List.getElem?_append_right (by omega)] at hf
      simp [hfl] at hf
      subst hf
      exact hl.chg hh (layCells_chg vs w g (j * K)) (fun b hbf hbg => by
        have := hM b hbf
        simp at hbg; omega) hown
    · rw [if_neg e]
      have hjl : j < fps.length := by
        rcases Nat.lt_or_ge j fps.length with h | h
        · exact h
        · rw [List.getElem?_append_right h] at hf
          have : j - fps.length = 0 := by
            rcases Nat.eq_zero_or_pos (j - fps.length) with h' | h'
            · exact h'
            · rw [List.getElem?_eq_none (by simp; omega)] at hf; cases hf
          omega
      rw [List.getElem?_append_left hjl] at hf
      refine hl.chg hh (layCells_chg vs w g (k * K)) (fun b hbf hbg => ?_) (hl.ext hh hx (hel j hj fj hf))
      simp at hbg
      subst hbg
      exact hgnot (List.mem_flatten.2 ⟨fj, List.mem_of_getElem? hf, hbf⟩)
  · rw [List.flatten_append]
    simp only [List.flatten_cons, List.flatten_nil, List.append_nil]
    rw [← List.cons_append, List.nodup_append]
    exact ⟨hn, hnd, fun x hx' y hy e => by subst e; have := hold x hx'; have := hM x hy; omega⟩
  · intro b hbm
    rw [List.flatten_append] at hbm
    simp only [List.flatten_cons, List.flatten_nil, List.append_nil] at hbm
    rw [← List.cons_append, List.mem_append] at hbm
    rcases hbm with h | h
    · exact hb b h
    · exact Nat.le_trans hB (hM b h)
theorem Fill.done {B : Nat} {w : World} {g ty K : Nat} {o : Ow α} {xs : List α} (h : Fill B w g ty K o xs xs.length) (hm : xs.length ≤ maxLen) : ∃ fp, Own B w (oSl ty K o) fp [.slice (some ⟨g, 0, none⟩) xs.length xs.length] xs := by
  obtain ⟨cur, fps, hg, hs, hfl, hel, hn, hb⟩ := h
  exact ⟨g :: fps.flatten, ⟨_, rfl, .inr ⟨g, xs.length, cur, fps, rfl, hg, hs, Nat.le_refl _, hm, hfl, rfl, hel⟩⟩, hn, hb⟩
theorem Own.ext {B : Nat} {w w' : World} {o : Ow α} (hl : Local o) (hh : Held o) (hx : Ext w w') {fp : List Nat} {cs : List Value} {x : α} (h : Own B w o fp cs x) : Own B w' o fp cs x := ⟨hl.ext hh hx h.1, h.2⟩
end
end Go

/- An owned list that append grows, its elements with memory of their own. -/
import Derived.Test.YtfkjdiaeblcimaaI2
import Derived.Maps.AppendAt
set_option maxRecDepth 100000
set_option linter.unusedVariables false
namespace Go
open Go.RowKit
theorem mem_blkL {v : Value} {b : Nat} : b ∈ blkL v ↔ v.ownBlock = some b := by
  unfold blkL Value.ownBlock
  split <;> simp [eq_comm]
/-- An owned list, as a row of cells and what hangs on each element. -/
def RowO {α : Type} (B : Nat) (w : World) (ty K : Nat) (o : Ow α) (raw : List Value) (fps : List (List Nat)) (v : Value) (xs : List α) : Prop :=
  w.ownsRow B ty K v xs.length raw ∧ fps.length = xs.length ∧ (∀ i (hi : i < xs.length) fi, fps[i]? = some fi → o w fi ((raw.drop (i * K)).take K) xs[i]) ∧ (blkL v ++ fps.flatten).Nodup ∧ ∀ b ∈ fps.flatten, B ≤ b
theorem drop_take_in {l : List Value} {i n K : Nat} (hi : i < n) : ((l.take (n * K)).drop (i * K)).take K = (l.drop (i * K)).take K := by
  rw [List.drop_take, List.take_take]
  congr 1
  have : (i + 1) * K ≤ n * K := Nat.mul_le_mul_right _ hi
  rw [Nat.add_mul, Nat.one_mul] at this
  omega
theorem Own.rowO {α : Type} {B : Nat} {w : World} {ty K : Nat} {o : Ow α} {fp : List Nat} {v : Value} {xs : List α} (h : Own B w (oSl ty K o) fp [v] xs) : ∃ raw fps, RowO B w ty K o raw fps v xs ∧ fp = blkL v ++ fps.flatten := by
  obtain ⟨⟨v', hv, h⟩, hn, hb⟩ := h
  obtain rfl : v = v' := by simpa using hv
  rcases h with ⟨rfl, rfl, rfl⟩ | ⟨g, cap, cur, fps, rfl, hg, hsz, hl, hm, hfl, rfl, h⟩
  · exact ⟨[], [], ⟨⟨by simp, .inl ⟨rfl, rfl⟩⟩, rfl, (fun i hi => by simp at hi), by simp [blkL], by simp⟩, rfl⟩
  · refine ⟨cur.toList.take (xs.length * K), fps, ⟨⟨?_, .inr ⟨g, cap, cur, rfl, hb g (by simp), hg, hl, hm, hsz, rfl⟩⟩, hfl, fun i hi fi hfi => ?_, hn, fun b hbm => hb b (List.mem_cons_of_mem _ hbm)⟩, rfl⟩
    · have hcl : cur.toList.length = cap * K := by simpa using hsz
      rw [List.length_take, hcl]
      exact Nat.min_eq_left (Nat.mul_le_mul_right _ hl)
    · rw [drop_take_in hi]
      exact h i hi fi hfi
theorem RowO.own {α : Type} {B : Nat} {w : World} {ty K : Nat} {o : Ow α} {raw : List Value} {fps : List (List Nat)} {v : Value} {xs : List α} (h : RowO B w ty K o raw fps v xs) : Own B w (oSl ty K o) (blkL v ++ fps.flatten) [v] xs := by
  obtain ⟨⟨h0, h1⟩, h2, h3, h4, h5⟩ := h
  rcases h1 with ⟨rfl, hx⟩ | ⟨g, cap, cur, rfl, hb, hg, hn, hm, hsz, ht⟩
  · have hx' : xs = [] := List.eq_nil_of_length_eq_zero hx
    subst hx'
    have hf : fps = [] := List.eq_nil_of_length_eq_zero h2
    subst hf
    exact ⟨⟨_, rfl, .inl ⟨rfl, rfl, rfl⟩⟩, List.nodup_nil, fun b hb => by cases hb⟩
  · refine ⟨⟨_, rfl, .inr ⟨g, cap, cur, fps, rfl, hg, hsz, hn, hm, h2, rfl, fun i hi fi hfi => ?_⟩⟩, h4, fun b hbm => ?_⟩
    · have := h3 i hi fi hfi
      rw [← ht, drop_take_in hi] at this
      exact this
    · rcases List.mem_cons.1 hbm with rfl | hbm
      · exact hb
      · exact h5 b hbm
theorem RowO.flat {α : Type} {B : Nat} {w : World} {ty K : Nat} {f : α → List Value} {raw : List Value} {fps : List (List Nat)} {v : Value} {xs : List α} (h : RowO B w ty K (oFlat f) raw fps v xs) : fps.flatten = [] := by
  obtain ⟨_, h2, h3, _, _⟩ := h
  refine List.eq_nil_iff_forall_not_mem.2 fun b hb => ?_
  obtain ⟨fi, hfi, hbf⟩ := List.mem_flatten.1 hb
  obtain ⟨i, hi, rfl⟩ := List.getElem_of_mem hfi
  have := (h3 i (by omega) _ (List.getElem?_eq_getElem hi)).1
  rw [this] at hbf; cases hbf
theorem RowO.blk {α : Type} {B : Nat} {w : World} {ty K : Nat} {o : Ow α} {raw : List Value} {fps : List (List Nat)} {v : Value} {xs : List α} (h : RowO B w ty K o raw fps v xs) : ∀ b ∈ blkL v, B ≤ b ∧ b < w.heap.size := by
  rcases h.1.2 with ⟨rfl, _⟩ | ⟨g, cap, cur, rfl, hb, hg, _⟩
  · intro b hb; cases hb
  · intro b hbm
    simp [blkL] at hbm
    subst hbm
    exact ⟨hb, (Array.getElem?_eq_some_iff.1 hg).1⟩
section
variable {α : Type} {P : Program} {ops : Array Oper} {rest : List Oper} {op : Oper} {a : Act} {Q : Exit → Act → World → Prop}
theorem mem_snoc_flatten {fps : List (List Nat)} {fx : List Nat} {b : Nat} : b ∈ (fps ++ [fx]).flatten ↔ b ∈ fps.flatten ∨ b ∈ fx := by simp [List.mem_flatten]
/-- append of one element that owns memory to an owned list. -/
theorem Own.app1 {t e : TypeId} {size bytes : Nat} {W : World} {o : Ow α} (hlo : Local o) (hhe : Held o) (E : ElemInfo P t e size bytes) (hgd : op.guard = none) (s x : Operand)
    (ho : op.op = .call { callee := .builtin .append, args := #[s, x], argTypes := #[t, t] })
    (B : Nat) (v : Value) (xs : List α) (fp : List Nat) (hs : a.eval s = v) (hown : Own B W (oSl e size o) fp [v] xs)
    (ad : Addr) (c : Nat) (hx : a.eval x = .slice (some ad) 1 c) (y : α) (fy : List Nat) (cs : List Value) (hy : Own B W o fy cs y) (hcl : cs.length = size) (hap : ∀ b ∈ fp, b ∉ fy) (hB : B ≤ W.heap.size)
    (hnews : ∀ j u, cs[j]? = some u → W.cell? (ad.add j) = some u) (h1 : ∀ u ∈ cs, u.oneCell' = true)
    (h63 : xs.length + 1 ≤ maxLen) (hbytes : (xs.length + 1) * bytes ≤ 140737488355328)
    (h : ∀ v' w' fp', Own B w' (oSl e size o) fp' [v'] (xs ++ [y]) → Chg (blkL v) W w' → (∀ b ∈ fp', b ∈ fp ∨ b ∈ fy ∨ b = W.heap.size) → wpList P ops Q rest (a.put op.dst v') w') : wpList P ops Q (op :: rest) a W := by
  obtain ⟨i, z, hi, hz, hsize, hby, hzs⟩ := E.info
  obtain ⟨raw, fps, hR, rfl⟩ := hown.rowO
  refine wpList_append_own_at W hgd s x t ho B e i z size bytes E.und hi hz hsize hby hzs E.pos v xs.length raw hs hR.1 ad 1 c cs hx (by rw [hcl, Nat.one_mul]) hnews h1 h63 hbytes hB ?_
  intro v' w' ho' hg hne hat
  have hch := grownBy_chg hg
  have hbv : ∀ b ∈ blkL v', b ∈ blkL v ∨ b = W.heap.size := by
    intro b hb
    rw [mem_blkL] at hb ⊢
    rcases hat with hat | hat
    · exact .inl (hat ▸ hb)
    · rw [hb] at hat; exact .inr (by simpa using hat)
  have hnv : (blkL v').Nodup := by unfold blkL; split <;> simp
  obtain ⟨hrow, hfl, hel, hnd, hge⟩ := hR
  have hltf : ∀ b ∈ fps.flatten, b < W.heap.size := fun b hb => by
    obtain ⟨fi, hfi, hbf⟩ := List.mem_flatten.1 hb
    obtain ⟨i, hi, rfl⟩ := List.getElem_of_mem hfi
    exact hhe W _ _ _ (hel i (by omega) _ (List.getElem?_eq_getElem hi)) b hbf
  have hlty : ∀ b ∈ fy, b < W.heap.size := hhe W _ _ _ hy.1
  obtain ⟨hn1, hn2, hn3⟩ := List.nodup_append.1 hnd
  have hR' : RowO B w' e size o (raw ++ cs) (fps ++ [fy]) v' (xs ++ [y]) := by
    refine ⟨by simpa using ho', by simp [hfl], fun i hi fi hfi => ?_, ?_, fun b hb => ?_⟩
    · by_cases hlt : i < xs.length
      · rw [List.getElem_append_left hlt]
        rw [List.getElem?_append_left (by omega)] at hfi
        have hq := hel i hlt fi hfi
        have hrl : raw.length = xs.length * size := hrow.1
        have hik : (i + 1) * size ≤ xs.length * size := Nat.mul_le_mul_right _ hlt
        rw [Nat.add_mul, Nat.one_mul] at hik
        rw [List.drop_append_of_le_length (by omega), List.take_append_of_le_length (by rw [List.length_drop]; omega)]
        refine hlo.chg hhe hch (fun b hb hbv' => ?_) hq
        exact hn3 b hbv' b (List.mem_flatten.2 ⟨fi, List.mem_of_getElem? hfi, hb⟩) rfl
      · have hie : i = xs.length := by simp at hi; omega
        subst hie
        rw [List.getElem?_append_right (by omega)] at hfi
        have hfe : fi = fy := by simpa [hfl] using hfi.symm
        subst hfe
        have hrl : raw.length = xs.length * size := hrow.1
        have hdr : (raw ++ cs).drop (xs.length * size) = cs := by rw [← hrl]; simp
        rw [hdr, List.take_of_length_le (by omega)]
        have hlast : (xs ++ [y])[xs.length]'hi = y := by simp
        rw [hlast]
        exact hlo.chg hhe hch (fun b hb hbv' => hap b (List.mem_append_left _ hbv') hb) hy.1
    · refine List.nodup_append.2 ⟨hnv, ?_, ?_⟩
      · rw [List.flatten_append]
        refine List.nodup_append.2 ⟨hn2, by simpa using hy.2.1, fun b hb c hc hbc => ?_⟩
        subst hbc
        exact hap b (List.mem_append_right _ hb) (by simpa using hc)
      · intro b hb c hc hbc
        subst hbc
        rcases mem_snoc_flatten.1 hc with hc | hc
        · rcases hbv b hb with hb | hb
          · exact hn3 b hb b hc rfl
          · have := hltf b hc; omega
        · rcases hbv b hb with hb | hb
          · exact hap b (List.mem_append_left _ hb) hc
          · have := hlty b hc; omega
    · rcases mem_snoc_flatten.1 hb with hb | hb
      · exact hge b hb
      · exact hy.2.2 b hb
  refine h v' w' _ hR'.own hch fun b hb => ?_
  rcases List.mem_append.1 hb with hb | hb
  · rcases hbv b hb with hb | hb
    · exact .inl (List.mem_append_left _ hb)
    · exact .inr (.inr hb)
  · rcases mem_snoc_flatten.1 hb with hb | hb
    · exact .inl (List.mem_append_right _ hb)
    · exact .inr (.inl hb)
end
theorem Own.blkL_in {α : Type} {B : Nat} {w : World} {ty K : Nat} {o : Ow α} {fp : List Nat} {v : Value} {xs : List α} (h : Own B w (oSl ty K o) fp [v] xs) : ∀ b ∈ blkL v, b ∈ fp := by
  obtain ⟨raw, fps, _, rfl⟩ := h.rowO
  exact fun b hb => List.mem_append_left _ hb
theorem Own.cast {α : Type} {B : Nat} {w : World} {o : Ow α} {fp : List Nat} {v : List Value} {x y : α} (h : Own B w o fp v x) (e : x = y) : Own B w o fp v y := e ▸ h
/-- A list that is not yet there. -/
theorem Own.nil {α : Type} (B : Nat) (w : World) (ty K : Nat) (o : Ow α) : Own B w (oSl ty K o) [] [.slice none 0 0] [] := ⟨⟨_, rfl, .inl ⟨rfl, rfl, rfl⟩⟩, List.nodup_nil, fun b hb => by cases hb⟩
/-- A list that was just made, without room. -/
theorem Own.made {α : Type} {W : World} {b B ty K : Nat} {o : Ow α} (hb : b = W.heap.size) (hB : B ≤ W.heap.size) : Own B (W.alloc (.cells #[] ty)) (oSl ty K o) [b] [.slice (some ⟨b, 0, none⟩) 0 0] [] := by
  subst hb
  refine ⟨⟨_, rfl, .inr ⟨W.heap.size, 0, #[], [], rfl, heap_alloc_new W _, by simp, Nat.le_refl _, by unfold maxLen; omega, rfl, rfl, fun i hi => by simp at hi⟩⟩, by simp, by simpa using hB⟩
end Go
namespace Go
open Go.RowKit
section
variable {α : Type} {P : Program} {ops : Array Oper} {rest : List Oper} {op : Oper} {a : Act} {Q : Exit → Act → World → Prop}
/-- As 'Own.app1', for a walk that only grows the world: the element was just laid in a block of its own. -/
theorem Own.app {t e : TypeId} {size bytes : Nat} {w0 w1 : World} {cs : Array Value} {o : Ow α} (hlo : Local o) (hhe : Held o) (E : ElemInfo P t e size bytes) (hgd : op.guard = none) (s x : Operand)
    (ho : op.op = .call { callee := .builtin .append, args := #[s, x], argTypes := #[t, t] })
    (hext : Ext w0 w1) (v : Value) (xs : List α) (fp : List Nat) (hs : a.eval s = v) (hown : Own w0.heap.size w1 (oSl e size o) fp [v] xs)
    (b0 : Nat) (hb0 : b0 = w1.heap.size) (hx : a.eval x = .slice (some ⟨b0, 0, none⟩) 1 1) (y : α) (fy : List Nat) (hy : Own w0.heap.size w1 o fy cs.toList y) (hcl : cs.size = size) (hap : ∀ b ∈ fp, b ∉ fy)
    (h1 : ∀ u ∈ cs.toList, u.oneCell' = true) (h63 : xs.length + 1 ≤ maxLen) (hbytes : (xs.length + 1) * bytes ≤ 140737488355328)
    (h : ∀ v' X fp', Own w0.heap.size (w0.plus X) (oSl e size o) fp' [v'] (xs ++ [y]) → wpList P ops Q rest (a.put op.dst v') (w0.plus X)) : wpList P ops Q (op :: rest) a (w1.alloc (.cells cs e)) := by
  subst hb0
  have hx1 : Ext w1 (w1.alloc (.cells cs e)) := (Ext.refl _).alloc _
  have hsz := hext.below.size
  refine Own.app1 hlo hhe E hgd s x ho w0.heap.size v xs fp hs (hown.ext (oSl_local hlo) (oSl_held hhe) hx1) ⟨w1.heap.size, 0, none⟩ 1 hx y fy cs.toList (hy.ext hlo hhe hx1) (by simpa using hcl) hap (by rw [World.size_alloc]; omega) (fun j u hu => ?_) h1 h63 hbytes ?_
  · rw [Addr.add_lit, Nat.zero_add, World.cell?_alloc_new]
    simpa using hu
  · intro v' w' fp' hO hch _
    obtain ⟨X, rfl⟩ := hch.ext (hext.alloc _) (fun b hb => hown.2.2 b (hown.blkL_in b hb))
    exact h v' X fp' hO
end
end Go

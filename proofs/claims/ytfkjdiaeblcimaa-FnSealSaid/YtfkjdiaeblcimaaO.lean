/- A slice that the call itself owns, grown by append; the worlds spelled 'w0.plus X'. No statement is proved here. -/
import Derived.Test.YtfkjdiaeblcimaaK
set_option maxRecDepth 100000
namespace Go
open Go.RowKit
section
variable {P : Program} {ops : Array Oper} {rest : List Oper} {o : Oper} {a : Act} {Q : Exit → Act → World → Prop}
/-- What the walk needs of an element type: its zero value, its cells, its bytes. -/
structure ElemInfo (P : Program) (t e : TypeId) (size bytes : Nat) : Prop where
  und : P.underlying t = some (.slice e)
  info : ∃ i z, P.info? e = some i ∧ i.zero = some z ∧ i.size = size ∧ i.bytes = bytes ∧ z.cells.size = size
  pos : 0 < size
theorem World.ownsRow.plus {w : World} {base : Nat} {e : TypeId} {size : Nat} {v : Value} {n : Nat} {xs : List Value} (h : w.ownsRow base e size v n xs) (X : More) : (w.plus X).ownsRow base e size v n xs := by
  refine h.kept (row := none) ⟨rfl, rfl, rfl, by simp, fun k hk _ => World.heap_plus w X k hk⟩ ?_
  cases v.ownBlock <;> simp
theorem World.ownsRow.mono {w : World} {base base' : Nat} {e : TypeId} {size : Nat} {v : Value} {n : Nat} {xs : List Value} (h : w.ownsRow base e size v n xs) (hb : base' ≤ base) : w.ownsRow base' e size v n xs := by
  refine ⟨h.1, ?_⟩
  rcases h.2 with h2 | ⟨g, cap, cur, hv, hg, hh⟩
  · exact .inl h2
  · exact .inr ⟨g, cap, cur, hv, by omega, hh⟩
/-- append of m elements that lie at an address, to a slice of the call's own. -/
theorem app_many {t e : TypeId} {size bytes : Nat} {W : World} (E : ElemInfo P t e size bytes) (hgd : o.guard = none) (s x : Operand)
    (ho : o.op = .call { callee := .builtin .append, args := #[s, x], argTypes := #[t, t] })
    (w0 : World) (hext : Ext w0 W) (v : Value) (n : Nat) (xs : List Value) (hs : a.eval s = v) (hown : W.ownsRow w0.heap.size e size v n xs)
    (ad : Addr) (m c : Nat) (news : List Value) (hx : a.eval x = .slice (some ad) m c) (hl : news.length = m * size) (hnews : ∀ j u, news[j]? = some u → W.cell? (ad.add j) = some u) (h1 : ∀ u ∈ news, u.oneCell' = true)
    (h63 : n + m ≤ maxLen) (hbytes : (n + m) * bytes ≤ 140737488355328)
    (h : ∀ v' X, (w0.plus X).ownsRow w0.heap.size e size v' (n + m) (xs ++ news) → (v' = .slice none 0 0 ↔ v = .slice none 0 0 ∧ m = 0) → wpList P ops Q rest (a.put o.dst v') (w0.plus X)) : wpList P ops Q (o :: rest) a W := by
  obtain ⟨i, z, hi, hz, hsize, hby, hzs⟩ := E.info
  refine wpList_append_own W hgd s x t ho w0.heap.size e i z size bytes E.und hi hz hsize hby hzs E.pos v n xs hs hown ad m c news hx hl hnews h1 h63 hbytes hext.below.size ?_
  intro v' w' hown' hg hnil
  obtain ⟨Y, rfl⟩ := hext.grown hg (fun k hk => (hown.lt k hk).1)
  exact h v' Y hown' hnil
/-- append of one element, that the statement has just laid in a new block. -/
theorem app_one {t e : TypeId} {size bytes : Nat} {w1 : World} {cs : Array Value} (E : ElemInfo P t e size bytes) (hgd : o.guard = none) (s x : Operand)
    (ho : o.op = .call { callee := .builtin .append, args := #[s, x], argTypes := #[t, t] })
    (w0 : World) (hext : Ext w0 w1) (v : Value) (n : Nat) (xs : List Value) (hs : a.eval s = v) (hown : w1.ownsRow w0.heap.size e size v n xs)
    (b0 : Nat) (hb0 : b0 = w1.heap.size) (hx : a.eval x = .slice (some ⟨b0, 0, none⟩) 1 1) (hl : cs.size = size) (h1 : ∀ u ∈ cs.toList, u.oneCell' = true)
    (h63 : n + 1 ≤ maxLen) (hbytes : (n + 1) * bytes ≤ 140737488355328)
    (h : ∀ v' X, (w0.plus X).ownsRow w0.heap.size e size v' (n + 1) (xs ++ cs.toList) → v' ≠ .slice none 0 0 → wpList P ops Q rest (a.put o.dst v') (w0.plus X)) : wpList P ops Q (o :: rest) a (w1.alloc (.cells cs e)) := by
  subst hb0
  refine app_many E hgd s x ho w0 (hext.alloc _) v n xs hs (hown.alloc _) ⟨w1.heap.size, 0, none⟩ 1 1 cs.toList hx (by simpa using hl) ?_ h1 h63 hbytes ?_
  · intro j u hu
    have hadd : (⟨w1.heap.size, 0, none⟩ : Addr).add j = ⟨w1.heap.size, j, none⟩ := by unfold Addr.add; split <;> simp_all
    rw [hadd, World.cell?_alloc_new]
    simpa using hu
  · intro v' X hown' hnil
    exact h v' X hown' (fun e => by simp [hnil] at e)
/-- Cells of an owned row, at the address that a walk computes. -/
theorem World.ownsRow.at {w : World} {base : Nat} {e : TypeId} {size : Nat} {v : Value} {n : Nat} {xs : List Value} (h : w.ownsRow base e size v n xs) (hne : xs ≠ []) :
    ∃ g cap, v = .slice (some ⟨g, 0, none⟩) n cap ∧ base ≤ g ∧ g < w.heap.size ∧ n ≤ cap ∧ ∀ j u, xs[j]? = some u → w.cell? ⟨g, j, none⟩ = some u := by
  have h2 := h.2
  rcases h2 with ⟨rfl, rfl⟩ | ⟨g, cap, cur, rfl, hb, hg, hn, _⟩
  · have := h.1; simp at this; exact absurd this hne
  · refine ⟨g, cap, rfl, hb, (Array.getElem?_eq_some_iff.1 hg).1, hn, fun j u hu => ?_⟩
    have := h.cells (g := g) rfl j u hu
    have hadd : (⟨g, 0, none⟩ : Addr).add j = ⟨g, j, none⟩ := by unfold Addr.add; split <;> simp_all
    rwa [hadd] at this
/-- string(bytes), the bytes being an owned row. -/
theorem run_string_own {e src dst : TypeId} {w : World} {base : Nat} {v : Value} {n : Nat} {xs : List Int} (hs : P.underlying src = some (.slice e)) (he : P.underlying e = some (.int .u8)) (hd : P.underlying dst = some .string)
    (h : w.ownsRow base e 1 v n (xs.map (Value.int .u8))) : (convert src dst v).run P w = .ok (.string (strOfNums xs)) w := by
  have hlen : xs.length = n := by have := h.1; simpa using this
  have h2 := h.2
  rcases h2 with ⟨rfl, rfl⟩ | ⟨g, cap, cur, rfl, hb, hg, hn, hm, hsz, htake⟩
  · have : xs = [] := List.eq_nil_of_length_eq_zero hlen
    subst this
    exact run_convert_bytes_nil w src e hs he 0 0 dst hd
  · refine run_convert_bytes_arg w src e hs he g 0 n cap xs hlen ?_ dst hd
    intro i hi
    have := h.cells (g := g) rfl i (.int .u8 (xs.getD i 0)) (by simp [List.getD, List.getElem?_eq_getElem (show i < xs.length by omega)])
    have hadd : (⟨g, 0, none⟩ : Addr).add i = ⟨g, i, none⟩ := by unfold Addr.add; split <;> simp_all
    rw [hadd] at this
    simpa using this
end
end Go

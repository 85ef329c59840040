/- Rows that a call owns and appends to, as lists of elements. No statement is proved here. -/
import Derived.Test.YtfkjdiaeblcimaaU
import Derived.Laws.OwnMore
set_option maxRecDepth 100000
set_option linter.unusedVariables false
namespace Go
open Go.RowKit
section
variable {α : Type} {P : Program} {ops : Array Oper} {rest : List Oper} {op : Oper} {a : Act} {Q : Exit → Act → World → Prop}
/-- A slice of the call's own, of flat elements, that append may grow. -/
def Row (B : Nat) (w : World) (ty K : Nat) (f : α → List Value) (v : Value) (xs : List α) : Prop := w.ownsRow B ty K v xs.length (xs.flatMap f)
theorem Row.plus {B : Nat} {w : World} {ty K : Nat} {f : α → List Value} {v : Value} {xs : List α} (h : Row B w ty K f v xs) (X : More) : Row B (w.plus X) ty K f v xs := World.ownsRow.plus h X
theorem Row.ext {B : Nat} {w w' : World} {ty K : Nat} {f : α → List Value} {v : Value} {xs : List α} (hx : Ext w w') (h : Row B w ty K f v xs) : Row B w' ty K f v xs := by obtain ⟨X, rfl⟩ := hx; exact h.plus X
theorem Row.made (w : World) (ty K : Nat) (f : α → List Value) : Row w.heap.size (w.alloc (.cells #[] ty)) ty K f (.slice (some ⟨w.heap.size, 0, none⟩) 0 0) [] :=
  World.ownsRow_made (base := w.heap.size) w #[] 0 (Nat.le_refl _) (by decide) (by simp)
theorem Row.mono {B B' : Nat} {w : World} {ty K : Nat} {f : α → List Value} {v : Value} {xs : List α} (h : Row B w ty K f v xs) (hb : B' ≤ B) : Row B' w ty K f v xs := World.ownsRow.mono h hb
theorem Row.made1 (w : World) (o : Obj) (ty K : Nat) (f : α → List Value) : Row (w.alloc o).heap.size ((w.alloc o).alloc (.cells #[] ty)) ty K f (.slice (some ⟨w.heap.size + 1, 0, none⟩) 0 0) [] := by
  have h := Row.made (w.alloc o) ty K f
  rw [World.size_alloc] at h ⊢
  exact h
theorem Row.made2 (w : World) (o : Obj) (X : More) (ty K : Nat) (f : α → List Value) : Row w.heap.size (((w.alloc o).plus X).alloc (.cells #[] ty)) ty K f (.slice (some ⟨w.heap.size + 1 + X.n, 0, none⟩) 0 0) [] := by
  have h := Row.made ((w.alloc o).plus X) ty K f
  rw [World.size_plus, World.size_alloc] at h
  exact h.mono (by omega)
theorem Row.madeA (w : World) (o1 o2 : Obj) (ty K : Nat) (f : α → List Value) : Row ((w.alloc o1).alloc o2).heap.size (((w.alloc o1).alloc o2).alloc (.cells #[] ty)) ty K f (.slice (some ⟨w.heap.size + 1 + 1, 0, none⟩) 0 0) [] := by
  have h := Row.made ((w.alloc o1).alloc o2) ty K f
  rw [World.size_alloc, World.size_alloc] at h ⊢
  exact h
theorem Row.made4 (w : World) (o : Obj) (X Y : More) (ty K : Nat) (f : α → List Value) : Row w.heap.size ((((w.alloc o).plus X).plus Y).alloc (.cells #[] ty)) ty K f (.slice (some ⟨w.heap.size + 1 + X.n + Y.n, 0, none⟩) 0 0) [] := by
  have h := Row.made (((w.alloc o).plus X).plus Y) ty K f
  rw [World.size_plus, World.size_plus, World.size_alloc] at h
  exact h.mono (by omega)
theorem Row.made3 (w : World) (X : More) (ty K : Nat) (f : α → List Value) : Row w.heap.size ((w.plus X).alloc (.cells #[] ty)) ty K f (.slice (some ⟨w.heap.size + X.n, 0, none⟩) 0 0) [] := by
  have h := Row.made (w.plus X) ty K f
  rw [World.size_plus] at h
  exact h.mono (by omega)
theorem Row.nil (w : World) (B ty K : Nat) (f : α → List Value) : Row B w ty K f (.slice none 0 0) ([] : List α) := ⟨by simp, .inl ⟨rfl, rfl⟩⟩
theorem Row.shape {B : Nat} {w : World} {ty K : Nat} {f : α → List Value} {v : Value} {xs : List α} (h : Row B w ty K f v xs) : ∃ a cap, v = .slice a xs.length cap := by
  rcases h.2 with ⟨rfl, h0⟩ | ⟨g, cap, cur, rfl, _⟩
  · exact ⟨none, 0, by rw [h0]⟩
  · exact ⟨_, cap, rfl⟩
theorem flatMap_len {f : α → List Value} {K : Nat} (hf : ∀ x, (f x).length = K) : ∀ xs : List α, (xs.flatMap f).length = xs.length * K
  | [] => by simp
  | x :: xs => by simp only [List.flatMap_cons, List.length_append, hf, flatMap_len hf xs, List.length_cons, Nat.add_mul, Nat.one_mul]; omega
theorem flatMap_at {f : α → List Value} {K : Nat} (hf : ∀ x, (f x).length = K) : ∀ (xs : List α) (i : Nat) (hi : i < xs.length), ((xs.flatMap f).drop (i * K)).take K = f xs[i]
  | x :: xs, 0, _ => by simp [← hf x]
  | x :: xs, i + 1, hi => by
    have ih := flatMap_at hf xs i (by simpa using hi)
    rw [List.flatMap_cons, Nat.add_mul, Nat.one_mul, Nat.add_comm, ← List.drop_drop]
    rw [show (f x ++ xs.flatMap f).drop K = xs.flatMap f from by rw [← hf x]; simp]
    simpa using ih
theorem Row.own {B : Nat} {w : World} {ty K : Nat} {f : α → List Value} {v : Value} {xs : List α} (hf : ∀ x, (f x).length = K) (h : Row B w ty K f v xs) : ∃ fp, Own B w (oSl ty K (oFlat f)) fp [v] xs := by
  rcases h.2 with ⟨rfl, h0⟩ | ⟨g, cap, cur, rfl, hb, hg, hn, hm, hsz, ht⟩
  · have : xs = [] := List.eq_nil_of_length_eq_zero h0
    subst this
    exact ⟨[], ⟨_, rfl, .inl ⟨rfl, rfl, rfl⟩⟩, List.nodup_nil, by simp⟩
  · refine ⟨g :: (List.replicate xs.length []).flatten, ⟨_, rfl, .inr ⟨g, cap, cur, List.replicate xs.length [], rfl, hg, hsz, hn, hm, by simp, rfl, fun i hi fi hfi => ?_⟩⟩, ?_, ?_⟩
    · have hfi' : fi = [] := by
        rw [List.getElem?_replicate, if_pos hi] at hfi
        exact (Option.some.inj hfi).symm
      refine ⟨hfi', ?_⟩
      have := flatMap_at hf xs i hi
      rw [← ht] at this
      rw [← this, List.drop_take, List.take_take]
      congr 1
      have : (i + 1) * K ≤ xs.length * K := Nat.mul_le_mul_right _ hi
      rw [Nat.add_mul, Nat.one_mul] at this
      omega
    · have : (List.replicate xs.length ([] : List Nat)).flatten = [] := by simp
      rw [this]; simp
    · have : (List.replicate xs.length ([] : List Nat)).flatten = [] := by simp
      rw [this]; simpa using hb
theorem flatMap_take {f : α → List Value} {K : Nat} (hf : ∀ x, (f x).length = K) : ∀ (xs : List α) (k : Nat), (xs.take k).flatMap f = (xs.flatMap f).take (k * K)
  | [], k => by simp
  | x :: xs, 0 => by simp
  | x :: xs, k + 1 => by
    rw [List.take_succ_cons, List.flatMap_cons, List.flatMap_cons, flatMap_take hf xs k, Nat.add_mul, Nat.one_mul, Nat.add_comm, show K + k * K = (f x).length + k * K by rw [hf x], List.take_length_add_append]
theorem Row.take {B : Nat} {w : World} {ty K n cap k : Nat} {f : α → List Value} {ad : Option Addr} {xs : List α} (hf : ∀ x, (f x).length = K) (h : Row B w ty K f (.slice ad n cap) xs) (hk : k ≤ xs.length) (h0 : 0 < k) : Row B w ty K f (.slice ad k cap) (xs.take k) := by
  have hlen : (xs.take k).length = k := by simp; omega
  rcases h.2 with ⟨h1, h2⟩ | ⟨g, cap', cur, hv, hb, hg, hn, hm, hs, ht⟩
  · omega
  · obtain ⟨rfl, rfl, rfl⟩ : ad = some ⟨g, 0, none⟩ ∧ n = xs.length ∧ cap = cap' := by simpa using hv
    have hk2 : k * K ≤ xs.length * K := Nat.mul_le_mul_right _ hk
    have e := flatMap_take hf xs k
    refine ⟨by rw [flatMap_len hf, hlen], .inr ⟨g, cap, cur, by rw [hlen], hb, hg, by rw [hlen]; omega, hm, hs, ?_⟩⟩
    rw [hlen, e, ← ht, List.take_take, Nat.min_eq_left hk2]

theorem Row.cap {B : Nat} {w : World} {ty K n cap : Nat} {f : α → List Value} {ad : Option Addr} {xs : List α} (h : Row B w ty K f (.slice ad n cap) xs) : n ≤ cap := by
  rcases h.2 with ⟨h1, h2⟩ | ⟨g, cap', cur, hv, hb, hg, hn, hm, hs, ht⟩
  · obtain ⟨_, rfl, rfl⟩ : ad = none ∧ n = 0 ∧ cap = 0 := by simpa using h1
    exact Nat.le_refl _
  · obtain ⟨_, h3, h4⟩ : ad = some ⟨g, 0, none⟩ ∧ n = xs.length ∧ cap = cap' := by simpa using hv
    omega
theorem slr_flat {f : α → List Value} {K : Nat} (hf : ∀ x, (f x).length = K) {w : World} {ad : Addr} {n cap : Nat} {xs : List α} (h : SlR w K (fun _ cs x => cs = f x) (.slice (some ad) n cap) xs) : ∀ j u, (xs.flatMap f)[j]? = some u → w.cell? (ad.add j) = some u := by
  intro j u hu
  obtain ⟨a', cap', hv, h1, h2, h3⟩ := h
  have hj : j < xs.length * K := by rw [← flatMap_len hf]; exact (List.getElem?_eq_some_iff.1 hu).1
  have hK : 0 < K := by
    rcases Nat.eq_zero_or_pos K with h0 | h0
    · rw [h0] at hj; omega
    · exact h0
  have hi : j / K < xs.length := by rw [Nat.div_lt_iff_lt_mul hK]; exact hj
  obtain ⟨b, off, cs, ha, hk, hc, hcs⟩ := h3 (j / K) hi
  obtain ⟨rfl⟩ : ad = ⟨b, off, none⟩ := by
    have : some ad = a' := by simpa using (congrArg (fun v => match v with | Value.slice a _ _ => a | _ => none) hv)
    rw [ha] at this; simpa using this
  have hm : j % K < K := Nat.mod_lt _ hK
  have e : j / K * K + j % K = j := by rw [Nat.mul_comm]; exact Nat.div_add_mod j K
  have hat := flatMap_at hf xs (j / K) hi
  have hq : cs[j % K]? = some u := by
    rw [hcs, ← hat, List.getElem?_take, if_pos hm, List.getElem?_drop, e]; exact hu
  have := hc _ _ hq
  rw [Nat.add_assoc, e] at this
  rw [Addr.add_lit]; exact this
theorem Ext.cellA {w w' : World} (h : Ext w w') {a : Addr} {u : Value} (hc : w.cell? a = some u) : w'.cell? a = some u := by
  obtain ⟨b, off, sp⟩ := a
  have := World.cell?_spot hc
  simp at this
  subst this
  exact h.cell hc
theorem Row.appS {t e : TypeId} {size bytes : Nat} {w1 : World} {f : α → List Value} (E : ElemInfo P t e size bytes) (hgd : op.guard = none) (s x : Operand)
    (ho : op.op = .call { callee := .builtin .append, args := #[s, x], argTypes := #[t, t] })
    (w0 : World) (hext : Ext w0 w1) (v : Value) (xs : List α) (hs : a.eval s = v) (hown : Row w0.heap.size w1 e size f v xs)
    (ad : Addr) (m c : Nat) (ys : List α) (hx : a.eval x = .slice (some ad) m c) (hm : m = ys.length) (hf : ∀ x, (f x).length = size) (hnews : ∀ j u, (ys.flatMap f)[j]? = some u → w1.cell? (ad.add j) = some u) (h1 : ∀ u ∈ ys.flatMap f, u.oneCell' = true)
    (h63 : xs.length + ys.length ≤ maxLen) (hbytes : (xs.length + ys.length) * bytes ≤ 140737488355328)
    (h : ∀ v' X, Row w0.heap.size (w0.plus X) e size f v' (xs ++ ys) → (v' = .slice none 0 0 ↔ v = .slice none 0 0 ∧ ys.length = 0) → wpList P ops Q rest (a.put op.dst v') (w0.plus X)) : wpList P ops Q (op :: rest) a w1 := by
  subst hm
  refine app_many E hgd s x ho w0 hext v xs.length (xs.flatMap f) hs hown ad ys.length c (ys.flatMap f) hx (flatMap_len hf ys) hnews h1 h63 hbytes fun v' X ho' hne => h v' X ?_ hne
  unfold Row
  rw [List.length_append, List.flatMap_append]
  exact ho'
theorem app_none {t e : TypeId} {size bytes base : Nat} {W : World} (E : ElemInfo P t e size bytes) (hgd : op.guard = none) (s x : Operand)
    (ho : op.op = .call { callee := .builtin .append, args := #[s, x], argTypes := #[t, t] })
    (v : Value) (n : Nat) (xs : List Value) (hs : a.eval s = v) (hown : W.ownsRow base e size v n xs) (c : Nat) (hx : a.eval x = .slice none 0 c)
    (h : wpList P ops Q rest (a.put op.dst v) W) : wpList P ops Q (op :: rest) a W := by
  obtain ⟨i, z, hi, hz, hsize, hby, hzs⟩ := E.info
  refine wpList_plain hgd fun K hK => ?_
  have hrun : (Builtin.append_ #[t, t] op.type #[v, .slice none 0 c]).run P W = .ok v W := by
    rcases hown.2 with ⟨rfl, rfl⟩ | ⟨g, cap, cur, rfl, _, _, hnc, _⟩
    · simp [Builtin.append_, run_underlying E.und, sizeOf, typeInfo, hi, Builtin.lenOf, Builtin.firstCells]
    · simp [Builtin.append_, run_underlying E.und, sizeOf, typeInfo, hi, Builtin.lenOf, Builtin.firstCells, hnc, storeCells]
  unfold Oper.wp
  simp [execOp, ho, resolve, invoke, builtin, hs, hx, hrun, Result.andThen]
  exact hK _ _ h
/-- append(own.., any slice ..). -/
theorem Row.appV {t e : TypeId} {size bytes : Nat} {w1 : World} {f : α → List Value} (E : ElemInfo P t e size bytes) (hgd : op.guard = none) (s x : Operand)
    (ho : op.op = .call { callee := .builtin .append, args := #[s, x], argTypes := #[t, t] })
    (w0 : World) (hext : Ext w0 w1) (v : Value) (xs : List α) (hs : a.eval s = v) (hown : Row w0.heap.size w1 e size f v xs)
    (sv : Value) (ys : List α) (hx : a.eval x = sv) (hf : ∀ x, (f x).length = size) (hr : SlR w1 size (fun _ cs x => cs = f x) sv ys) (h1 : ∀ x, ∀ u ∈ f x, u.oneCell' = true)
    (h63 : xs.length + ys.length ≤ maxLen) (hbytes : (xs.length + ys.length) * bytes ≤ 140737488355328)
    (h : ∀ v' X, Row w0.heap.size (w0.plus X) e size f v' (xs ++ ys) → wpList P ops Q rest (a.put op.dst v') (w0.plus X)) : wpList P ops Q (op :: rest) a w1 := by
  obtain ⟨ad, cap, rfl⟩ := hr.len
  cases ad with
  | none =>
    have h0 : ys = [] := by
      cases ys with
      | nil => rfl
      | cons y ys =>
        obtain ⟨a', cap', hv, _, _, h3⟩ := hr
        obtain ⟨b, off, cs, ha, _⟩ := h3 0 (Nat.zero_lt_succ _)
        rw [ha] at hv; simp at hv
    subst h0
    obtain ⟨X, rfl⟩ := hext
    exact app_none E hgd s x ho v xs.length (xs.flatMap f) hs hown cap hx (h v X (by simpa using hown))
  | some ad =>
    exact Row.appS E hgd s x ho w0 hext v xs hs hown ad ys.length cap ys hx rfl hf (slr_flat hf hr) (fun u hu => by obtain ⟨y, _, hy⟩ := List.mem_flatMap.1 hu; exact h1 y u hy) h63 hbytes fun v' X ho' _ => h v' X ho'
theorem Row.app {t e : TypeId} {size bytes : Nat} {w1 : World} {cs : Array Value} {f : α → List Value} (E : ElemInfo P t e size bytes) (hgd : op.guard = none) (s x : Operand)
    (ho : op.op = .call { callee := .builtin .append, args := #[s, x], argTypes := #[t, t] })
    (w0 : World) (hext : Ext w0 w1) (v : Value) (xs : List α) (hs : a.eval s = v) (hown : Row w0.heap.size w1 e size f v xs) (y : α) (hy : cs.toList = f y)
    (b0 : Nat) (hb0 : b0 = w1.heap.size) (hx : a.eval x = .slice (some ⟨b0, 0, none⟩) 1 1) (hl : cs.size = size) (h1 : ∀ u ∈ cs.toList, u.oneCell' = true)
    (h63 : xs.length + 1 ≤ maxLen) (hbytes : (xs.length + 1) * bytes ≤ 140737488355328)
    (h : ∀ v' X, Row w0.heap.size (w0.plus X) e size f v' (xs ++ [y]) → v' ≠ .slice none 0 0 → wpList P ops Q rest (a.put op.dst v') (w0.plus X)) : wpList P ops Q (op :: rest) a (w1.alloc (.cells cs e)) := by
  refine app_one E hgd s x ho w0 hext v xs.length (xs.flatMap f) hs hown b0 hb0 hx hl h1 h63 hbytes fun v' X ho' hne => h v' X ?_ hne
  unfold Row
  simpa [hy] using ho'
end
end Go

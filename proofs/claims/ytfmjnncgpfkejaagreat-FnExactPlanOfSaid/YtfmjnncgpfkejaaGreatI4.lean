/- Kinds of owned lists and of boxed elements, for regions that draw their order. -/
import Derived.Test.YtfmjnncgpfkejaaGreatBG
import Derived.ArgAppend
set_option maxRecDepth 100000
set_option linter.unusedVariables false
namespace Go
open Go.RowKit
def emptyH (B : Nat) : World := { (default : World) with heap := Array.replicate B (.cells #[] 0) }
theorem emptyH_size (B : Nat) : (emptyH B).heap.size = B := by simp [emptyH]
theorem cell_chg {S : List Nat} {w w' : World} {b i : Nat} {u : Value} (hx : Chg S w w') (h : w.cell? ⟨b, i, none⟩ = some u) (hb : b ∉ S) : w'.cell? ⟨b, i, none⟩ = some u := by
  have hlt := World.block_lt_of_cell? w _ h
  simp only [World.cell?, hx.block b hlt hb] at h ⊢
  exact h
section
variable {α : Type}
/-- An element that can be made. -/
def CanO (K : Nat) (o : Ow α) (y : α) : Prop := ∀ w, ∃ w' fy cs, Ext w w' ∧ Own w.heap.size w' o fy cs y ∧ cs.length = K
theorem canO_flat {f : α → List Value} {K : Nat} (hf : ∀ x, (f x).length = K) (y : α) : CanO K (oFlat f) y := fun w => ⟨w, [], f y, Ext.refl w, ⟨⟨rfl, rfl⟩, List.nodup_nil, fun b hb => by cases hb⟩, hf y⟩
theorem build_own {K : Nat} {o : Ow α} (hlo : Local o) (hhe : Held o) : ∀ (xs : List α), (∀ y ∈ xs, CanO K o y) → ∀ w0 : World, ∃ (w : World) (fps : List (List Nat)) (raw : List Value), Ext w0 w ∧ fps.length = xs.length ∧ raw.length = xs.length * K ∧
    (∀ i (hi : i < xs.length) fi, fps[i]? = some fi → o w fi ((raw.drop (i * K)).take K) xs[i]) ∧ fps.flatten.Nodup ∧ ∀ b ∈ fps.flatten, w0.heap.size ≤ b ∧ b < w.heap.size
  | [], _, w0 => ⟨w0, [], [], Ext.refl w0, rfl, by simp, (fun i hi => by simp at hi), by simp, by simp⟩
  | x :: xs, h, w0 => by
    obtain ⟨w1, fx, cs, hx1, hO, hcs⟩ := h x (by simp) w0
    obtain ⟨w2, fps, raw, hx2, h1, h2, h3, h4, h5⟩ := build_own hlo hhe xs (fun y hy => h y (List.mem_cons_of_mem _ hy)) w1
    have hlt := hhe _ _ _ _ hO.1
    have hs1 := hx1.below.size
    have hs2 := hx2.below.size
    refine ⟨w2, fx :: fps, cs ++ raw, hx1.trans hx2, by simp [h1], by rw [List.length_append, hcs, h2, List.length_cons, Nat.add_mul, Nat.one_mul, Nat.add_comm], fun i hi fi hfi => ?_, ?_, fun b hb => ?_⟩
    · cases i with
      | zero =>
        simp at hfi
        subst hfi
        have e : (List.drop (0 * K) (cs ++ raw)).take K = cs := by rw [Nat.zero_mul, List.drop_zero, ← hcs]; simp
        rw [e]
        exact hlo.ext hhe hx2 hO.1
      | succ i =>
        have e : (List.drop ((i + 1) * K) (cs ++ raw)).take K = (raw.drop (i * K)).take K := by
          rw [Nat.add_mul, Nat.one_mul, Nat.add_comm, ← List.drop_drop, show (cs ++ raw).drop K = raw from by rw [← hcs]; simp]
        rw [e]
        exact h3 i (by simpa using hi) fi (by simpa using hfi)
    · rw [List.flatten_cons]
      refine List.nodup_append.2 ⟨hO.2.1, h4, fun b hb c hc hbc => ?_⟩
      subst hbc
      have := hlt b hb
      have := (h5 b hc).1
      omega
    · rw [List.flatten_cons] at hb
      rcases List.mem_append.1 hb with hb | hb
      · have := hO.2.2 b hb; have := hlt b hb; omega
      · have := h5 b hb; omega
theorem own_can {ty K : Nat} {o : Ow α} (hlo : Local o) (hhe : Held o) {xs : List α} (h : ∀ y ∈ xs, CanO K o y) (hm : xs.length ≤ maxLen) (w0 : World) : ∃ w a c fp, Ext w0 w ∧ Own w0.heap.size w (oSl ty K o) fp [.slice a xs.length c] xs := by
  obtain ⟨w, fps, raw, hx, h1, h2, h3, h4, h5⟩ := build_own hlo hhe xs h w0
  have hsz := hx.below.size
  have hx2 : Ext w (w.alloc (.cells raw.toArray ty)) := (Ext.refl _).alloc _
  have hR : RowO w0.heap.size (w.alloc (.cells raw.toArray ty)) ty K o raw fps (.slice (some ⟨w.heap.size, 0, none⟩) xs.length xs.length) xs := by
    refine ⟨⟨h2, .inr ⟨w.heap.size, xs.length, raw.toArray, rfl, hsz, heap_alloc_new w _, Nat.le_refl _, hm, by simpa using h2, ?_⟩⟩, h1, fun i hi fi hfi => hlo.ext hhe hx2 (h3 i hi fi hfi), ?_, fun b hb => (h5 b hb).1⟩
    · show raw.take (xs.length * K) = raw
      rw [List.take_of_length_le (Nat.le_of_eq h2)]
    · refine List.nodup_append.2 ⟨by simp [blkL], h4, fun b hb c hc hbc => ?_⟩
      subst hbc
      simp [blkL] at hb
      have := (h5 b hc).2
      omega
  exact ⟨_, _, _, _, hx.alloc _, hR.own⟩
theorem canO_sl {ty K : Nat} {o : Ow α} (hlo : Local o) (hhe : Held o) {xs : List α} (h : ∀ y ∈ xs, CanO K o y) (hm : xs.length ≤ maxLen) : CanO 1 (oSl ty K o) xs := fun w => by
  obtain ⟨w', a, c, fp, hx, hO⟩ := own_can (ty := ty) hlo hhe h hm w
  exact ⟨w', fp, _, hx, hO, rfl⟩
/-- A list in memory of its own from B on. -/
def kOwnX (ty K : Nat) (o : Ow α) (B : Nat) (xs : List α) (_ : Nat × Nat) : XReg.Kind := fun v w => ∃ a c fp, v = .slice a xs.length c ∧ Own B w (oSl ty K o) fp [.slice a xs.length c] xs
theorem kOwnX_good {ty K : Nat} {o : Ow α} (hlo : Local o) (hhe : Held o) {B : Nat} {xs : List α} {S U V : List Nat} (hV : ∀ b ∈ V, b < B) (h : ∀ y ∈ xs, CanO K o y) (hm : xs.length ≤ maxLen) : (XReg.ZOp.A (kOwnX ty K o B xs) S U V).Good :=
  ⟨fun x v w w' hx ⟨a, c, fp, hv, hO⟩ => ⟨a, c, fp, hv, hO.chg (oSl_local hlo) (oSl_held hhe) hx hV⟩, by
    obtain ⟨w', a, c, fp, _, hO⟩ := own_can (ty := ty) hlo hhe h hm (emptyH B)
    rw [emptyH_size] at hO
    exact ⟨(0, 0), _, w', a, c, fp, rfl, hO⟩⟩
theorem kOwnX_in {ty K : Nat} {o : Ow α} {B : Nat} {xs : List α} {x : Nat × Nat} {w : World} {v : Value} {fp : List Nat} (h : Own B w (oSl ty K o) fp [v] xs) : kOwnX ty K o B xs x v w := by
  obtain ⟨a, c, rfl⟩ := h.shape
  exact ⟨a, c, fp, rfl, h⟩
theorem kOwnX_out {ty K : Nat} {o : Ow α} {B : Nat} {xs : List α} {x : Nat × Nat} {w : World} {v : Value} (h : kOwnX ty K o B xs x v w) : ∃ fp, Own B w (oSl ty K o) fp [v] xs := by
  obtain ⟨a, c, fp, rfl, h⟩ := h; exact ⟨fp, h⟩
/-- An empty list that was just made. -/
def kEmpX (ty K : Nat) (f : α → List Value) (B : Nat) (_ : Nat × Nat) : XReg.Kind := fun v w => ∃ g, v = .slice (some ⟨g, 0, none⟩) 0 0 ∧ B ≤ g ∧ Row B w ty K f v []
theorem kEmpX_in {W : World} {g B ty K : Nat} {f : α → List Value} {x : Nat × Nat} (hg : g = W.heap.size) (hB : B ≤ W.heap.size) : kEmpX ty K f B x (.slice (some ⟨g, 0, none⟩) 0 0) (W.alloc (.cells #[] ty)) := ⟨g, rfl, by omega, Row.madeB' hg hB⟩
theorem kEmpX_good {ty K : Nat} {f : α → List Value} {B : Nat} {S U V : List Nat} (hV : ∀ b ∈ V, b < B) : (XReg.ZOp.A (kEmpX ty K f B) S U V).Good :=
  ⟨fun x v w w' hx ⟨g, hv, hB, h⟩ => ⟨g, hv, hB, h.chg hx (fun b hb hbV => by subst hv; simp [blkL] at hb; subst hb; have := hV _ hbV; omega)⟩,
    (0, 0), _, _, kEmpX_in (W := emptyH B) rfl (by rw [emptyH_size]; exact Nat.le_refl _)⟩
theorem kEmpX_r {ty K : Nat} {f : α → List Value} {B : Nat} {x : Nat × Nat} {v : Value} {w : World} (h : kEmpX ty K f B x v w) : Row B w ty K f v [] := by obtain ⟨_, _, _, h⟩ := h; exact h
/-- An element that owns memory, laid in a block of its own. -/
def kElt (K : Nat) (o : Ow α) (B : Nat) (y : α) (_ : Nat × Nat) : XReg.Kind := fun v w => ∃ g cs fy, v = .slice (some ⟨g, 0, none⟩) 1 1 ∧ B ≤ g ∧ (∀ j u, cs[j]? = some u → w.cell? ⟨g, j, none⟩ = some u) ∧ cs.length = K ∧ Own B w o fy cs y
theorem kElt_good {K : Nat} {o : Ow α} (hlo : Local o) (hhe : Held o) {B : Nat} {y : α} {S U V : List Nat} (hV : ∀ b ∈ V, b < B) (h : CanO K o y) : (XReg.ZOp.A (kElt K o B y) S U V).Good :=
  ⟨fun x v w w' hx ⟨g, cs, fy, hv, hB, hc, hl, hO⟩ => ⟨g, cs, fy, hv, hB, (fun j u hu => cell_chg hx (hc j u hu) (fun hb => by have := hV _ hb; omega)), hl, hO.chg hlo hhe hx hV⟩, by
    obtain ⟨w', fy, cs, hx, hO, hl⟩ := h (emptyH B)
    rw [emptyH_size] at hO
    have hsz := hx.below.size
    rw [emptyH_size] at hsz
    exact ⟨(0, 0), _, w'.alloc (.cells cs.toArray 0), w'.heap.size, cs, fy, rfl, hsz, (fun j u hu => by rw [World.cell?_alloc_new]; simpa using hu), hl, hO.ext hlo hhe ((Ext.refl _).alloc _)⟩⟩
theorem kElt_in {K : Nat} {o : Ow α} (hlo : Local o) (hhe : Held o) {B : Nat} {y : α} {x : Nat × Nat} {w : World} {g : Nat} {ty : TypeId} {cs : Array Value} {fy : List Nat} (h : Own B w o fy cs.toList y) (hl : cs.size = K) (hg : g = w.heap.size) (hB : B ≤ w.heap.size) : kElt K o B y x (.slice (some ⟨g, 0, none⟩) 1 1) (w.alloc (.cells cs ty)) := by
  subst hg
  exact ⟨w.heap.size, cs.toList, fy, rfl, hB, (fun j u hu => by rw [World.cell?_alloc_new]; simpa using hu), by simpa using hl, h.ext hlo hhe ((Ext.refl _).alloc _)⟩
theorem kElt_out {K : Nat} {o : Ow α} {B : Nat} {y : α} {x : Nat × Nat} {w : World} {g : Nat} (h : kElt K o B y x (.slice (some ⟨g, 0, none⟩) 1 1) w) : ∃ cs fy, (∀ j u, cs[j]? = some u → w.cell? ((⟨g, 0, none⟩ : Addr).add j) = some u) ∧ cs.length = K ∧ Own B w o fy cs y := by
  obtain ⟨g', cs, fy, hv, hB, hc, hl, hO⟩ := h
  obtain rfl : g = g' := by simpa using hv
  exact ⟨cs, fy, (fun j u hu => by rw [Addr.add_lit, Nat.zero_add]; exact hc j u hu), hl, hO⟩
end
theorem Own.far {α : Type} {B : Nat} {w w' : World} {o : Ow α} (hl : Local o) (hh : Held o) {S : List Nat} (hx : Chg S w w') {fp : List Nat} {cs : List Value} {x : α} (hd : ∀ b ∈ fp, b ∉ S) (h : Own B w o fp cs x) : Own B w' o fp cs x := ⟨hl.chg hh hx hd h.1, h.2⟩
end Go
namespace Go
open Go.RowKit
section
variable {α : Type} {P : Program} {ops : Array Oper} {rest : List Oper} {op : Oper} {a : Act} {Q : Exit → Act → World → Prop}
theorem grownBy_ext {w w' : World} (h : w.grownBy w' none) : Ext w w' := Ext.of_below ⟨h.os, h.tape, h.output, h.size, fun k hk => h.block k hk (by simp)⟩
/-- append to an empty slice without room: it stays, or the elements lie in a new block. -/
theorem Row.appE {t e : TypeId} {size bytes : Nat} {W : World} {f : α → List Value} (E : ElemInfo P t e size bytes) (hgd : op.guard = none) (s x : Operand)
    (ho : op.op = .call { callee := .builtin .append, args := #[s, x], argTypes := #[t, t] }) (b : Nat) (hs : a.eval s = .slice (some ⟨b, 0, none⟩) 0 0)
    (sv : Value) (ys : List α) (hx : a.eval x = sv) (hf : ∀ x, (f x).length = size) (hr : SlR W size (fun _ cs x => cs = f x) sv ys) (h1 : ∀ x, ∀ u ∈ f x, u.oneCell' = true)
    (h63 : ys.length ≤ maxLen) (hbytes : ys.length * bytes ≤ 140737488355328) (hown : Row 0 W e size f (.slice (some ⟨b, 0, none⟩) 0 0) ([] : List α))
    (h0 : ys = [] → wpList P ops Q rest (a.put op.dst (.slice (some ⟨b, 0, none⟩) 0 0)) W)
    (h : ∀ v' X, Row W.heap.size (W.plus X) e size f v' ys → wpList P ops Q rest (a.put op.dst v') (W.plus X)) : wpList P ops Q (op :: rest) a W := by
  obtain ⟨ad, cap, rfl⟩ := hr.len
  cases ad with
  | none =>
    have hy : ys = [] := by
      cases ys with
      | nil => rfl
      | cons y ys =>
        obtain ⟨a', cap', hv, _, _, h3⟩ := hr
        obtain ⟨b', off, cs, ha, _⟩ := h3 0 (Nat.zero_lt_succ _)
        rw [ha] at hv; simp at hv
    subst hy
    exact app_none E hgd s x ho _ 0 [] hs (by have := hown; unfold Row at this; simpa using this) cap hx (h0 rfl)
  | some ad =>
    obtain ⟨i, z, hi, hz, hsize, hby, hzs⟩ := E.info
    by_cases hy : ys = []
    · subst hy
      refine wpList_append_arg W hgd s x t ho e i z size bytes E.und hi hz hsize hby hzs E.pos b 0 0 0 [] hs (by simp) (by simp) ad 0 cap [] hx (by simp) (by simp) (by simp) (fun _ j hj => by simp at hj) (by simp) (by simp) (fun _ => ?_) (fun hlt => by omega)
      have := h0 rfl
      simpa [World.setCells] using this
    · have hpos : 0 < ys.length := by cases ys with
        | nil => exact absurd rfl hy
        | cons y ys => simp
      refine wpList_append_grows W hgd s x t ho e i z size bytes E.und hi hz hsize hby hzs E.pos (some ⟨b, 0, none⟩) 0 0 [] hs (fun h => by cases h) (by simp) (fun b' hb j u hj => by simp at hj) ad ys.length cap (ys.flatMap f) hx (flatMap_len hf ys) (slr_flat hf hr) (fun u hu => by obtain ⟨y, _, hy⟩ := List.mem_flatMap.1 hu; exact h1 y u hy) (by omega) (by omega) (by simpa using hbytes) ?_
      intro v' w' ho' hg
      obtain ⟨X, rfl⟩ := grownBy_ext hg
      refine h v' X ?_
      unfold Row
      simpa using ho'
end
end Go

/- Slices that are read: what an argument's reading gives, in plain words, and how it stays while the world grows. No statement is proved here. -/
import Derived.Test.YtfkjdiaeblcimaaB
set_option maxRecDepth 100000
namespace Go
open Go.RowKit
section
variable {α : Type}
/-- The value v is a slice over the elements xs, each of k cells, that the reader r reads. -/
def SlR (w : World) (k : Nat) (r : World → List Value → α → Prop) (v : Value) (xs : List α) : Prop :=
  ∃ a cap, v = .slice a xs.length cap ∧ xs.length ≤ cap ∧ cap ≤ maxLen ∧
    ∀ (i : Nat) (h : i < xs.length), ∃ b off cs, a = some ⟨b, off, none⟩ ∧ cs.length = k ∧ (∀ j u, cs[j]? = some u → w.cell? ⟨b, off + i * k + j, none⟩ = some u) ∧ r w cs xs[i]
/-- A reader that a grown world does not disturb. -/
def Stable (r : World → List Value → α → Prop) : Prop := ∀ w w' cs x, Ext w w' → r w cs x → r w' cs x
theorem Ext.cell {w w' : World} (h : Ext w w') {b o : Nat} {u : Value} (hc : w.cell? ⟨b, o, none⟩ = some u) : w'.cell? ⟨b, o, none⟩ = some u := by
  obtain ⟨X, rfl⟩ := h
  rw [World.cell?_plus _ _ _ _ (World.old_of_cell hc)]; exact hc
theorem SlR.ext {w w' : World} {k : Nat} {r : World → List Value → α → Prop} (hr : Stable r) (hx : Ext w w') {v : Value} {xs : List α} (h : SlR w k r v xs) : SlR w' k r v xs := by
  obtain ⟨a, cap, hv, hl, hm, h⟩ := h
  refine ⟨a, cap, hv, hl, hm, fun i hi => ?_⟩
  obtain ⟨b, off, cs, ha, hk, hc, hr'⟩ := h i hi
  exact ⟨b, off, cs, ha, hk, fun j u hu => hx.cell (hc j u hu), hr _ _ _ _ hx hr'⟩
theorem SlR.len {w : World} {k : Nat} {r : World → List Value → α → Prop} {v : Value} {xs : List α} (h : SlR w k r v xs) : ∃ a cap, v = .slice a xs.length cap := by
  obtain ⟨a, cap, hv, _⟩ := h
  exact ⟨a, cap, hv⟩
/-! ### from the form's own reading -/
variable {P : Program} {H : Type} {enc : TypeId × Value → H} {w : World} {base : Nat} {spare : Nat → Bool} {held : Bool}
theorem cells_of {b off k base : Nat} {cs : List Value} (h : w.cells? base ⟨b, off, none⟩ k = some cs) : cs.length = k ∧ ∀ j u, cs[j]? = some u → w.cell? ⟨b, off + j, none⟩ = some u := by
  have := World.cells?_some h
  obtain ⟨_, hl, hc⟩ := this
  refine ⟨hl, fun j u hu => ?_⟩
  have hj : j < k := by
    rw [← hl]; exact (List.getElem?_eq_some_iff.1 hu).1
  have := hc j hj
  rw [Addr.add_lit] at this
  rw [this]; exact hu
theorem exists_list {p : Nat → α → Prop} : ∀ n, (∀ i, i < n → ∃ x, p i x) → ∃ l : List α, l.length = n ∧ ∀ (i : Nat) (h : i < l.length), p i l[i]
  | 0, _ => ⟨[], rfl, fun i h => absurd h (Nat.not_lt_zero _)⟩
  | n + 1, h => by
    obtain ⟨l, hl, hp⟩ := exists_list n fun i hi => h i (by omega)
    obtain ⟨x, hx⟩ := h n (by omega)
    refine ⟨l ++ [x], by simp [hl], fun i hi => ?_⟩
    by_cases e : i < l.length
    · rw [List.getElem_append_left e]; exact hp i e
    · have : i = l.length := by simp at hi; omega
      subst this
      simp [hl, hx]
theorem b_slice {t e k : Nat} {r : World → List Value → α → Prop} (ht : P.underlying t = some (.slice e)) (hk : P.cellsOf e = k) (hpos : 0 < k)
    (he : ∀ fuel cs x, DataW.trod enc P w base spare held fuel e cs = some x → ∃ a : α, r w cs a) {fuel : Nat} {cs : List Value} {x : DataW H × List MemPlace}
    (h : DataW.trod enc P w base spare held fuel t cs = some x) : ∃ v xs, cs = [v] ∧ SlR w k r v xs := by
  rcases DataW.trod_slice ht h with ⟨hcs, _⟩ | ⟨a, len, cap, elems, rest, n, _, hcs, _, _, hlc, hm, hel, hi, _, _⟩
  · exact ⟨_, [], hcs, none, 0, rfl, Nat.le_refl _, Nat.zero_le _, fun i hi => absurd hi (Nat.not_lt_zero _)⟩
  · subst hk
    have one : ∀ i, i < len → ∃ cs x, w.cells? base (a.add (i * P.cellsOf e)) (P.cellsOf e) = some cs ∧ r w cs x := fun i hlt => by
      have h1 := hi i hlt
      rw [List.getElem?_eq_getElem (show i < elems.length by omega)] at h1
      cases hc : w.cells? base (a.add (i * P.cellsOf e)) (P.cellsOf e) with
      | none => rw [hc] at h1; simp at h1
      | some cs =>
        rw [hc, Option.bind_some] at h1
        obtain ⟨y, hy⟩ := he n cs _ h1
        exact ⟨cs, y, rfl, hy⟩
    rcases Nat.eq_zero_or_pos len with h0 | h0
    · subst h0
      exact ⟨_, [], hcs, some a, cap, rfl, Nat.zero_le _, hm, fun i hi => absurd hi (Nat.not_lt_zero _)⟩
    · have hsp : ∃ b off, a = ⟨b, off, none⟩ := by
        obtain ⟨cs0, _, hc0, _⟩ := one 0 h0
        rw [Nat.zero_mul, Addr.add_zero'] at hc0
        obtain ⟨_, hl, hc⟩ := World.cells?_some hc0
        have h2 := hc 0 hpos
        rw [Addr.add_zero', List.getElem?_eq_getElem (by omega)] at h2
        have := World.cell?_spot h2
        obtain ⟨b, off, sp⟩ := a
        simp at this
        subst this
        exact ⟨b, off, rfl⟩
      obtain ⟨b, off, rfl⟩ := hsp
      obtain ⟨xs, hxl, hxs⟩ := exists_list (p := fun i x => ∃ cs, w.cells? base ((⟨b, off, none⟩ : Addr).add (i * P.cellsOf e)) (P.cellsOf e) = some cs ∧ r w cs x) len fun i hi => by
        obtain ⟨cs, x, h1, h2⟩ := one i hi
        exact ⟨x, cs, h1, h2⟩
      refine ⟨_, xs, hcs, some ⟨b, off, none⟩, cap, by rw [hxl], by omega, hm, fun i hi => ?_⟩
      obtain ⟨cs', h1, h2⟩ := hxs i hi
      rw [Addr.add_lit] at h1
      obtain ⟨hcl, hcc⟩ := cells_of h1
      exact ⟨b, off, cs', rfl, hcl, hcc, h2⟩
end
end Go
namespace Go.Proofs.Ytfkjdiaeblcimaa
open Go.ChangeShapes Go.WideShapes Go.ChangeAt Go.RowKit
/-- A span. -/
structure Spn where
  f : Int
  t : Int
def Spn.ok (a : Spn) : Prop := I64 a.f ∧ I64 a.t
def Spn.cells (a : Spn) : List Value := [.int .i64 a.f, .int .i64 a.t]
def Spn.val (a : Spn) : Value := .agg #[.int .i64 a.f, .int .i64 a.t]
/-- Readers of the flat structs, with their bounds. -/
def rLab : World → List Value → Lab → Prop := fun _ cs a => cs = a.cells ∧ a.ok
def rSpn : World → List Value → Spn → Prop := fun _ cs a => cs = a.cells ∧ a.ok
def rInt : World → List Value → Int → Prop := fun _ cs a => cs = [.int .i64 a] ∧ I64 a
theorem rLab_stable : Stable rLab := fun _ _ _ _ _ h => h
theorem rSpn_stable : Stable rSpn := fun _ _ _ _ _ h => h
theorem rInt_stable : Stable rInt := fun _ _ _ _ _ h => h
/-- A reader of a slice, itself in a cell. -/
def rSl {α : Type} (k : Nat) (r : World → List Value → α → Prop) : World → List Value → List α → Prop := fun w cs xs => ∃ v, cs = [v] ∧ SlR w k r v xs
theorem rSl_stable {α : Type} {k : Nat} {r : World → List Value → α → Prop} (hr : Stable r) : Stable (rSl k r) := fun _ _ _ _ hx ⟨v, hv, h⟩ => ⟨v, hv, h.ext hr hx⟩
/-- A slice with an element has an address. -/
theorem slr_some {α : Type} {w : World} {k n cap : Nat} {r : World → List Value → α → Prop} {a : Option Addr} {xs : List α} (h : SlR w k r (.slice a n cap) xs) {i : Nat} (hi : i < xs.length) : ∃ b off, a = some ⟨b, off, none⟩ := by
  obtain ⟨a', cap', hv, _, _, h⟩ := h
  obtain ⟨rfl, _, _⟩ : a = a' ∧ n = xs.length ∧ cap = cap' := by simpa using hv
  obtain ⟨b, off, cs, ha, _⟩ := h i hi
  exact ⟨b, off, ha⟩
theorem slr_len {α : Type} {w : World} {k n cap : Nat} {r : World → List Value → α → Prop} {a : Option Addr} {xs : List α} (h : SlR w k r (.slice a n cap) xs) : n = xs.length ∧ xs.length ≤ cap ∧ cap ≤ maxLen := by
  obtain ⟨a', cap', hv, h1, h2, _⟩ := h
  obtain ⟨_, h3, h4⟩ : a = a' ∧ n = xs.length ∧ cap = cap' := by simpa using hv
  subst h4
  exact ⟨h3, h1, h2⟩
theorem slr_cells {α : Type} {w : World} {b off k n cap : Nat} {r : World → List Value → α → Prop} {xs : List α} (h : SlR w k r (.slice (some ⟨b, off, none⟩) n cap) xs) {i : Nat} (hi : i < xs.length) :
    ∃ cs, cs.length = k ∧ (∀ j u, cs[j]? = some u → w.cell? ⟨b, off + i * k + j, none⟩ = some u) ∧ r w cs xs[i] := by
  obtain ⟨a', cap', hv, _, _, h⟩ := h
  obtain ⟨rfl, _, _⟩ : some (⟨b, off, none⟩ : Addr) = a' ∧ n = xs.length ∧ cap = cap' := by simpa using hv
  obtain ⟨b', off', cs, ha, h1, h2, h3⟩ := h i hi
  simp at ha
  obtain ⟨rfl, rfl⟩ := ha
  exact ⟨cs, h1, h2, h3⟩
theorem spn_at {w : World} {b off n cap : Nat} {xs : List Spn} (h : SlR w 2 rSpn (.slice (some ⟨b, off, none⟩) n cap) xs) {i : Nat} (hi : i < xs.length) :
    w.old b ∧ xs[i].ok ∧ w.cell? ⟨b, off + i * 2, none⟩ = some (.int .i64 xs[i].f) ∧ w.cell? ⟨b, off + i * 2 + 1, none⟩ = some (.int .i64 xs[i].t) := by
  obtain ⟨cs, _, hc, rfl, hok⟩ := slr_cells h hi
  have h0 := hc 0 _ rfl
  exact ⟨World.old_of_cell h0, hok, h0, hc 1 _ rfl⟩
theorem lab_at {w : World} {b off n cap : Nat} {xs : List Lab} (h : SlR w 2 rLab (.slice (some ⟨b, off, none⟩) n cap) xs) {i : Nat} (hi : i < xs.length) :
    w.old b ∧ xs[i].ok ∧ w.cell? ⟨b, off + i * 2, none⟩ = some (.int .i64 xs[i].lv) ∧ w.cell? ⟨b, off + i * 2 + 1, none⟩ = some (.int .i64 xs[i].st) := by
  obtain ⟨cs, _, hc, rfl, hok⟩ := slr_cells h hi
  have h0 := hc 0 _ rfl
  exact ⟨World.old_of_cell h0, hok, h0, hc 1 _ rfl⟩
theorem int_at {w : World} {b off n cap : Nat} {xs : List Int} (h : SlR w 1 rInt (.slice (some ⟨b, off, none⟩) n cap) xs) {i : Nat} (hi : i < xs.length) :
    w.old b ∧ I64 xs[i] ∧ w.cell? ⟨b, off + i, none⟩ = some (.int .i64 xs[i]) := by
  obtain ⟨cs, _, hc, rfl, hok⟩ := slr_cells h hi
  have h0 := hc 0 _ rfl
  rw [Nat.mul_one] at h0
  exact ⟨World.old_of_cell h0, hok, h0⟩
theorem sl_at {α : Type} {w : World} {b off n cap k : Nat} {r : World → List Value → α → Prop} {xs : List (List α)} (h : SlR w 1 (rSl k r) (.slice (some ⟨b, off, none⟩) n cap) xs) {i : Nat} (hi : i < xs.length) :
    w.old b ∧ ∃ v, SlR w k r v xs[i] ∧ w.cell? ⟨b, off + i, none⟩ = some v := by
  obtain ⟨cs, _, hc, v, rfl, hr⟩ := slr_cells h hi
  have h0 := hc 0 _ rfl
  rw [Nat.mul_one] at h0
  exact ⟨World.old_of_cell h0, v, hr, h0⟩
/-- An argument: the value, and what it reads as. -/
structure Arg (α : Type) where
  v : Value
  x : α
section
variable {H : Type} {enc : TypeId × Value → H} {w : World} {base : Nat} {spare : Nat → Bool} {held : Bool} {fuel : Nat} {cs : List Value} {x : DataW H × List MemPlace}
theorem b_spn (h : DataW.trod enc Try.prog w base spare held fuel 70 cs = some x) : ∃ a : Spn, rSpn w cs a := by
  obtain ⟨xs, n, _, _, hl, hx, hf⟩ := DataW.trod_struct Try.underlying70 h
  obtain ⟨c0, c1, rfl⟩ := len2 (hl.trans (by kernel_rfl))
  obtain ⟨y0, y1, rfl⟩ := len2 hx
  obtain ⟨a, ha, ia⟩ := b_int (hf 0 _ rfl)
  obtain ⟨b, hb, ib⟩ := b_int (hf 1 _ rfl)
  have e : Try.prog.cellsOf 2 = 1 := by kernel_rfl
  simp [e] at ha hb
  exact ⟨⟨a, b⟩, by simp [Spn.cells, ha, hb], ia, ib⟩
theorem b_spans (h : DataW.trod enc Try.prog w base spare held fuel 68 cs = some x) : ∃ v xs, cs = [v] ∧ SlR w 2 rSpn v xs :=
  b_slice Try.underlying68 (by kernel_rfl) (by decide) (fun _ _ _ h => b_spn h) h
theorem b_labs (h : DataW.trod enc Try.prog w base spare held fuel 143 cs = some x) : ∃ v xs, cs = [v] ∧ SlR w 2 rLab v xs :=
  b_slice Try.underlying143 (by kernel_rfl) (by decide) (fun _ _ _ h => b_lab h) h
theorem b_ints (h : DataW.trod enc Try.prog w base spare held fuel 98 cs = some x) : ∃ v xs, cs = [v] ∧ SlR w 1 rInt v xs :=
  b_slice Try.underlying98 (by kernel_rfl) (by decide) (fun _ _ _ h => b_int h) h
theorem b_labss (h : DataW.trod enc Try.prog w base spare held fuel 42 cs = some x) : ∃ v xs, cs = [v] ∧ SlR w 1 (rSl 2 rLab) v xs :=
  b_slice Try.underlying42 (by kernel_rfl) (by decide) (fun _ _ _ h => by obtain ⟨v, xs, h1, h2⟩ := b_labs h; exact ⟨xs, v, h1, h2⟩) h
end
section
variable {H : Type} {enc : TypeId × Value → H} {w : World} {base : Nat} {spare : Nat → Bool} {held : Bool} {r : Reach} {b0 : Nat} {v : Value} {d : DataW H} {ps : List MemPlace}
theorem open_span (hv : Value.okWide Try.prog w r b0 70 v) (h : DataW.Trod enc Try.prog w base spare held 70 v d ps) : ∃ a : Spn, v = a.val ∧ a.ok := by
  obtain ⟨cs, rfl, _⟩ := okWide_struct Try.underlying70 hv
  obtain ⟨m, hm⟩ := h
  obtain ⟨a, ha, ok⟩ := b_spn hm
  exact ⟨a, agg_of_list ha, ok⟩
theorem slice_arg {α : Type} {k : Nat} {rd : World → List Value → α → Prop} {t : TypeId} {e : TypeId} (ht : Try.prog.underlying t = some (.slice e)) (hv : Value.okWide Try.prog w r b0 t v)
    (hb : ∀ fuel cs x, DataW.trod enc Try.prog w base spare held fuel t cs = some x → ∃ v xs, cs = [v] ∧ SlR w k rd v xs) (h : DataW.Trod enc Try.prog w base spare held t v d ps) : ∃ a : Arg (List α), v = a.v ∧ SlR w k rd a.v a.x := by
  obtain ⟨a, l, c, rfl⟩ := okWide_slice ht hv
  obtain ⟨m, hm⟩ := h
  obtain ⟨v, xs, h1, h2⟩ := hb _ _ _ hm
  simp [Value.cells] at h1
  subst h1
  exact ⟨⟨_, xs⟩, rfl, h2⟩
theorem open_spans (hv : Value.okWide Try.prog w r b0 68 v) (h : DataW.Trod enc Try.prog w base spare held 68 v d ps) : ∃ a : Arg (List Spn), v = a.v ∧ SlR w 2 rSpn a.v a.x := slice_arg Try.underlying68 hv (fun _ _ _ h => b_spans h) h
theorem open_labs (hv : Value.okWide Try.prog w r b0 143 v) (h : DataW.Trod enc Try.prog w base spare held 143 v d ps) : ∃ a : Arg (List Lab), v = a.v ∧ SlR w 2 rLab a.v a.x := slice_arg Try.underlying143 hv (fun _ _ _ h => b_labs h) h
theorem open_labss (hv : Value.okWide Try.prog w r b0 42 v) (h : DataW.Trod enc Try.prog w base spare held 42 v d ps) : ∃ a : Arg (List (List Lab)), v = a.v ∧ SlR w 1 (rSl 2 rLab) a.v a.x := slice_arg Try.underlying42 hv (fun _ _ _ h => b_labss h) h
end
end Go.Proofs.Ytfkjdiaeblcimaa

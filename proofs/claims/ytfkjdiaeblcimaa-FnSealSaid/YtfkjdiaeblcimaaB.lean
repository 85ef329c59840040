/- From the form's own reading of an argument to plain words: integers, strings, flat structs. No statement is proved here. -/
import Derived.Test.YtfkjdiaeblcimaaK
import Derived.ProofKit
import Derived.OpenShut
import Derived.ShutString
import Derived.ChangeOld
set_option maxRecDepth 100000
namespace Go.Proofs.Ytfkjdiaeblcimaa
open Go.ChangeShapes Go.WideShapes Go.ChangeAt Go.RowKit
open Go.ChangeMaps (open_string shut_string)

theorem own : ownKnob Try.prog.godebug = none := by kernel_rfl
theorem laidOut : laidOutB Try.prog = true := by kernel_rfl

/-- An integer that int64 holds. -/
def I64 (n : Int) : Prop := -9223372036854775808 ≤ n ∧ n ≤ 9223372036854775807
theorem I64.of_wf {n : Int} (h : (Lit.int .i64 n).wf = true) : I64 n := by
  simpa [Lit.wf, IntKind.min, IntKind.max, IntKind.signed, IntKind.bits, I64] using h
/-- A label. -/
structure Lab where
  lv : Int
  st : Int
def Lab.ok (a : Lab) : Prop := I64 a.lv ∧ I64 a.st
def Lab.cells (a : Lab) : List Value := [.int .i64 a.lv, .int .i64 a.st]
def Lab.val (a : Lab) : Value := .agg #[.int .i64 a.lv, .int .i64 a.st]
/-- An entry of the log. -/
structure Ent where
  k : Int
  l : Lab
  a : Int
  b : Int
  c : Int
def Ent.ok (e : Ent) : Prop := I64 e.k ∧ e.l.ok ∧ I64 e.a ∧ I64 e.b ∧ I64 e.c
def Ent.cells (e : Ent) : List Value := [.int .i64 e.k, .int .i64 e.l.lv, .int .i64 e.l.st, .int .i64 e.a, .int .i64 e.b, .int .i64 e.c]
def Ent.val (e : Ent) : Value := .agg #[.int .i64 e.k, .int .i64 e.l.lv, .int .i64 e.l.st, .int .i64 e.a, .int .i64 e.b, .int .i64 e.c]

section
variable {H : Type} {enc : TypeId × Value → H} {w : World} {base : Nat} {spare : Nat → Bool} {held : Bool} {fuel : Nat} {cs : List Value} {x : DataW H × List MemPlace}
theorem b_int (h : DataW.trod enc Try.prog w base spare held fuel 2 cs = some x) : ∃ n, cs = [.int .i64 n] ∧ I64 n := by
  obtain ⟨n, h1, _, h2⟩ := DataW.trod_int Try.underlying2 h
  exact ⟨n, h1, I64.of_wf h2⟩
theorem len2 {α : Type} {l : List α} (h : l.length = 2) : ∃ a b, l = [a, b] := by match l, h with | [a, b], _ => exact ⟨a, b, rfl⟩
theorem b_lab (h : DataW.trod enc Try.prog w base spare held fuel 26 cs = some x) : ∃ a : Lab, cs = a.cells ∧ a.ok := by
  obtain ⟨xs, n, _, _, hl, hx, hf⟩ := DataW.trod_struct Try.underlying26 h
  obtain ⟨c0, c1, rfl⟩ := len2 (hl.trans (by kernel_rfl))
  obtain ⟨y0, y1, rfl⟩ := len2 hx
  obtain ⟨a, ha, ia⟩ := b_int (hf 0 _ rfl)
  obtain ⟨b, hb, ib⟩ := b_int (hf 1 _ rfl)
  have e : Try.prog.cellsOf 2 = 1 := by kernel_rfl
  simp [e] at ha hb
  exact ⟨⟨a, b⟩, by simp [Lab.cells, ha, hb], ia, ib⟩
end

section
variable {H : Type} {enc : TypeId × Value → H} {w : World} {base : Nat} {spare : Nat → Bool} {held : Bool} {r : Reach} {b0 : Nat} {v : Value} {d : DataW H} {ps : List MemPlace}
theorem agg_of_list {cs : Array Value} {l : List Value} (h : cs.toList = l) : Value.agg cs = .agg l.toArray := by subst h; simp
theorem open_int (hv : Value.okWide Try.prog w r b0 2 v) (h : DataW.Trod enc Try.prog w base spare held 2 v d ps) : ∃ a : Int, v = .int .i64 a ∧ I64 a := by
  obtain ⟨a, rfl, _, _, h⟩ := ChangeShapes.open_int Try.underlying2 hv h
  exact ⟨a, rfl, I64.of_wf h⟩
theorem open_str (hv : Value.okWide Try.prog w r b0 9 v) (h : DataW.Trod enc Try.prog w base spare held 9 v d ps) : ∃ a : ByteArray, v = .string a ∧ a.size ≤ maxLen := by
  obtain ⟨a, rfl, _, _, h⟩ := ChangeMaps.open_string Try.underlying9 hv h
  exact ⟨a, rfl, h⟩
theorem open_lab (hv : Value.okWide Try.prog w r b0 26 v) (h : DataW.Trod enc Try.prog w base spare held 26 v d ps) : ∃ a : Lab, v = a.val ∧ a.ok := by
  obtain ⟨cs, rfl, _⟩ := okWide_struct Try.underlying26 hv
  obtain ⟨m, hm⟩ := h
  obtain ⟨a, ha, ok⟩ := b_lab hm
  exact ⟨a, agg_of_list ha, ok⟩
end
end Go.Proofs.Ytfkjdiaeblcimaa

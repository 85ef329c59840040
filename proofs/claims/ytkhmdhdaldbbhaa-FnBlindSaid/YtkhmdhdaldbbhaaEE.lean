/- The laws' mark and held over flat lists. -/
import Derived.Test.YtkhmdhdaldbbhaaBA
import Derived.Test.YtkhmdhdaldbbhaaJA1
import Derived.Test.YtkhmdhdaldbbhaaQJ
import Derived.Test.YtkhmdhdaldbbhaaBG
import Derived.Lib.SliceRun
set_option maxRecDepth 100000
set_option linter.unusedVariables false
namespace Go.Proofs.Ytkhmdhdaldbbhaa
open Go.RowKit Go.Fin1

def mkSpn (k : Nat) (_ : Spn) : Spn := ⟨k, ((k + 1 : Nat) : Int)⟩
abbrev mkSpns : Nat → List Spn → List Spn := mkL mkSpn (fun _ => 2)


def mkLab (k : Nat) (_ : Lab) : Lab := ⟨k, ((k + 1 : Nat) : Int)⟩
abbrev mkLabs : Nat → List Lab → List Lab := mkL mkLab (fun _ => 2)


def mkInt (k : Nat) (_ : Int) : Int := (k : Int)
abbrev mkInts : Nat → List Int → List Int := mkL mkInt (fun _ => 1)


abbrev mkSpnss : Nat → List (List Spn) → List (List Spn) := mkL mkSpns (wL (fun _ : Spn => 2))


abbrev mkLabss : Nat → List (List Lab) → List (List Lab) := mkL mkLabs (wL (fun _ : Lab => 2))


end Go.Proofs.Ytkhmdhdaldbbhaa

set_option maxRecDepth 100000
set_option linter.unusedVariables false
namespace Go
open Go.RowKit
/-- All that turned is younger: what was known stays known. -/
theorem Chg.grown {S : List Nat} {w0 w w' : World} (h : Chg S w w') (h0 : Ext w0 w) {B : Nat} (hs : ∀ b ∈ S, B ≤ b) (hB : w0.heap.size ≤ B) : Ext w0 w' := h.ext h0 fun b hb => Nat.le_trans hB (hs b hb)
end Go
namespace Go.Proofs.Ytkhmdhdaldbbhaa
open Go.RowKit Go.Fin1
theorem wL_const {α : Type} (c : Nat) (l : List α) : wL (fun _ : α => c) l = c * l.length := by
  induction l with
  | nil => rfl
  | cons x l ih => rw [wL_cons, ih, List.length_cons, Nat.mul_add]; omega
theorem wL_spans {α : Type} {l : List (List α)} (h : szL List.length l ≤ 1048576) : wL (wL (fun _ : α => 2)) l ≤ 4 * 1048576 := by
  have key : ∀ l : List (List α), wL (wL (fun _ : α => 2)) l = 2 * (l.map List.length).sum := fun l => by
    induction l with
    | nil => rfl
    | cons x l ih => rw [wL_cons, ih, wL_const, List.map_cons, List.sum_cons]; omega
  unfold szL at h
  rw [key]; omega
/-- A slice that reads as a list. -/
def kSl {α : Type} (K : Nat) (r : World → List Value → α → Prop) (xs : List α) : XReg.Kind := fun v w => ∃ a c, v = .slice a xs.length c ∧ SlR w K r v xs
theorem kSl_good {α : Type} {K : Nat} {r : World → List Value → α → Prop} (hr : Stable r) {xs : List α} {v : Value} {w : World} (h : SlR w K r v xs) : XReg.GoodK (kSl K r xs) :=
  ⟨fun _ _ _ hx ⟨a, c, hv, h⟩ => ⟨a, c, hv, h.ext hr hx⟩, v, w, by obtain ⟨a, c, hv⟩ := h.len; exact ⟨a, c, hv, h⟩⟩
theorem kSl_r {α : Type} {K : Nat} {r : World → List Value → α → Prop} {xs : List α} {v : Value} {w : World} (h : kSl K r xs v w) : SlR w K r v xs := by obtain ⟨_, _, _, h⟩ := h; exact h
end Go.Proofs.Ytkhmdhdaldbbhaa

set_option maxRecDepth 100000
set_option linter.unusedVariables false
namespace Go.Proofs.Ytkhmdhdaldbbhaa
open Go.RowKit Go.Fin1

set_option maxHeartbeats 800000 in
theorem cloneInt_any (v : Value) (l : List Int) (w : World) (h : SlR w 1 (rc intCell) v l) (hl : l.length ≤ 1048576) :
    Calls Try.prog 68 #[v] w fun e w' => ∃ v', e = .returned v' ∧ Ext w w' ∧ Row w.heap.size w' 2 1 intCell v' l := by
  obtain ⟨ad, cap, rfl⟩ := h.len
  have q22 : ∀ (w : World) (a : Option Addr) (n c n' c' : Nat), (binOp .eql 25 (.slice a n c) (.slice none n' c')).run Try.prog w = .ok (.bool a.isNone) w := fun w a n c n' c' => Lib.run_eql_slice_nil w _ _ a n c n' c' (show Try.prog.underlying 25 = some (.slice 2) by kernel_rfl)
  have HS := Lib.hid h
  cases ad with
  | none =>
    have h0 : l = [] := by
      cases l with
      | nil => rfl
      | cons x l => obtain ⟨b, off, he⟩ := slr_some h (Nat.zero_lt_succ _); cases he
    subst h0
    clear h
    go_enter Try.func68, Try.ntmps68
    go_wp2
    go_ret
    exact ⟨_, rfl, (by repeat (first | exact Ext.refl _ | apply Ext.plus | apply Ext.alloc | apply Ext.drew)), Row.nil _ _ _ _ _⟩
  | some ad =>
    have HC := Lib.hid (slr_flat (f := intCell) (K := 1) (fun _ => rfl) h)
    clear h
    go_enter Try.func68, Try.ntmps68
    go_wp2_with (at_builtin; go_must (refine Row.appS (f := intCell) el_Int rfl _ _ rfl w (by repeat (first | exact Ext.refl _ | apply Ext.plus | apply Ext.alloc | apply Ext.drew)) _ _ rfl (Row.made _ _ _ _) ad l.length cap l rfl rfl (fun _ => rfl) ?_ ?_ ?_ ?_ ?_); (exact fun j u hu => Ext.cellA (by repeat (first | exact Ext.refl _ | apply Ext.plus | apply Ext.alloc | apply Ext.drew)) (HC.out j u hu)); (intro u hu; obtain ⟨x, _, hx⟩ := List.mem_flatMap.1 hu; simp [intCell] at hx; first | (rcases hx with rfl | rfl <;> rfl) | (subst hx; rfl) | (rcases hx with rfl | rfl | rfl <;> rfl) | (rcases hx with rfl | rfl | rfl | rfl | rfl | rfl <;> rfl)); (unfold maxLen; simp; omega); (simp; omega); intro v' X' hown' hne; have HO' := Lib.hid hown'; clear hown' hne)
    go_ret
    exact ⟨_, rfl, (by repeat (first | exact Ext.refl _ | apply Ext.plus | apply Ext.alloc | apply Ext.drew)), by have := HO'.out; simpa using this⟩

end Go.Proofs.Ytkhmdhdaldbbhaa

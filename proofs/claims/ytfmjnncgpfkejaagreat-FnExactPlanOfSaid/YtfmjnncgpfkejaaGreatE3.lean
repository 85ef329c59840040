/- Tools for the laws that hand back memory. -/
import Derived.Test.YtfmjnncgpfkejaaGreatE2
import Derived.Test.YtfmjnncgpfkejaaGreatBG
set_option maxRecDepth 100000
set_option linter.unusedVariables false
namespace Go
open Go.RowKit
/-- All that turned is younger: what was known stays known. -/
theorem Chg.grown {S : List Nat} {w0 w w' : World} (h : Chg S w w') (h0 : Ext w0 w) {B : Nat} (hs : ∀ b ∈ S, B ≤ b) (hB : w0.heap.size ≤ B) : Ext w0 w' := h.ext h0 fun b hb => Nat.le_trans hB (hs b hb)
end Go
namespace Go.Proofs.YtfmjnncgpfkejaaGreat
open Go.RowKit Go.Fin1
theorem wL_const {α : Type} (c : Nat) (l : List α) : wL (fun _ : α => c) l = c * l.length := by
  induction l with
  | nil => rfl
  | cons x l ih => rw [wL_cons, ih, List.length_cons, Nat.mul_add]; omega
theorem wL_spans {α : Type} {l : List (List α)} (h : szL List.length l ≤ 1048576) : wL (wL (fun _ : α => 2)) l ≤ 4 * 1048576 := by
  have key : ∀ l : List (List α), wL (wL (fun _ : α => 2)) l = 2 * (l.map List.length).sum := fun l => by
    induction l with
    | nil => rfl
    | cons x l ih => rw [wL_cons, ih, wL_const, List.map_cons, List.sum_cons]; omega
  unfold szL at h
  rw [key]; omega
/-- A slice that reads as a list. -/
def kSl {α : Type} (K : Nat) (r : World → List Value → α → Prop) (xs : List α) : XReg.Kind := fun v w => ∃ a c, v = .slice a xs.length c ∧ SlR w K r v xs
theorem kSl_good {α : Type} {K : Nat} {r : World → List Value → α → Prop} (hr : Stable r) {xs : List α} {v : Value} {w : World} (h : SlR w K r v xs) : XReg.GoodK (kSl K r xs) :=
  ⟨fun _ _ _ hx ⟨a, c, hv, h⟩ => ⟨a, c, hv, h.ext hr hx⟩, v, w, by obtain ⟨a, c, hv⟩ := h.len; exact ⟨a, c, hv, h⟩⟩
theorem kSl_r {α : Type} {K : Nat} {r : World → List Value → α → Prop} {xs : List α} {v : Value} {w : World} (h : kSl K r xs v w) : SlR w K r v xs := by obtain ⟨_, _, _, h⟩ := h; exact h
end Go.Proofs.YtfmjnncgpfkejaaGreat

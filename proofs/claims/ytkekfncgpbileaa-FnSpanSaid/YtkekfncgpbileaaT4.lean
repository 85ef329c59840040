/- The law of SpanPut. -/
import Derived.Test.YtkekfncgpbileaaT3
import Derived.Test.YtkekfncgpbileaaE3
set_option maxRecDepth 100000
set_option linter.unusedVariables false
namespace Go.Proofs.Ytkekfncgpbileaa
open Go.RowKit Go.Fin1

theorem oSpanS_local' : Local oSpanS := oSl_local (oFlat_local _)
theorem oSpanS_held' : Held oSpanS := oSl_held (oFlat_held _)
theorem oSpanS_r' {w : World} {fp : List Nat} {v : Value} {l : List Spn} (h : oSpanS w fp [v] l) (hl : ∀ x ∈ l, x.ok) : SlR w 2 rSpn v l :=
  slr_with (oFl_reads (f := Spn.cells) (fun _ => rfl) h) fun cs x hm hc => ⟨hc, hl x hm⟩
theorem spn_new (w : World) (b : Nat) (l : List Spn) (hl : ∀ x ∈ l, x.ok) (hm : l.length ≤ 1048576) : ∃ v w', SlR w' 2 rSpn v l := by
  have hw : (w.alloc (.cells (l.flatMap Spn.cells).toArray 45)).heap[w.heap.size]? = some (.cells (l.flatMap Spn.cells).toArray 45 (0, 0)) := heap_alloc_new w _
  refine ⟨.slice (some ⟨w.heap.size, 0, none⟩) l.length l.length, _, row_spn (B := 0) (l := l) ⟨flatMap_len (f := Spn.cells) (K := 2) (fun _ => rfl) l, .inr ⟨_, _, _, rfl, Nat.zero_le _, hw, Nat.le_refl _, by unfold maxLen; omega, ?_, ?_⟩⟩ hl⟩
  · simp [flatMap_len (f := Spn.cells) (K := 2) (fun _ => rfl) l]
  · exact List.take_of_length_le (by rw [flatMap_len (f := Spn.cells) (K := 2) (fun _ => rfl) l]; exact Nat.le_refl _)

end Go.Proofs.Ytkekfncgpbileaa

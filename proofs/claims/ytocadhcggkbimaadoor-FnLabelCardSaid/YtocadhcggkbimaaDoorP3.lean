/- The walks of the laws' own helpers over slices of spans and of labels. -/
import Derived.Test.YtocadhcggkbimaaDoorBA
import Derived.Test.YtocadhcggkbimaaDoorBG
set_option maxRecDepth 100000
namespace Go.Proofs.YtocadhcggkbimaaDoor
open Go.RowKit Go.Fin1

theorem Fill.flat {α : Type} {B : Nat} {w : World} {g ty K k : Nat} {f : α → List Value} {xs : List α} (h : Fill B w g ty K (oFlat f) xs k) (hk : k < xs.length) (hl : (f xs[k]).length = K) :
    Fill B (w.layCells g (k * K) (f xs[k])) g ty K (oFlat f) xs (k + 1) :=
  Fill.step (oFlat_local f) (oFlat_held f) h hk (fp := []) hl ⟨rfl, rfl⟩ List.nodup_nil (M := max w.heap.size B) (by simp) h (Nat.le_max_left _ _) (.refl _) (Nat.le_max_right _ _)

theorem slr_with {α : Type} {w : World} {k : Nat} {r r' : World → List Value → α → Prop} {v : Value} {xs : List α} (h : SlR w k r v xs) (hr : ∀ cs x, x ∈ xs → r w cs x → r' w cs x) : SlR w k r' v xs := by
  obtain ⟨a, cap, hv, h1, h2, h3⟩ := h
  refine ⟨a, cap, hv, h1, h2, fun i hi => ?_⟩
  obtain ⟨b, off, cs, ha, hk, hc, hr'⟩ := h3 i hi
  exact ⟨b, off, cs, ha, hk, hc, hr _ _ (List.getElem_mem hi) hr'⟩
theorem slr_all {α : Type} {w : World} {k : Nat} {r : World → List Value → α → Prop} {v : Value} {xs : List α} (h : SlR w k r v xs) : ∀ x ∈ xs, ∃ cs, r w cs x := by
  obtain ⟨a, cap, hv, h1, h2, h3⟩ := h
  intro x hx
  obtain ⟨i, hi, rfl⟩ := List.mem_iff_getElem.1 hx
  obtain ⟨b, off, cs, ha, hk, hc, hr'⟩ := h3 i hi
  exact ⟨cs, hr'⟩










end Go.Proofs.YtocadhcggkbimaaDoor

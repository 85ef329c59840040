/- spec.SpanPut walked. -/
import Derived.Test.YtocadhcggkbimaaDoorT2
set_option maxRecDepth 100000
set_option linter.unusedVariables false
namespace Go.Proofs.YtocadhcggkbimaaDoor
open Go.RowKit Go.Fin1

theorem slr_take {α : Type} {w : World} {K n c k : Nat} {r : World → List Value → α → Prop} {a : Option Addr} {xs : List α} (h : SlR w K r (.slice a n c) xs) (hk : k ≤ xs.length) : SlR w K r (.slice a k c) (xs.take k) := by
  obtain ⟨h1, h2, h3⟩ := slr_len h
  obtain ⟨a', c', hv, _, _, h4⟩ := h
  obtain ⟨rfl, _, rfl⟩ : a = a' ∧ n = xs.length ∧ c = c' := by simpa using hv
  have hl : (xs.take k).length = k := by simp; omega
  refine ⟨a, c, by rw [hl], by rw [hl]; omega, h3, fun i hi => ?_⟩
  rw [hl] at hi
  obtain ⟨b, off, cs, e1, e2, e3, e4⟩ := h4 i (by omega)
  exact ⟨b, off, cs, e1, e2, e3, by rw [List.getElem_take]; exact e4⟩
theorem slr_drop {α : Type} {w : World} {K n c k m q : Nat} {b off : Nat} {r : World → List Value → α → Prop} {xs : List α} (h : SlR w K r (.slice (some ⟨b, off, none⟩) n c) xs) (hk : k ≤ xs.length) (hm : m = xs.length - k) (hq : q = c - k) : SlR w K r (.slice (some ⟨b, off + k * K, none⟩) m q) (xs.drop k) := by
  subst hm
  subst hq
  obtain ⟨h1, h2, h3⟩ := slr_len h
  have hl : (xs.drop k).length = xs.length - k := by simp
  refine ⟨_, _, by rw [hl], by rw [hl]; omega, by omega, fun i hi => ?_⟩
  rw [hl] at hi
  obtain ⟨cs, e2, e3, e4⟩ := slr_cells h (i := k + i) (by omega)
  refine ⟨b, _, cs, rfl, e2, fun j u hj => ?_, by rw [List.getElem_drop]; exact e4⟩
  have := e3 j u hj
  rw [Nat.add_mul] at this
  rw [← this]; congr 2; omega
theorem slr_nil {α : Type} {w : World} {K c : Nat} {r : World → List Value → α → Prop} {a : Option Addr} {xs : List α} (h : xs = []) (hc : c ≤ maxLen) : SlR w K r (.slice a 0 c) xs := by
  subst h
  exact ⟨a, c, rfl, Nat.zero_le _, hc, fun i hi => absurd hi (Nat.not_lt_zero _)⟩


end Go.Proofs.YtocadhcggkbimaaDoor

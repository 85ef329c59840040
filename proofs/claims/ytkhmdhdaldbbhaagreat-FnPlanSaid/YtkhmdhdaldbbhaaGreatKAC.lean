/- impl.Advance, walked. -/
import Derived.Test.YtkhmdhdaldbbhaaGreatKAAB
import Derived.Test.YtkhmdhdaldbbhaaGreatKZZC
set_option maxRecDepth 100000
set_option linter.unusedVariables false
namespace Go.Proofs.YtkhmdhdaldbbhaaGreat
open Go.RowKit Go.Fin1
theorem haltJ_fit {j : Jb} (h : j.fit) {s : Int} (hs : I64 s) : (haltJ j s).fit := by
  obtain ⟨⟨h1, h2, h3, h4, h5, _, _⟩, _⟩ := h
  exact ⟨⟨h1, h2, h3, h4, h5, hs, (⟨by decide, by decide⟩ : I64 0)⟩, fun x hx => by cases hx⟩
theorem jobs1_fit {p : Pl} (h : ∀ j ∈ p.jobs, j.fit) : ∀ j ∈ jobs1 p, j.fit := by
  intro j hj
  unfold jobs1 at hj
  obtain ⟨j0, hj0, rfl⟩ := List.mem_map.1 hj
  unfold endJ
  split
  · exact haltJ_fit (h j0 hj0) ⟨by decide, by decide⟩
  · exact h j0 hj0
theorem jobs2_fit {p : Pl} (h : ∀ j ∈ p.jobs, j.fit) : ∀ j ∈ jobs2 p, j.fit := by
  intro j hj
  unfold jobs2 at hj
  obtain ⟨j0, hj0, rfl⟩ := List.mem_map.1 hj
  unfold waitJ
  split
  · exact haltJ_fit (jobs1_fit h j0 hj0) ⟨by decide, by decide⟩
  · exact jobs1_fit h j0 hj0
end Go.Proofs.YtkhmdhdaldbbhaaGreat

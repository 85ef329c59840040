/- Plain maths of FnLabel: labels come back from their texts. -/
import Derived.Test.YtocadhcggkbimaaDoorLT3
import Derived.Test.YtocadhcggkbimaaDoorLU3
set_option maxRecDepth 100000
set_option linter.unusedVariables false
namespace Go.Proofs.YtocadhcggkbimaaDoor
open Go.RowKit Go.Fin1
theorem labR_ordK (k : Nat) (hk : k < 32) : labR (ordK k) = true := by
  unfold labR ordK
  rw [Bool.and_eq_true, isIn_iff, isIn_iff]
  simp only
  omega
theorem ordK_of {x : Lab} (h : labR x = true) : ∃ k, k < 32 ∧ x = ordK k := by
  obtain ⟨n, m, rfl, hn, hm⟩ := labR_at h
  exact ⟨8 * n + m, by omega, (ordK_8 hm).symm⟩
theorem lblN_inj : ∀ i, i < 32 → ∀ j, j < 32 → lblN (ordK i) 3 = lblN (ordK j) 3 → i = j := by decide +kernel
theorem lblT_inj {i j : Nat} (hi : i < 32) (hj : j < 32) (h : lblT (ordK i) = lblT (ordK j)) : i = j := by
  rw [lblT_yes (labR_ordK i hi), lblT_yes (labR_ordK j hj)] at h
  exact lblN_inj i hi j hj h
theorem lblN_ne (x : Lab) : ∀ k, lblN x k ≠ []
  | 0 => by simp [lblN]
  | k + 1 => by rw [lblN]; split; simp; exact lblN_ne x k
/-- A label whose text is not empty is right. -/
theorem labR_of_text {x : Lab} (h : lblT x ≠ []) : labR x = true := by
  cases e : labR x
  · exact absurd (lblT_no e) h
  · rfl
/-- What is read from a label's text is the label. -/
theorem rdL_text {x : Lab} (h : labR x = true) {s : ByteArray} (hs : s.toList = lblT x) (hz : ¬ 8000 < s.size) : rdL s = (x, 0) := by
  obtain ⟨k, hk, rfl⟩ := ordK_of h
  refine rdL_at hz hk (fun j hj => ?_) ?_
  · unfold rdK
    rw [hs, beq_eq_false_iff_ne]
    intro e
    have := lblT_inj (by omega) hk e
    omega
  · unfold rdK; rw [hs]; simp
/-- What is read well is the text of what was read. -/
theorem text_rdL {s : ByteArray} (h : (rdL s).2 = 0) : lblT (rdL s).1 = s.toList ∧ labR (rdL s).1 = true := by
  by_cases h8 : 8000 < s.size
  · rw [rdL_big h8] at h; simp at h
  · cases e : (List.range 32).find? (rdK s) with
    | none =>
      have : rdL s = (⟨0, 0⟩, 3) := by unfold rdL; rw [if_neg h8, e]
      rw [this] at h; simp at h
    | some k =>
      have hr : rdL s = (ordK k, 0) := by unfold rdL; rw [if_neg h8, e]
      have hk := List.find?_some e
      have hm := List.mem_range.1 (List.mem_of_find?_eq_some e)
      rw [hr]
      refine ⟨?_, labR_ordK k hm⟩
      unfold rdK at hk
      exact beq_iff_eq.1 hk
end Go.Proofs.YtocadhcggkbimaaDoor

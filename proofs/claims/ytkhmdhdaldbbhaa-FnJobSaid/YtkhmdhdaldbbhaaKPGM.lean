/- impl.plan, walked. -/
import Derived.Test.YtkhmdhdaldbbhaaKPEF
import Derived.Test.YtkhmdhdaldbbhaaKVSI
import Derived.Test.YtkhmdhdaldbbhaaKTT
import Derived.Test.YtkhmdhdaldbbhaaKZZ1
import Derived.Test.YtkhmdhdaldbbhaaKPD
import Derived.Test.YtkhmdhdaldbbhaaKZZ3
set_option maxRecDepth 100000
set_option linter.unusedVariables false
namespace Go.Proofs.Ytkhmdhdaldbbhaa
open Go.RowKit Go.Fin1
theorem own_chgD {α : Type} {B : Nat} {w w' : World} {o : Ow α} (hl : Local o) (hh : Held o) {S : List Nat} (hx : Chg S w w') {fp : List Nat} {cs : List Value} {x : α} (hd : ∀ b ∈ fp, b ∉ S) (h : Own B w o fp cs x) : Own B w' o fp cs x :=
  ⟨hl.chg hh hx (fun b hb hs => hd b hb hs) h.1, h.2⟩
end Go.Proofs.Ytkhmdhdaldbbhaa

set_option maxRecDepth 100000
set_option linter.unusedVariables false
namespace Go.Proofs.Ytkhmdhdaldbbhaa
open Go.RowKit Go.Fin1
theorem poolR_clear {p : Pl} (h : poolR p = true) : 1 ≤ p.clear.length ∧ p.clear.length ≤ 6 := by
  unfold poolR at h
  simp only [Bool.and_eq_true] at h
  have h1 := h.1.1.1
  unfold clearR at h1
  simp only [Bool.and_eq_true, decide_eq_true_eq] at h1
  exact ⟨h1.1.1, h1.1.2⟩
theorem poolR_job {p : Pl} (h : poolR p = true) {j : Jb} (hj : j ∈ p.jobs) : JOk p.now p.clear.length j ∧ (j.state = 2 → j.start ≤ p.now) := by
  have hR := jobsR_mem (poolR_jobs h).1 hj
  have hnow := isIn_iff.1 (poolR_jobs h).2
  unfold poolR at h
  simp only [Bool.and_eq_true] at h
  have hst := foldO_mem h.2 j hj
  by_cases hs : j.state = 2
  · obtain ⟨⟨g1, g2⟩, ⟨g3, g4⟩, hup, hl6⟩ := jobR_run hR hs
    obtain ⟨u1, u2, hu⟩ := hst
    unfold stepJ at hu
    rw [if_pos hs] at hu
    split at hu
    · cases hu
    · rename_i hn
      obtain ⟨n1, n2⟩ := nodesUp_pair hup
      have hneed : 1 ≤ j.need ∧ j.need ≤ 6 := by
        unfold jobR at hR
        simp only [Bool.and_eq_true] at hR
        exact isIn_iff.1 hR.1.1.1.1.2
      refine ⟨⟨hneed, ⟨g3, g4⟩, ⟨g1, g2⟩, fun _ => ⟨⟨by omega, g1, by omega⟩, n1, fun n hn2 => ⟨n2 n hn2, ?_⟩⟩, fun e => absurd hs e⟩, fun _ => by omega⟩
      obtain ⟨u3, u4, h4⟩ := foldO_mem (by rw [hu]; rfl) n hn2
      unfold step1 at h4
      split at h4
      · rename_i h5
        simp only [Bool.and_eq_true, decide_eq_true_eq] at h5
        exact h5.1.1
      · cases h4
  · have hnil := jobR_not hR hs
    unfold jobR at hR
    rw [if_neg hs] at hR
    simp only [Bool.and_eq_true, decide_eq_true_eq] at hR
    have h1 := isIn_iff.1 hR.1.1.1.1.2
    have h2 := isIn_iff.1 hR.1.1.1.2
    have h3 := hR.2.1
    exact ⟨⟨h1, h2, ⟨by omega, by omega⟩, fun e => absurd e hs, fun _ => hnil⟩, fun e => absurd e hs⟩
end Go.Proofs.Ytkhmdhdaldbbhaa

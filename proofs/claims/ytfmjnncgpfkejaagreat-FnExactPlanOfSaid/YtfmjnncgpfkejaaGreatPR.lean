/- What a right pool's jobs are. -/
import Derived.Test.YtfmjnncgpfkejaaGreatZ3
import Derived.Test.YtfmjnncgpfkejaaGreatJ6
set_option maxRecDepth 100000
set_option linter.unusedVariables false
namespace Go.Proofs.YtfmjnncgpfkejaaGreat
open Go.RowKit Go.Fin1
theorem jobR_nodes {j : Jb} (h : jobR j = true) : j.nodes.length ≤ 6 := by
  by_cases hs : j.state = 2
  · exact (jobR_run h hs).2.2.2
  · rw [jobR_not h hs]; simp
theorem poolR_jobs {p : Pl} (h : poolR p = true) : jobsR p.jobs = true ∧ isIn p.now 0 999900 = true := by
  unfold poolR at h
  simp only [Bool.and_eq_true] at h
  exact ⟨h.1.1.2, h.1.2⟩
theorem jobsR_mem {l : List Jb} (h : jobsR l = true) {j : Jb} (hj : j ∈ l) : jobR j = true := by
  obtain ⟨i, hi, rfl⟩ := List.mem_iff_getElem.1 hj
  exact jobsR_job h hi
theorem foldO_mem {α β : Type} {f : β → α → Option β} : ∀ {l : List α} {u : β}, (foldO f (some u) l).isSome = true → ∀ a ∈ l, ∃ u1 u2, f u1 a = some u2
  | [], u, _, a, h => by cases h
  | x :: l, u, h, a, ha => by
    have e : foldO f (some u) (x :: l) = foldO f (f u x) l := rfl
    rw [e] at h
    cases hx : f u x with
    | none => rw [hx, foldO_none] at h; cases h
    | some u2 =>
      rw [hx] at h
      rcases List.mem_cons.1 ha with rfl | ha
      · exact ⟨u, u2, hx⟩
      · exact foldO_mem h a ha
theorem nodesUp_pair {l : List Int} (h : nodesUp l = true) : l.Pairwise (· < ·) ∧ ∀ n ∈ l, 0 ≤ n := by
  have hat : ∀ i, i < l.length → nodeAt l i = true := fun i hi => by
    unfold nodesUp at h
    rw [List.all_eq_true] at h
    exact h i (List.mem_range.2 hi)
  have hg : ∀ (j : Nat) (hj : j < l.length), l.getD j 0 = l[j] := fun j hj => by simp [List.getD, hj]
  have hs : ∀ i (hi : i + 1 < l.length), l[i] < l[i + 1] := fun i hi => by
    have h1 := hat (i + 1) hi
    unfold nodeAt at h1
    rw [hg (i + 1) hi, Nat.add_sub_cancel, hg i (by omega)] at h1
    simp at h1
    exact h1.2
  have hlt : ∀ (d i : Nat) (hd : i + d + 1 < l.length), l[i] < l[i + d + 1] := fun d => by
    induction d with
    | zero => exact fun i hd => hs i hd
    | succ d ih => exact fun i hd => Int.lt_trans (ih i (by omega)) (hs (i + d + 1) (by omega))
  refine ⟨List.pairwise_iff_getElem.2 fun i j hi hj hij => ?_, fun n hn => ?_⟩
  · have h1 := hlt (j - i - 1) i (by omega)
    have e : i + (j - i - 1) + 1 = j := by omega
    simp only [e] at h1
    exact h1
  · obtain ⟨i, hi, rfl⟩ := List.mem_iff_getElem.1 hn
    have h1 := hat i hi
    unfold nodeAt at h1
    rw [hg i hi, Bool.and_eq_true] at h1
    have := isIn_iff.1 h1.1
    omega
end Go.Proofs.YtfmjnncgpfkejaaGreat

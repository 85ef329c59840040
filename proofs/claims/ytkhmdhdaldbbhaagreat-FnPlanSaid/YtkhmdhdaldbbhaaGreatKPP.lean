/- Plain maths of FnPlan. -/
import Derived.Test.YtkhmdhdaldbbhaaGreatKRRC
import Derived.Test.YtkhmdhdaldbbhaaGreatKPGM
import Derived.Test.YtkhmdhdaldbbhaaGreatKJE
set_option maxRecDepth 100000
set_option linter.unusedVariables false
namespace Go.Proofs.YtkhmdhdaldbbhaaGreat
open Go.RowKit Go.Fin1
theorem jobOf_key {J : List Jb} (h : jobsR J = true) {j : Jb} (hj : j ∈ J) : jobOf J j.l j.id = j := by
  obtain ⟨k, hk, hp, h1, h2⟩ := pos_key (J := J) (x := j.l) (id := j.id) (List.mem_map.2 ⟨j, hj, rfl⟩)
  have e : J[k] = j := keyJ_eq_of (jobsR_ne h) (List.getElem_mem hk) hj (by unfold keyJ; rw [h1, h2])
  unfold jobOf
  rw [if_pos ⟨h, by omega⟩, hp, Int.toNat_natCast]
  simp [hk, e]
structure PlanLaw (p : Pl) (S : List Slt) : Prop where
  need : ∀ (i : Nat) (h : i < S.length), (S[i].nodes.length : Int) = (jobOf p.jobs S[i].l S[i].id).need
  fst : ∀ h : 0 < S.length, S[0].start ≤ p.now
  at_ : ∀ (i : Nat) (h : i < S.length), ∀ n ∈ S[i].nodes, (0 ≤ n ∧ n < p.clear.length) ∧ hasL (p.clear.getD n.toNat []) (jobOf p.jobs S[i].l S[i].id).l = true
  ap : ∀ (i k : Nat) (hi : i < S.length) (hk : k < S.length), k < i → S[k].start < S[i].start + (jobOf p.jobs S[i].l S[i].id).long → S[i].start < S[k].start + (jobOf p.jobs S[k].l S[k].id).long → ∀ n ∈ S[i].nodes, n ∉ S[k].nodes
  job : ∀ (i : Nat) (h : i < S.length), (1 ≤ (jobOf p.jobs S[i].l S[i].id).long ∧ (jobOf p.jobs S[i].l S[i].id).long ≤ 20) ∧ (0 ≤ S[i].start ∧ S[i].start ≤ 1000000)
theorem planP_law (p : Pl) : PlanLaw p (planP p) := by
  cases q : poolR p
  · have e : planP p = [] := by unfold planP; rw [if_neg (by rw [q]; simp)]
    rw [e]
    exact ⟨fun i h => absurd h (Nat.not_lt_zero _), fun h => absurd h (Nat.not_lt_zero _), fun i h => absurd h (Nat.not_lt_zero _), fun i k h => absurd h (Nat.not_lt_zero _), fun i h => absurd h (Nat.not_lt_zero _)⟩
  · have hp := poolR_of q
    obtain ⟨T, rows, hI⟩ := plan_facts hp.nw hp.cl hp.js (fun j hj => ⟨jobsR_mem hp.js hj, hp.run j hj⟩)
    have e : planP p = T.map (fun t => t.2.1) := by unfold planP; rw [if_pos q]; exact hI.out
    have hlen : (planP p).length = T.length := by rw [e, List.length_map]
    have hS : ∀ (i : Nat) (h : i < (planP p).length), (planP p)[i] = (T[i]'(by rw [← hlen]; exact h)).2.1 := fun i h => by simp [e]
    have hT1 : ∀ t ∈ T, t.1 ∈ p.jobs := fun t ht => (sortedJ_perm _).mem_iff.1 (hI.js.subset (List.mem_map.2 ⟨t, ht, rfl⟩))
    have hJ : ∀ (i : Nat) (h : i < (planP p).length), jobOf p.jobs (planP p)[i].l (planP p)[i].id = (T[i]'(by rw [← hlen]; exact h)).1 := fun i h => by
      have ht := List.getElem_mem (l := T) (n := i) (by rw [← hlen]; exact h)
      have hpf := hI.pf _ ht
      rw [hS i h, hpf.l, hpf.id]
      exact jobOf_key hp.js (hT1 _ ht)
    refine ⟨fun i h => ?_, fun h => ?_, fun i h n hn => ?_, fun i k hi hk hki m1 m2 n hn hn2 => ?_, fun i h => ?_⟩
    · rw [hJ i h, hS i h]; exact (hI.pf _ (List.getElem_mem _)).need
    · rw [hS 0 h]
      refine hI.fst _ ?_
      rw [List.head?_eq_getElem?, List.getElem?_eq_getElem]
    · rw [hJ i h]
      rw [hS i h] at hn
      exact (hI.pf _ (List.getElem_mem _)).at_ n hn
    · rw [hJ i hi, hS i hi, hS k hk] at m1
      rw [hJ k hk, hS i hi, hS k hk] at m2
      rw [hS i hi] at hn
      rw [hS k hk] at hn2
      have hi' : i < T.length := by rw [← hlen]; exact hi
      have hk' : k < T.length := by rw [← hlen]; exact hk
      have f1 := hI.pf _ (List.getElem_mem hi')
      have f2 := hI.pf _ (List.getElem_mem hk')
      have hap := List.pairwise_iff_getElem.1 hI.ap k i hk' hi' hki n hn2 hn
      have s1 := spnOk_iff.1 f1.ok
      have s2 := spnOk_iff.1 f2.ok
      have b1 := f1.beg
      have b2 := f2.beg
      have t1 := f1.en
      have t2 := f2.en
      unfold apart at hap
      rw [decide_eq_true (by omega), decide_eq_true (by omega)] at hap
      cases hap
    · rw [hJ i h, hS i h]
      exact ⟨(jobR_parts (jobsR_mem hp.js (hT1 _ (List.getElem_mem _)))).1.2.2.2.1, (hI.pf _ (List.getElem_mem _)).sr⟩
end Go.Proofs.YtkhmdhdaldbbhaaGreat

/- Both PlanOf, walked. -/
import Derived.Test.YtfmjnncgpfkejaaGreatPG
import Derived.Test.YtfmjnncgpfkejaaGreatPD
import Derived.Test.YtfmjnncgpfkejaaGreatPR
import Derived.Test.YtfmjnncgpfkejaaGreatZ4
set_option maxRecDepth 100000
set_option linter.unusedVariables false
namespace Go.Proofs.YtfmjnncgpfkejaaGreat
open Go.RowKit Go.Fin1
theorem poolR_clear {p : Pl} (h : poolR p = true) : 1 ≤ p.clear.length ∧ p.clear.length ≤ 6 := by
  unfold poolR at h
  simp only [Bool.and_eq_true] at h
  have h1 := h.1.1.1
  unfold clearR at h1
  simp only [Bool.and_eq_true, decide_eq_true_eq] at h1
  exact ⟨h1.1.1, h1.1.2⟩
theorem poolR_job {p : Pl} (h : poolR p = true) {j : Jb} (hj : j ∈ p.jobs) : JOk p.now p.clear.length j ∧ (j.state = 2 → j.start ≤ p.now) := by
  have hR := jobsR_mem (poolR_jobs h).1 hj
  have hnow := isIn_iff.1 (poolR_jobs h).2
  unfold poolR at h
  simp only [Bool.and_eq_true] at h
  have hst := foldO_mem h.2 j hj
  by_cases hs : j.state = 2
  · obtain ⟨⟨g1, g2⟩, ⟨g3, g4⟩, hup, hl6⟩ := jobR_run hR hs
    obtain ⟨u1, u2, hu⟩ := hst
    unfold stepJ at hu
    rw [if_pos hs] at hu
    split at hu
    · cases hu
    · rename_i hn
      obtain ⟨n1, n2⟩ := nodesUp_pair hup
      have hneed : 1 ≤ j.need ∧ j.need ≤ 6 := by
        unfold jobR at hR
        simp only [Bool.and_eq_true] at hR
        exact isIn_iff.1 hR.1.1.1.1.2
      refine ⟨⟨hneed, ⟨g3, g4⟩, ⟨g1, g2⟩, fun _ => ⟨⟨by omega, g1, by omega⟩, n1, fun n hn2 => ⟨n2 n hn2, ?_⟩⟩, fun e => absurd hs e⟩, fun _ => by omega⟩
      obtain ⟨u3, u4, h4⟩ := foldO_mem (by rw [hu]; rfl) n hn2
      unfold step1 at h4
      split at h4
      · rename_i h5
        simp only [Bool.and_eq_true, decide_eq_true_eq] at h5
        exact h5.1.1
      · cases h4
  · have hnil := jobR_not hR hs
    unfold jobR at hR
    rw [if_neg hs] at hR
    simp only [Bool.and_eq_true, decide_eq_true_eq] at hR
    have h1 := isIn_iff.1 hR.1.1.1.1.2
    have h2 := isIn_iff.1 hR.1.1.1.2
    have h3 := hR.2.1
    exact ⟨⟨h1, h2, ⟨by omega, by omega⟩, fun e => absurd e hs, fun _ => hnil⟩, fun e => absurd e hs⟩
@[irreducible] def planP (p : Pl) : List Slt := if poolR p = true then planL p.clear p.now p.jobs else []
set_option maxHeartbeats 800000 in
theorem implPlanOf_any (p : Pl) (v : Value) (w : World) (h : ePool w v p) :
    Calls Tryz.prog 8 #[v] w fun e w' => ∃ v' fp, e = .returned v' ∧ Ext w w' ∧ Own w.heap.size w' oSltS fp [v'] (planP p) := by
  have HP := Lib.hid h
  obtain ⟨a, c, b, d, rfl, hnow, h1, h2⟩ := h
  clear h1 h2 hnow
  cases hp : poolR p
  · have HV : Hid (planP p = []) := Lib.hid (by unfold planP; rw [hp]; rfl)
    go_enter Tryz.func8, Tryz.ntmps8
    unfold Pl.val
    go_wp2_with fail
    refine (implPoolRight_any p _ _ (HP.out.ext (by repeat (first | exact Ext.refl _ | apply Ext.plus | apply Ext.alloc | apply Ext.drew)))).mono ?_
    rintro e _ ⟨rfl, X, rfl⟩
    rw [hp]
    go_wp2
    go_ret
    exact ⟨_, [], rfl, (by repeat (first | exact Ext.refl _ | apply Ext.plus | apply Ext.alloc | apply Ext.drew)), by rw [HV.out]; exact Own.nil _ _ _ _ _⟩
  · have HV : Hid (planP p = planL p.clear p.now p.jobs) := Lib.hid (by unfold planP; rw [hp]; rfl)
    have HK := Lib.hid hp
    go_enter Tryz.func8, Tryz.ntmps8
    unfold Pl.val
    go_wp2_with fail
    refine (implPoolRight_any p _ _ (HP.out.ext (by repeat (first | exact Ext.refl _ | apply Ext.plus | apply Ext.alloc | apply Ext.drew)))).mono ?_
    rintro e _ ⟨rfl, X, rfl⟩
    rw [hp]
    clear hp
    go_wp2_with fail
    refine (plan_any p _ _ (HP.out.ext (by repeat (first | exact Ext.refl _ | apply Ext.plus | apply Ext.alloc | apply Ext.drew))) (isIn_iff.1 (poolR_jobs HK.out).2) (poolR_clear HK.out).1 (poolR_clear HK.out).2 (jobsR_len (poolR_jobs HK.out).1) (jobsR_ne (poolR_jobs HK.out).1) (fun j hj => (poolR_job HK.out hj).1)).mono ?_
    rintro e _ ⟨v', fp, rfl, ⟨X2, rfl⟩, hO⟩
    have HO := Lib.hid (hO.mono (show w.heap.size ≤ _ by simp; omega))
    clear hO
    go_wp2
    go_ret
    exact ⟨_, fp, rfl, (by repeat (first | exact Ext.refl _ | apply Ext.plus | apply Ext.alloc | apply Ext.drew)), by rw [HV.out]; exact HO.out⟩
set_option maxHeartbeats 800000 in
theorem specPlanOf_any (p : Pl) (v : Value) (w : World) (h : ePool w v p) :
    Calls Tryz.prog 6 #[v] w fun e w' => ∃ v', e = .returned v' ∧ Ext w w' ∧ SlR w' 5 rSlt v' (planP p) := by
  have HP := Lib.hid h
  obtain ⟨a, c, b, d, rfl, hnow, h1, h2⟩ := h
  clear h1 h2 hnow
  cases hp : poolR p
  · have HV : Hid (planP p = []) := Lib.hid (by unfold planP; rw [hp]; rfl)
    go_enter Tryz.func6, Tryz.ntmps6
    unfold Pl.val
    go_wp2_with fail
    refine (specPoolRight_any p _ _ (HP.out.ext (by repeat (first | exact Ext.refl _ | apply Ext.plus | apply Ext.alloc | apply Ext.drew)))).mono ?_
    rintro e _ ⟨rfl, X, rfl⟩
    rw [hp]
    go_wp2
    go_ret
    exact ⟨_, rfl, (by repeat (first | exact Ext.refl _ | apply Ext.plus | apply Ext.alloc | apply Ext.drew)), by rw [HV.out]; exact ⟨_, _, rfl, Nat.le_refl _, Nat.zero_le _, fun i hi => absurd hi (Nat.not_lt_zero _)⟩⟩
  · have HV : Hid (planP p = planL p.clear p.now p.jobs) := Lib.hid (by unfold planP; rw [hp]; rfl)
    have HK := Lib.hid hp
    go_enter Tryz.func6, Tryz.ntmps6
    unfold Pl.val
    go_wp2_with fail
    refine (specPoolRight_any p _ _ (HP.out.ext (by repeat (first | exact Ext.refl _ | apply Ext.plus | apply Ext.alloc | apply Ext.drew)))).mono ?_
    rintro e _ ⟨rfl, X, rfl⟩
    rw [hp]
    clear hp
    go_wp2_with fail
    refine (l05Plan_any p _ _ (HP.out.ext (by repeat (first | exact Ext.refl _ | apply Ext.plus | apply Ext.alloc | apply Ext.drew))) (isIn_iff.1 (poolR_jobs HK.out).2) (poolR_clear HK.out).2 (jobsR_len (poolR_jobs HK.out).1) (jobsR_ne (poolR_jobs HK.out).1) (fun j hj => (poolR_job HK.out hj).1)).mono ?_
    rintro e _ ⟨v', ss, rfl, ⟨X2, rfl⟩, hS, hm⟩
    have hsl := hS.slr
    rw [hm] at hsl
    have HO := Lib.hid hsl
    clear hS hsl hm
    go_wp2
    go_ret
    exact ⟨_, rfl, (by repeat (first | exact Ext.refl _ | apply Ext.plus | apply Ext.alloc | apply Ext.drew)), by rw [HV.out]; exact HO.out⟩
end Go.Proofs.YtfmjnncgpfkejaaGreat

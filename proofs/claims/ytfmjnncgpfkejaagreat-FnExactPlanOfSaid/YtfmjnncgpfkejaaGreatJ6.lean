/- The walks of JobsRight and its law. -/
import Derived.Test.YtfmjnncgpfkejaaGreatJ5
set_option maxRecDepth 100000
set_option linter.unusedVariables false
namespace Go.Proofs.YtfmjnncgpfkejaaGreat
open Go.RowKit Go.Fin1

/-- Job i of a list may follow its elders. -/
def jobAt (l : List Jb) (i : Nat) : Bool := match l[i]? with
  | some j => jobR j && decide (j.id = (cntL (l.take i) j.l : Int) + 1)
  | none => true
theorem jobAt_eq {l : List Jb} {i : Nat} (hi : i < l.length) : jobAt l i = (jobR l[i] && decide (l[i].id = (cntL (l.take i) l[i].l : Int) + 1)) := by
  unfold jobAt; rw [List.getElem?_eq_getElem hi]
@[irreducible] def jobsR (l : List Jb) : Bool := decide (l.length ≤ 96) && (List.range l.length).all (jobAt l)
theorem jobsR_no {l : List Jb} {i : Nat} (hi : i < l.length) (h : jobAt l i = false) : jobsR l = false := by
  unfold jobsR
  rw [show (List.range l.length).all (jobAt l) = false from by rw [List.all_eq_false]; exact ⟨i, List.mem_range.2 hi, by simp [h]⟩, Bool.and_false]
theorem jobsR_long {l : List Jb} (h : 96 < l.length) : jobsR l = false := by unfold jobsR; rw [decide_eq_false (by omega)]; rfl
theorem jobsR_yes {l : List Jb} (h6 : l.length ≤ 96) (h : ∀ i, i < l.length → jobAt l i = true) : jobsR l = true := by
  unfold jobsR
  rw [decide_eq_true h6, List.all_eq_true.2 fun i hi => h i (List.mem_range.1 hi)]; rfl
theorem jobsR_len {l : List Jb} (h : jobsR l = true) : l.length ≤ 96 := by
  unfold jobsR at h; rw [Bool.and_eq_true, decide_eq_true_eq] at h; exact h.1
theorem jobsR_at {l : List Jb} (h : jobsR l = true) {i : Nat} (hi : i < l.length) : jobAt l i = true := by
  unfold jobsR at h; rw [Bool.and_eq_true, List.all_eq_true] at h; exact h.2 i (List.mem_range.2 hi)

theorem eJob.nodes {w : World} {j : Jb} {v : Value} (h : eJob w (j.val v) j) : SlR w 1 rInt v j.nodes := by
  obtain ⟨a, c, hv, _, hs⟩ := h
  rw [Jb.val_inj hv]; exact hs

set_option maxHeartbeats 1600000 in
theorem implJobsRight_any (v : Value) (l : List Jb) (w : World) (h : SlR w 9 rJob v l) :
    Calls Tryz.prog 56 #[v] w fun e w' => e = .returned (.bool (jobsR l)) ∧ Ext w w' := by
  obtain ⟨a, cap, rfl⟩ := h.len
  obtain ⟨_, hlc, hcm⟩ := slr_len h
  have hlm : l.length ≤ 9223372036854775807 := by unfold maxLen at hcm; omega
  have HS := Lib.hid h
  clear h
  by_cases h6 : l.length ≤ 96
  · have hb : decide ((96 : Int) < l.length) = false := decide_eq_false (by omega)
    go_enter Tryz.func56, Tryz.ntmps56
    go_wp2
    go_loopw [10, 3, 4] (fun i _ _ wr => ∃ k : Nat, k ≤ l.length ∧ i = .int .i64 k ∧ Ext w wr ∧ Hid (∀ j, j < k → jobAt l j = true)) (fun i _ _ _ => l.length - (intOf i).toNat)
    case atStart => exact ⟨0, Nat.zero_le _, rfl, Ext.refl _, Lib.hid (fun j h => absurd h (Nat.not_lt_zero _))⟩
    case round =>
      obtain ⟨k, hk, rfl, ⟨X, rfl⟩, HH⟩ := hrel
      by_cases hlt : k < l.length
      · obtain ⟨b, off, rfl⟩ := slr_some HS.out hlt
        obtain ⟨ho, an, cn, hok, hsn, c0, c1, c2, c3, c4, c5, c6, c7, c8⟩ := job_at HS.out hlt
        have HV : Hid (eJob w (l[k].val (.slice an l[k].nodes.length cn)) l[k]) := Lib.hid ⟨an, cn, rfl, hok, hsn⟩
        clear hsn
        have HE := Lib.hid (jobAt_eq hlt)
        have hc := cntL_le (l.take k) l[k].l
        have hc2 : (l.take k).length ≤ k := by simp; omega
        have HT := Lib.hid (SlR.take HS.out (Nat.le_of_lt hlt))
        go_upto_region 6 with fail
        cases hj : jobR l[k]
        · have HN := Lib.hid (jobsR_no hlt (by rw [HE.out, hj]; rfl))
          (refine wp_region_x 15 (by kernel_rfl) (by kernel_rfl) (by kernel_rfl) ?_; (iterate 15 (apply XReg.step; (case h => (intro w' hw'; obtain ⟨X', rfl⟩ := hw'; go_wp2_with ((go_at_call 87; refine (implJobRight_any l[k] _ _ hok (HV.out.ext trivial (by repeat (first | exact Ext.refl _ | apply Ext.plus | apply Ext.alloc | apply Ext.drew))).nodes).mono ?_; rintro e _ ⟨rfl, Y, rfl⟩)); exact ⟨rfl, (by repeat (first | exact Ext.refl _ | apply Ext.plus | apply Ext.alloc | apply Ext.drew))⟩)); (case hv => kernel_rfl))); refine XReg.doneN (fun X => ?_))
          go_wp2
          go_ret
          exact ⟨ret_bool HN.out.symm, (by repeat (first | exact Ext.refl _ | apply Ext.plus | apply Ext.alloc | apply Ext.drew))⟩
        cases hid : (l[k].id == (cntL (l.take k) l[k].l : Int) + 1)
        all_goals (refine wp_region_x 15 (by kernel_rfl) (by kernel_rfl) (by kernel_rfl) ?_; (iterate 15 (apply XReg.step; (case h => (intro w' hw'; obtain ⟨X', rfl⟩ := hw'; go_wp2_with ((first | (go_at_call 87; refine (implJobRight_any l[k] _ _ hok (HV.out.ext trivial (by repeat (first | exact Ext.refl _ | apply Ext.plus | apply Ext.alloc | apply Ext.drew))).nodes).mono ?_; rintro e _ ⟨rfl, Y, rfl⟩) | (go_at_call 88; refine (countOf_any _ (l.take k) l[k].l _ (HT.out.ext rJob_stable (by repeat (first | exact Ext.refl _ | apply Ext.plus | apply Ext.alloc | apply Ext.drew)))).mono ?_; rintro e _ ⟨rfl, Y2, rfl⟩))); exact ⟨rfl, (by repeat (first | exact Ext.refl _ | apply Ext.plus | apply Ext.alloc | apply Ext.drew))⟩)); (case hv => kernel_rfl))); refine XReg.doneN (fun X => ?_))
        all_goals go_wp2
        · have hid' : ¬ l[k].id = (cntL (l.take k) l[k].l : Int) + 1 := by simpa using hid
          go_ret
          exact ⟨ret_bool (jobsR_no hlt (by rw [HE.out, hj, decide_eq_false hid']; rfl)).symm, (by repeat (first | exact Ext.refl _ | apply Ext.plus | apply Ext.alloc | apply Ext.drew))⟩
        · have hid' : l[k].id = (cntL (l.take k) l[k].l : Int) + 1 := by simpa using hid
          exact ⟨⟨k + 1, by omega, by go_num, (by repeat' (first | exact Ext.refl _ | exact Nat.le_refl _ | (dsimp only; omega) | apply Ext.setCell | apply Ext.plus | apply Ext.alloc | apply Ext.drew)), Lib.hid (fun j hjk => by
            by_cases e : j < k
            · exact HH.out j e
            · obtain rfl : j = k := by omega
              rw [HE.out, hj, decide_eq_true hid']; rfl)⟩, by simp [intOf]; omega⟩
      · go_wp2
        go_ret
        exact ⟨ret_bool (jobsR_yes h6 (fun i hi => HH.out i (by omega))).symm, (by repeat (first | exact Ext.refl _ | apply Ext.plus | apply Ext.alloc | apply Ext.drew))⟩
  · have hb : decide ((96 : Int) < l.length) = true := decide_eq_true (by omega)
    have H := Lib.hid (jobsR_long (show 96 < l.length by omega))
    go_enter Tryz.func56, Tryz.ntmps56
    go_wp2
    go_ret
    exact ⟨ret_bool H.out.symm, (by repeat (first | exact Ext.refl _ | apply Ext.plus | apply Ext.alloc | apply Ext.drew))⟩

set_option maxHeartbeats 1600000 in
theorem specJobsRight_any (v : Value) (l : List Jb) (w : World) (h : SlR w 9 rJob v l) :
    Calls Tryz.prog 44 #[v] w fun e w' => e = .returned (.bool (jobsR l)) ∧ Ext w w' := by
  obtain ⟨a, cap, rfl⟩ := h.len
  obtain ⟨_, hlc, hcm⟩ := slr_len h
  have hlm : l.length ≤ 9223372036854775807 := by unfold maxLen at hcm; omega
  have HS := Lib.hid h
  clear h
  go_enter Tryz.func44, Tryz.ntmps44
  go_wp2
  go_loopw [3] (fun i wr => ∃ k : Nat, k ≤ l.length ∧ i = .int .i64 k ∧ Ext w wr ∧ Hid (∀ j, j < k → jobAt l j = true)) (fun i _ => l.length - (intOf i).toNat)
  case atStart => exact ⟨0, Nat.zero_le _, rfl, Ext.refl _, Lib.hid (fun j h => absurd h (Nat.not_lt_zero _))⟩
  case round =>
    obtain ⟨k, hk, rfl, ⟨X, rfl⟩, HH⟩ := hrel
    by_cases hlt : k < l.length
    · by_cases h6 : k ≤ 96
      · have hb : decide ((k : Int) ≤ 96) = true := decide_eq_true (by omega)
        obtain ⟨b, off, rfl⟩ := slr_some HS.out hlt
        obtain ⟨ho, an, cn, hok, hsn, c0, c1, c2, c3, c4, c5, c6, c7, c8⟩ := job_at HS.out hlt
        have HV : Hid (eJob w (l[k].val (.slice an l[k].nodes.length cn)) l[k]) := Lib.hid ⟨an, cn, rfl, hok, hsn⟩
        clear hsn
        have HE := Lib.hid (jobAt_eq hlt)
        have hc := cntL_le (l.take k) l[k].l
        have hc2 : (l.take k).length ≤ k := by simp; omega
        have HC := Lib.hid ((cntL_step (x := l[k].l) hlt).trans (by rw [if_pos (sameL_self _)]))
        have HT := Lib.hid (SlR.take HS.out (show k + 1 ≤ l.length from hlt))
        go_upto_region 4 with fail
        cases hj : jobR l[k]
        · have HN := Lib.hid (jobsR_no hlt (by rw [HE.out, hj]; rfl))
          (refine wp_region_x 24 (by kernel_rfl) (by kernel_rfl) (by kernel_rfl) ?_; (iterate 24 (apply XReg.step; (case h => (intro w' hw'; obtain ⟨X', rfl⟩ := hw'; go_wp2_with ((go_at_call 76; refine (specJobRight_any l[k] _ _ hok (HV.out.ext trivial (by repeat (first | exact Ext.refl _ | apply Ext.plus | apply Ext.alloc | apply Ext.drew))).nodes).mono ?_; rintro e _ ⟨rfl, Y, rfl⟩)); exact ⟨rfl, (by repeat (first | exact Ext.refl _ | apply Ext.plus | apply Ext.alloc | apply Ext.drew))⟩)); (case hv => kernel_rfl))); refine XReg.doneN (fun X => ?_))
          go_wp2
          go_ret
          exact ⟨ret_bool HN.out.symm, (by repeat (first | exact Ext.refl _ | apply Ext.plus | apply Ext.alloc | apply Ext.drew))⟩
        cases hid : (l[k].id == (cntL (l.take (k + 1)) l[k].l : Int))
        all_goals (refine wp_region_x 24 (by kernel_rfl) (by kernel_rfl) (by kernel_rfl) ?_; (iterate 24 (apply XReg.step; (case h => (intro w' hw'; obtain ⟨X', rfl⟩ := hw'; go_wp2_with ((first | (go_at_call 76; refine (specJobRight_any l[k] _ _ hok (HV.out.ext trivial (by repeat (first | exact Ext.refl _ | apply Ext.plus | apply Ext.alloc | apply Ext.drew))).nodes).mono ?_; rintro e _ ⟨rfl, Y, rfl⟩) | (go_at_call 77; refine (l04Many_any _ (l.take (k + 1)) l[k].l _ (HT.out.ext rJob_stable (by repeat (first | exact Ext.refl _ | apply Ext.plus | apply Ext.alloc | apply Ext.drew)))).mono ?_; rintro e _ ⟨rfl, Y2, rfl⟩))); exact ⟨rfl, (by repeat (first | exact Ext.refl _ | apply Ext.plus | apply Ext.alloc | apply Ext.drew))⟩)); (case hv => kernel_rfl))); refine XReg.doneN (fun X => ?_))
        all_goals go_wp2
        · have hid' : ¬ l[k].id = (cntL (l.take k) l[k].l : Int) + 1 := by rw [HC.out] at hid; simpa using hid
          go_ret
          exact ⟨ret_bool (jobsR_no hlt (by rw [HE.out, hj, decide_eq_false hid']; rfl)).symm, (by repeat (first | exact Ext.refl _ | apply Ext.plus | apply Ext.alloc | apply Ext.drew))⟩
        · have hid' : l[k].id = (cntL (l.take k) l[k].l : Int) + 1 := by rw [HC.out] at hid; simpa using hid
          exact ⟨⟨k + 1, by omega, by go_num, (by repeat (first | exact Ext.refl _ | apply Ext.plus | apply Ext.alloc | apply Ext.drew)), Lib.hid (fun j hjk => by
            by_cases e : j < k
            · exact HH.out j e
            · obtain rfl : j = k := by omega
              rw [HE.out, hj, decide_eq_true hid']; rfl)⟩, by simp [intOf]; omega⟩
      · have hb : decide ((k : Int) ≤ 96) = false := decide_eq_false (by omega)
        go_wp2
        go_ret
        exact ⟨ret_bool (by rw [jobsR_long (by omega)]; simp; omega), (by repeat (first | exact Ext.refl _ | apply Ext.plus | apply Ext.alloc | apply Ext.drew))⟩
    · go_wp2
      go_ret
      refine ⟨ret_bool ?_, (by repeat (first | exact Ext.refl _ | apply Ext.plus | apply Ext.alloc | apply Ext.drew))⟩
      by_cases h6 : l.length ≤ 96
      · rw [jobsR_yes h6 (fun i hi => HH.out i (by omega))]; simp; omega
      · rw [jobsR_long (by omega)]; simp; omega

end Go.Proofs.YtfmjnncgpfkejaaGreat

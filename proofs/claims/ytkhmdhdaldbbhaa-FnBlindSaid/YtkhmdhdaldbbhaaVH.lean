/- The program's View, walked. -/
import Derived.Test.YtkhmdhdaldbbhaaVN
set_option maxRecDepth 100000
set_option linter.unusedVariables false
namespace Go.Proofs.Ytkhmdhdaldbbhaa
open Go.RowKit Go.Fin1
set_option maxHeartbeats 3200000 in
theorem implView_any (p : Pl) (x : Lab) (ca : Option Addr) (cc : Nat) (ja : Option Addr) (jc : Nat) (w : World) (h : ePool w (p.val (.slice ca p.clear.length cc) (.slice ja p.jobs.length jc)) p) :
    Calls Try.prog 23 #[p.val (.slice ca p.clear.length cc) (.slice ja p.jobs.length jc), x.val] w fun e w' => e = .returned (.string (viewS p x)) ∧ Ext w w' := by
  have HP := Lib.hid h
  obtain ⟨_, _, _, _, hv, hnow, h1, h2⟩ := h
  have hj : SlR w 9 rJob (.slice ja p.jobs.length jc) p.jobs := by
    unfold Pl.val at hv
    simp only [Value.agg.injEq, Array.mk.injEq, List.cons.injEq] at hv
    rw [hv.2.1]; exact h2
  have HJ := Lib.hid hj
  have HNW := Lib.hid hnow
  clear hv h1 h2 hj hnow
  cases hp : poolR p
  · have HV : Hid (viewS p x = ⟨#[]⟩) := Lib.hid (by unfold viewS; rw [hp]; rfl)
    go_enter Try.func23, Try.ntmps23
    unfold Pl.val Lab.val
    go_wp2_with fail
    refine (implPoolRight_any p _ _ (HP.out.ext (by repeat (first | exact Ext.refl _ | apply Ext.plus | apply Ext.alloc | apply Ext.drew)))).mono ?_
    rintro e _ ⟨rfl, X, rfl⟩
    rw [hp]
    go_wp2
    go_ret
    exact ⟨ret_str HV.out.symm, (by repeat (first | exact Ext.refl _ | apply Ext.plus | apply Ext.alloc | apply Ext.drew))⟩
  cases hl : labR x
  · have HV : Hid (viewS p x = ⟨#[]⟩) := Lib.hid (by unfold viewS; rw [hp, hl]; rfl)
    go_enter Try.func23, Try.ntmps23
    unfold Pl.val Lab.val
    go_wp2_with fail
    refine (implPoolRight_any p _ _ (HP.out.ext (by repeat (first | exact Ext.refl _ | apply Ext.plus | apply Ext.alloc | apply Ext.drew)))).mono ?_
    rintro e _ ⟨rfl, X, rfl⟩
    rw [hp]
    go_wp2_with fail
    refine (implLabelRight_any _ _ _).mono ?_
    rintro e _ ⟨rfl, X2, rfl⟩
    rw [hl]
    go_wp2
    go_ret
    exact ⟨ret_str HV.out.symm, (by repeat (first | exact Ext.refl _ | apply Ext.plus | apply Ext.alloc | apply Ext.drew))⟩
  have HV : Hid (viewS p x = viewL p.now (seesL p.jobs x)) := Lib.hid (by unfold viewS; rw [hp, hl]; rfl)
  have HJR := Lib.hid (poolR_jobs hp).1
  have hjl : p.jobs.length ≤ 96 := jobsR_len HJR.out
  go_enter Try.func23, Try.ntmps23
  unfold Pl.val Lab.val
  go_wp2_with fail
  refine (implPoolRight_any p _ _ (HP.out.ext (by repeat (first | exact Ext.refl _ | apply Ext.plus | apply Ext.alloc | apply Ext.drew)))).mono ?_
  rintro e _ ⟨rfl, X, rfl⟩
  rw [hp]
  go_wp2_with fail
  refine (implLabelRight_any _ _ _).mono ?_
  rintro e _ ⟨rfl, X2, rfl⟩
  rw [hl]
  clear hp hl
  go_wp2_with fail
  refine (implPutNum_any _ HNW.out _).mono ?_
  rintro e _ ⟨rfl, X3, rfl⟩
  go_wp2_with fail
  refine (seenA_any p.jobs _ _ _ ja jc _ x _ (HJ.out.ext rJob_stable (by repeat (first | exact Ext.refl _ | apply Ext.plus | apply Ext.alloc | apply Ext.drew))) (by omega) (jobsR_ne HJR.out)).mono ?_
  rintro e _ ⟨g, cp, rfl, ⟨X4, rfl⟩, hS⟩
  have HN6 : Hid (∀ j ∈ seesL p.jobs x, j.nodes.length ≤ 6) := Lib.hid (fun j hj => jobR_nodes (jobsR_mem HJR.out (seesL_mem (jobsR_ne HJR.out) hj)))
  have hsl : (seesL p.jobs x).length ≤ 96 := Nat.le_trans (seesL_len _ _) hjl
  have HS := Lib.hid hS
  generalize seesL p.jobs x = l at HV hS HS HN6 hsl ⊢
  clear hS hjl
  go_upto_region 5 with fail
  refine gen_world (fun W hW => ?_)
  have HE0 : Hid (Ext w W) := Lib.hid (by rw [hW]; exact (by repeat (first | exact Ext.refl _ | apply Ext.plus | apply Ext.alloc | apply Ext.drew)))
  rw [← hW] at HS
  clear hW X X2 X3 X4 HP HJ HJR HNW
  go_wp2
  go_loopw [23, 5] (fun i t wr => ∃ n : Nat, n ≤ l.length ∧ i = .int .i64 n ∧ t = .string (viewL p.now (l.take n)) ∧ Ext W wr) (fun i _ _ => l.length - (intOf i).toNat)
  case atStart => exact ⟨0, Nat.zero_le _, rfl, by rw [List.take_zero, viewL_nil], (by repeat (first | exact Ext.refl _ | apply Ext.plus | apply Ext.alloc | apply Ext.drew))⟩
  case round =>
    obtain ⟨n, hn, rfl, rfl, ⟨X, rfl⟩⟩ := hrel
    by_cases hlt : n < l.length
    · obtain ⟨bj, oj, rfl⟩ := slr_some HS.out hlt
      obtain ⟨ho, na, nc, hok, hsn, c0, c1, c2, c3, c4, c5, c6, c7, c8⟩ := job_at HS.out hlt
      have HN := Lib.hid hsn
      have HVT := Lib.hid (viewL_take p.now hlt)
      have hz := viewL_sizeN p.now HN6.out hsl n
      have hn6 := HN6.out _ (List.getElem_mem hlt)
      have hz2 := headJ_size l[n]
      have hz3 := numsS_le l[n].nodes
      have HOK := Lib.hid hok
      clear hsn hok
      go_wp2_with fail
      refine (putNums_any _ (headJ l[n]) _ (sl_nine _ _ (by simp [go_sem]) l[n] HOK.out (by omega)) (by show 9 ≤ 1048576; decide)).mono ?_
      rintro e _ ⟨rfl, Y, rfl⟩
      go_wp2_with fail
      refine (putNums_any _ l[n].nodes _ (HN.out.ext rInt_stable (by repeat (first | exact Ext.refl _ | apply Ext.plus | apply Ext.alloc | apply Ext.drew))) (by omega)).mono ?_
      rintro e _ ⟨rfl, Y2, rfl⟩
      go_wp2
      exact ⟨⟨n + 1, by omega, by go_num, by rw [HVT.out], (by repeat (first | exact Ext.refl _ | apply Ext.plus | apply Ext.alloc | apply Ext.drew))⟩, by simp [intOf]; omega⟩
    · obtain rfl : n = l.length := by omega
      go_wp2
      go_ret
      exact ⟨ret_str (by rw [HV.out, List.take_length]), HE0.out.trans (by repeat (first | exact Ext.refl _ | apply Ext.plus | apply Ext.alloc | apply Ext.drew))⟩
end Go.Proofs.Ytkhmdhdaldbbhaa

/- The reference's labels of a configuration. -/
import Derived.Test.YtkekfncgpbileaaCG2
import Derived.Test.YtkekfncgpbileaaC1
import Derived.Test.YtkekfncgpbileaaZ1
import Derived.Test.YtkekfncgpbileaaE5
import Derived.Test.YtkekfncgpbileaaCG4
set_option maxRecDepth 100000
set_option linter.unusedVariables false
namespace Go.Proofs.Ytkekfncgpbileaa
open Go.RowKit Go.Fin1
theorem anyT_step {cl : List (List Lab)} {k : Nat} (hk : k < cl.length) (p : List Lab → Bool) : (cl.take (k + 1)).any p = ((cl.take k).any p || p cl[k]) := by
  rw [List.take_succ_eq_append_getElem hk, List.any_append]; simp
set_option maxHeartbeats 3200000 in
theorem l09Labels_any (cl : List (List Lab)) (v : Value) (w : World) (h : SlR w 1 rLabS v cl) :
    Calls Try.prog 111 #[v] w fun e w' => ∃ v', e = .returned v' ∧ Ext w w' ∧ Row w.heap.size w' 35 2 Lab.cells v' (labsOf cl) := by
  obtain ⟨ad, cap, rfl⟩ := h.len
  obtain ⟨-, hlc, hcm⟩ := slr_len h
  have hlm : cl.length ≤ 9223372036854775807 := by unfold maxLen at hcm; omega
  have HS := Lib.hid h
  clear h hlc hcm
  go_enter Try.func111, Try.ntmps111
  go_wp2
  go_loopw [3, 4] (fun o i wr => ∃ k : Nat, k ≤ 32 ∧ i = .int .i64 k ∧ Ext w wr ∧ Hid (Row w.heap.size wr 35 2 Lab.cells o (labsN cl k))) (fun _ i _ => 32 - (intOf i).toNat)
  case atStart => exact ⟨0, Nat.zero_le _, rfl, (by repeat (first | exact Ext.refl _ | apply Ext.plus | apply Ext.alloc | apply Ext.drew)), Lib.hid (Row.made _ _ _ _)⟩
  case round =>
    obtain ⟨k, hk, rfl, ⟨X, rfl⟩, HR⟩ := hrel
    obtain ⟨a1, c1, rfl⟩ := HR.out.shape
    by_cases hlt : k < 32
    · have hb : decide ((k : Int) < 32) = true := decide_eq_true (by omega)
      have hq : Int.tdiv (k : Int) 8 = ((k / 8 : Nat) : Int) := by rw [Int.tdiv_eq_ediv_of_nonneg (by omega)]; omega
      have hr : Int.tmod (k : Int) 8 = ((k % 8 : Nat) : Int) := by rw [Int.tmod_eq_emod_of_nonneg (by omega)]; omega
      go_upto_region 6 with fail
      refine gen_world (fun W hW => ?_)
      have q := CellsAt.fresh9 (w.plus X) #[(.int .i64 ((k : Int) / 8)), (.int .i64 ((k : Int) % 8))] 35
      simp only [World.size_plus] at q
      have hEW : Ext ((w.plus X).alloc (.cells #[(.int .i64 ((k : Int) / 8)), (.int .i64 ((k : Int) % 8))] 35)) W := by rw [hW]; exact (by repeat (first | exact Ext.refl _ | apply Ext.plus | apply Ext.alloc | apply Ext.drew))
      have b0 := (q.ext hEW) 0 _ rfl
      have b1 := (q.ext hEW) 1 _ rfl
      have hob := World.old_of_cell b0
      have HEW : Hid (Ext w W) := Lib.hid ((((Ext.refl w).plus X).alloc _).trans hEW)
      have HSW := Lib.hid (HS.out.ext rLabS_stable HEW.out)
      have HRW := Lib.hid (HR.out.ext (((Ext.refl (w.plus X)).alloc _).trans hEW))
      have HL := Lib.hid (labsN_len cl k)
      have HO : Hid (ordL k = ⟨(k : Int) / 8, (k : Int) % 8⟩) := Lib.hid (by simp [ordL])
      have HSU := Lib.hid (labsN_succ cl k)
      clear hW q hEW hq hr
      go_wp2
      go_loopw [6, 7] (fun o i wr => ∃ m : Nat, m ≤ cl.length ∧ i = Value.int .i64 m ∧ o = Value.bool ((cl.take m).any (fun l => hasL l ⟨(k : Int) / 8, (k : Int) % 8⟩)) ∧ Ext W wr) (fun _ i _ => cl.length - (intOf i).toNat)
      case atStart => exact ⟨0, Nat.zero_le _, rfl, rfl, Ext.refl _⟩
      case round =>
        obtain ⟨m, hm, rfl, rfl, Y, rfl⟩ := hrel
        by_cases hml : m < cl.length
        · obtain ⟨b, off, rfl⟩ := slr_some HSW.out hml
          have hmb : decide ((m : Int) < (cl.length : Int)) = true := decide_eq_true (by omega)
          obtain ⟨ho, vx, hsx, h0⟩ := sl_at HSW.out hml
          have HX := Lib.hid hsx
          obtain ⟨ax, cx, rfl⟩ := hsx.len
          clear hsx
          have HA := Lib.hid (anyT_step hml (fun l => hasL l ⟨(k : Int) / 8, (k : Int) % 8⟩))
          go_upto_region 10 with fail
          cases r0 : (cl.take m).any (fun l => hasL l ⟨(k : Int) / 8, (k : Int) % 8⟩)
          · cases r1 : hasL cl[m] ⟨(k : Int) / 8, (k : Int) % 8⟩
            · have HB := Lib.hid (HA.out.trans (by rw [r0, r1]; rfl : _ = false))
              clear HA r0
              (refine wp_region_x 10 (by kernel_rfl) (by kernel_rfl) (by kernel_rfl) ?_; (iterate 10 (apply XReg.step; (case h => (intro w' hw'; obtain ⟨X', rfl⟩ := hw'; go_wp2_with ((go_at_call 125; refine (l05Cleared_any _ _ ⟨(k : Int) / 8, (k : Int) % 8⟩ _ (HX.out.ext rLab_stable (by repeat (first | exact Ext.refl _ | apply Ext.plus | apply Ext.alloc | apply Ext.drew)))).mono ?_; rintro e _ ⟨rfl, Z, rfl⟩; rw [r1])); exact ⟨rfl, (by repeat (first | exact Ext.refl _ | apply Ext.plus | apply Ext.alloc | apply Ext.drew))⟩)); (case hv => kernel_rfl))); refine XReg.doneN (fun X => ?_))
              go_wp2
              exact ⟨⟨m + 1, by omega, by go_num, congrArg Value.bool HB.out.symm, (by repeat (first | exact Ext.refl _ | apply Ext.plus | apply Ext.alloc | apply Ext.drew))⟩, by simp [intOf]; omega⟩
            · have HB := Lib.hid (HA.out.trans (by rw [r0, r1]; rfl : _ = true))
              clear HA r0
              (refine wp_region_x 10 (by kernel_rfl) (by kernel_rfl) (by kernel_rfl) ?_; (iterate 10 (apply XReg.step; (case h => (intro w' hw'; obtain ⟨X', rfl⟩ := hw'; go_wp2_with ((go_at_call 125; refine (l05Cleared_any _ _ ⟨(k : Int) / 8, (k : Int) % 8⟩ _ (HX.out.ext rLab_stable (by repeat (first | exact Ext.refl _ | apply Ext.plus | apply Ext.alloc | apply Ext.drew)))).mono ?_; rintro e _ ⟨rfl, Z, rfl⟩; rw [r1])); exact ⟨rfl, (by repeat (first | exact Ext.refl _ | apply Ext.plus | apply Ext.alloc | apply Ext.drew))⟩)); (case hv => kernel_rfl))); refine XReg.doneN (fun X => ?_))
              go_wp2
              exact ⟨⟨m + 1, by omega, by go_num, congrArg Value.bool HB.out.symm, (by repeat (first | exact Ext.refl _ | apply Ext.plus | apply Ext.alloc | apply Ext.drew))⟩, by simp [intOf]; omega⟩
          · have HB := Lib.hid (HA.out.trans (by rw [r0]; rfl : _ = true))
            clear HA r0
            (refine wp_region_x 10 (by kernel_rfl) (by kernel_rfl) (by kernel_rfl) ?_; (iterate 10 (apply XReg.step; (case h => (intro w' hw'; obtain ⟨X', rfl⟩ := hw'; go_wp2_with (fail); exact ⟨rfl, (by repeat (first | exact Ext.refl _ | apply Ext.plus | apply Ext.alloc | apply Ext.drew))⟩)); (case hv => kernel_rfl))); refine XReg.doneN (fun X => ?_))
            go_wp2
            exact ⟨⟨m + 1, by omega, by go_num, congrArg Value.bool HB.out.symm, (by repeat (first | exact Ext.refl _ | apply Ext.plus | apply Ext.alloc | apply Ext.drew))⟩, by simp [intOf]; omega⟩
        · obtain rfl : m = cl.length := by omega
          have hmb : decide ((cl.length : Int) < (cl.length : Int)) = false := decide_eq_false (by omega)
          rw [List.take_length]
          cases r0 : cl.any (fun l => hasL l ⟨(k : Int) / 8, (k : Int) % 8⟩)
          · have HY : Hid (labsN cl (k + 1) = labsN cl k) := Lib.hid (by rw [HSU.out, HO.out, r0]; rfl)
            clear r0 HSU
            go_wp2
            exact ⟨⟨k + 1, by omega, by go_num, HEW.out.trans (by repeat (first | exact Ext.refl _ | apply Ext.plus | apply Ext.alloc | apply Ext.drew)), Lib.hid (by rw [HY.out]; exact HRW.out.ext (by repeat (first | exact Ext.refl _ | apply Ext.plus | apply Ext.alloc | apply Ext.drew)))⟩, by simp [intOf]; omega⟩
          · have HY : Hid (labsN cl (k + 1) = labsN cl k ++ [⟨(k : Int) / 8, (k : Int) % 8⟩]) := Lib.hid (by rw [HSU.out, HO.out, r0]; rfl)
            clear r0 HSU
            have hL := HL.out
            go_wp2_with (at_builtin; go_must (refine Row.app (f := Lab.cells) el_Label rfl _ _ rfl w (HEW.out.trans (by repeat (first | exact Ext.refl _ | apply Ext.plus | apply Ext.alloc | apply Ext.drew))) _ (labsN cl k) rfl (HRW.out.ext (by repeat (first | exact Ext.refl _ | apply Ext.plus | apply Ext.alloc | apply Ext.drew))) ⟨(k : Int) / 8, (k : Int) % 8⟩ rfl _ ?_ rfl rfl ?_ ?_ ?_ ?_); (simp [go_sem]); (simp [Value.oneCell']); (unfold maxLen; omega); omega; intro v' Z hown' hne; have HO' := Lib.hid hown'; clear hown' hne)
            exact ⟨⟨k + 1, by omega, by go_num, (by repeat (first | exact Ext.refl _ | apply Ext.plus | apply Ext.alloc | apply Ext.drew)), Lib.hid (by rw [HY.out]; exact HO'.out.ext (by repeat (first | exact Ext.refl _ | apply Ext.plus | apply Ext.alloc | apply Ext.drew)))⟩, by simp [intOf]; omega⟩
    · obtain rfl : k = 32 := by omega
      go_wp2
      go_ret
      exact ⟨_, rfl, (by repeat (first | exact Ext.refl _ | apply Ext.plus | apply Ext.alloc | apply Ext.drew)), by unfold labsOf; exact HR.out⟩
end Go.Proofs.Ytkekfncgpbileaa

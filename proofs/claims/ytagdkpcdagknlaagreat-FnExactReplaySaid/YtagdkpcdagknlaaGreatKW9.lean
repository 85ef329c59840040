/- The walks of Unseal. -/
import Derived.Test.YtagdkpcdagknlaaGreatKW8
set_option maxRecDepth 100000
namespace Go.Proofs.YtagdkpcdagknlaaGreat
open Go.RowKit Go.Fin1

/-- What Unseal answers. -/
@[irreducible] def unsealS (s : ByteArray) : TextO :=
  if 8000 < s.size then ⟨⟨#[]⟩, 0, 2⟩ else if s.size < 4 then ⟨⟨#[]⟩, 0, 4⟩
  else if (four (crcOf 0 (s.extract 0 (s.size - 4)))).toList == (s.extract (s.size - 4) s.size).toList then ⟨s.extract 0 (s.size - 4), 0, 0⟩ else ⟨⟨#[]⟩, 0, 5⟩

set_option maxHeartbeats 1600000 in
theorem implUnseal_any (s : ByteArray) (w : World) (hs : s.size ≤ 1048576) :
    Calls Tryz.prog 111 #[.string s] w fun e w' => e = .returned (textV (unsealS s)) ∧ Ext w w' := by
  unfold unsealS
  by_cases h0 : 8000 < s.size
  · rw [if_pos h0]
    have hb : decide (8000 < (s.size : Int)) = true := decide_eq_true (by omega)
    go_enter Tryz.func111, Tryz.ntmps111
    go_wp2_with ((go_at_call 105; refine (isLongText_any s _).mono ?_; rintro e _ ⟨rfl, rfl⟩))
    exact bodyPost_ret (v := textV ⟨⟨#[]⟩, 0, 2⟩) (by simp [results, Tryz.results111, go_sem]) rfl ⟨rfl, (by repeat' (first | exact Ext.refl _ | exact Nat.le_refl _ | (dsimp only; omega) | apply Ext.setCell | apply Ext.plus | apply Ext.alloc | apply Ext.drew))⟩
  rw [if_neg h0]
  have hb : decide (8000 < (s.size : Int)) = false := decide_eq_false (by omega)
  by_cases h4 : s.size < 4
  · rw [if_pos h4]
    go_enter Tryz.func111, Tryz.ntmps111
    go_wp2_with ((go_at_call 105; refine (isLongText_any s _).mono ?_; rintro e _ ⟨rfl, rfl⟩))
    exact bodyPost_ret (v := textV ⟨⟨#[]⟩, 0, 4⟩) (by simp [results, Tryz.results111, go_sem]) rfl ⟨rfl, (by repeat' (first | exact Ext.refl _ | exact Nat.le_refl _ | (dsimp only; omega) | apply Ext.setCell | apply Ext.plus | apply Ext.alloc | apply Ext.drew))⟩
  rw [if_neg h4]
  have hsz : (s.extract 0 (s.size - 4)).size ≤ 1048576 := by rw [ByteArray.size_extract]; omega
  have hn : decide ((s.size : Int) - 4 < 0) = false := decide_eq_false (by omega)
  cases hq : (four (crcOf 0 (s.extract 0 (s.size - 4)))).toList == (s.extract (s.size - 4) s.size).toList
  · rw [if_neg (by simp)]
    go_enter Tryz.func111, Tryz.ntmps111
    go_upto_region 6 with ((go_at_call 105; refine (isLongText_any s _).mono ?_; rintro e _ ⟨rfl, rfl⟩))
    all_goals (refine wp_region_x 8 (by kernel_rfl) (by kernel_rfl) (by kernel_rfl) ?_; (iterate 8 (apply XReg.step; (case h => (intro w' hw'; obtain ⟨X', rfl⟩ := hw'; go_wp2_with ((go_at_call 159; refine (sumOf_any _ _ hsz).mono ?_; rintro e _ ⟨rfl, X, rfl⟩)); exact ⟨rfl, xt⟩)); (case hv => kernel_rfl))); refine XReg.done1 (fun X => ?_))
    all_goals go_wp2
    all_goals exact bodyPost_ret (v := textV ⟨⟨#[]⟩, 0, 5⟩) (by simp [results, Tryz.results111, go_sem]) rfl ⟨rfl, (by repeat' (first | exact Ext.refl _ | exact Nat.le_refl _ | (dsimp only; omega) | apply Ext.setCell | apply Ext.plus | apply Ext.alloc | apply Ext.drew))⟩
  · rw [if_pos rfl]
    go_enter Tryz.func111, Tryz.ntmps111
    go_upto_region 6 with ((go_at_call 105; refine (isLongText_any s _).mono ?_; rintro e _ ⟨rfl, rfl⟩))
    all_goals (refine wp_region_x 8 (by kernel_rfl) (by kernel_rfl) (by kernel_rfl) ?_; (iterate 8 (apply XReg.step; (case h => (intro w' hw'; obtain ⟨X', rfl⟩ := hw'; go_wp2_with ((go_at_call 159; refine (sumOf_any _ _ hsz).mono ?_; rintro e _ ⟨rfl, X, rfl⟩)); exact ⟨rfl, xt⟩)); (case hv => kernel_rfl))); refine XReg.done1 (fun X => ?_))
    all_goals go_wp2
    all_goals exact bodyPost_ret (v := textV ⟨s.extract 0 (s.size - 4), 0, 0⟩) (by simp [results, Tryz.results111, go_sem]) rfl ⟨rfl, (by repeat' (first | exact Ext.refl _ | exact Nat.le_refl _ | (dsimp only; omega) | apply Ext.setCell | apply Ext.plus | apply Ext.alloc | apply Ext.drew))⟩

set_option maxHeartbeats 1600000 in
theorem specUnseal_any (s : ByteArray) (w : World) (hs : s.size ≤ 1048576) :
    Calls Tryz.prog 109 #[.string s] w fun e w' => e = .returned (textV (unsealS s)) ∧ Ext w w' := by
  unfold unsealS
  by_cases h0 : 8000 < s.size
  · rw [if_pos h0]
    go_enter Tryz.func109, Tryz.ntmps109
    go_wp2
    exact bodyPost_ret (v := textV ⟨⟨#[]⟩, 0, 2⟩) (by simp [results, Tryz.results109, go_sem]) rfl ⟨rfl, (by repeat' (first | exact Ext.refl _ | exact Nat.le_refl _ | (dsimp only; omega) | apply Ext.setCell | apply Ext.plus | apply Ext.alloc | apply Ext.drew))⟩
  rw [if_neg h0]
  by_cases h4 : s.size < 4
  · rw [if_pos h4]
    go_enter Tryz.func109, Tryz.ntmps109
    go_wp2
    exact bodyPost_ret (v := textV ⟨⟨#[]⟩, 0, 4⟩) (by simp [results, Tryz.results109, go_sem]) rfl ⟨rfl, (by repeat' (first | exact Ext.refl _ | exact Nat.le_refl _ | (dsimp only; omega) | apply Ext.setCell | apply Ext.plus | apply Ext.alloc | apply Ext.drew))⟩
  rw [if_neg h4]
  have hsz : (s.extract 0 (s.size - 4)).size ≤ 1048576 := by rw [ByteArray.size_extract]; omega
  have h64 := crcOf_i64 (s.extract 0 (s.size - 4)) 0
  have hn : decide ((s.size : Int) < 4) = false := decide_eq_false (by omega)
  have hb : decide (8000 < (s.size : Int)) = false := decide_eq_false (by omega)
  cases hq : (four (crcOf 0 (s.extract 0 (s.size - 4)))).toList == (s.extract (s.size - 4) s.size).toList
  · rw [if_neg (by simp)]
    go_enter Tryz.func109, Tryz.ntmps109
    go_upto_region 6 with fail
    all_goals (refine wp_region_x 9 (by kernel_rfl) (by kernel_rfl) (by kernel_rfl) ?_; (iterate 9 (apply XReg.step; (case h => (intro w' hw'; obtain ⟨X', rfl⟩ := hw'; go_wp2_with (first | (go_at_call 161; refine (l01Crc_any 0 _ _ hsz).mono ?_; rintro e _ ⟨rfl, rfl⟩) | (go_at_call 160; refine (l01Four_any _ _ h64).mono ?_; rintro e _ ⟨rfl, X, rfl⟩)); exact ⟨rfl, xt⟩)); (case hv => kernel_rfl))); refine XReg.doneN (fun X => ?_))
    all_goals go_wp2
    all_goals exact bodyPost_ret (v := textV ⟨⟨#[]⟩, 0, 5⟩) (by simp [results, Tryz.results109, go_sem]) rfl ⟨rfl, (by repeat' (first | exact Ext.refl _ | exact Nat.le_refl _ | (dsimp only; omega) | apply Ext.setCell | apply Ext.plus | apply Ext.alloc | apply Ext.drew))⟩
  · rw [if_pos rfl]
    go_enter Tryz.func109, Tryz.ntmps109
    go_upto_region 6 with fail
    all_goals (refine wp_region_x 9 (by kernel_rfl) (by kernel_rfl) (by kernel_rfl) ?_; (iterate 9 (apply XReg.step; (case h => (intro w' hw'; obtain ⟨X', rfl⟩ := hw'; go_wp2_with (first | (go_at_call 161; refine (l01Crc_any 0 _ _ hsz).mono ?_; rintro e _ ⟨rfl, rfl⟩) | (go_at_call 160; refine (l01Four_any _ _ h64).mono ?_; rintro e _ ⟨rfl, X, rfl⟩)); exact ⟨rfl, xt⟩)); (case hv => kernel_rfl))); refine XReg.doneN (fun X => ?_))
    all_goals go_wp2
    all_goals exact bodyPost_ret (v := textV ⟨s.extract 0 (s.size - 4), 0, 0⟩) (by simp [results, Tryz.results109, go_sem]) rfl ⟨rfl, (by repeat' (first | exact Ext.refl _ | exact Nat.le_refl _ | (dsimp only; omega) | apply Ext.setCell | apply Ext.plus | apply Ext.alloc | apply Ext.drew))⟩


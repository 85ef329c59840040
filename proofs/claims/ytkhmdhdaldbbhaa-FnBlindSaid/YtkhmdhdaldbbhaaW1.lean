/- The walks of PutNum, of the program's text and of the reference's. -/
import Derived.Test.YtkhmdhdaldbbhaaBA
set_option maxRecDepth 100000
namespace Go.Proofs.Ytkhmdhdaldbbhaa
open Go.RowKit Go.Fin1

theorem info_u8 : (Try.prog.info? 5).map (fun i => (i.zero, i.size, i.bytes)) = some (some (.int .u8 0), 1, 1) := by kernel_rfl
theorem el_u8 : ElemInfo Try.prog 22 5 1 1 := by
  obtain ⟨i, hi, hz, hs, hb⟩ := info_parts info_u8
  exact ⟨Try.underlying22, ⟨i, _, hi, hz, hs, hb, rfl⟩, by decide⟩



set_option maxHeartbeats 400000 in
theorem implPutNum_any (n : Int) (h : I64 n) (w : World) :
    Calls Try.prog 55 #[.int .i64 n] w fun e w' => e = .returned (.string (putNum n)) ∧ Ext w w' := by
  have hz := zig_bits h
  have hbd := zig_bd h
  have h' := h
  obtain ⟨h1, h2⟩ := h'
  go_enter Try.func55, Try.ntmps55
  go_wp2
  have Hb := Lib.hid hbd
  have h64 : zig n < lim 9 := by rw [lim9]; omega
  clear hz hbd
  go_loopw [3, 4] (fun v r wr => ∃ (X : More) (f : Nat) (u : Int) (pre : List Int), wr = w.plus X ∧ (w.plus X).ownsRow w.heap.size 5 1 v pre.length (pre.map (Value.int .u8)) ∧ r = .int .u64 u ∧ 0 ≤ u ∧ u < lim f ∧ u ≤ 18446744073709551615 ∧ pre.length + f = 9 ∧ Hid (pre ++ putU f u = putNumL n)) (fun _ r _ => (intOf r).toNat)
  case atStart =>
    obtain ⟨X, hX⟩ := (Ext.refl w).alloc (.cells #[] 5)
    refine ⟨X, 9, zig n, [], hX, ?_, rfl, Hb.out.1, h64, Hb.out.2, rfl, Lib.hid (by unfold putNumL; rfl)⟩
    rw [← hX]
    exact World.ownsRow_made (base := w.heap.size) w #[] 0 (Nat.le_refl _) (by decide) rfl
  case round =>
    obtain ⟨X, f, u, pre, rfl, hown, rfl, hu0, hul, hu64, hlen, hpre⟩ := hrel
    by_cases hu : u < 128
    · have hb := byteSmall hu0 hu
      go_wp2_with (at_builtin; go_must (refine app_one el_u8 rfl _ _ rfl w ⟨X, rfl⟩ _ pre.length _ rfl hown _ ?_ rfl rfl ?_ ?_ ?_ ?_); (simp only [World.size_plus]); (simp [Value.oneCell']); (unfold maxLen; omega); omega; intro v' X' hown' hne; have hs := run_string_own (P := Try.prog) (src := 22) (dst := 9) (xs := pre ++ [u]) Try.underlying22 Try.underlying5 Try.underlying9 (by simpa using hown'); clear hown')
      go_ret
      exact ⟨ret_str (by unfold putNum; rw [← hpre.out, putU_small hu]), X', rfl⟩
    · have ho := or128' u
      go_wp2_with (at_builtin; go_must (refine app_one el_u8 rfl _ _ rfl w ⟨X, rfl⟩ _ pre.length _ rfl hown _ ?_ rfl rfl ?_ ?_ ?_ ?_); (simp only [World.size_plus]); (simp [Value.oneCell']); (unfold maxLen; omega); omega; intro v' X' hown' hne)
      have hf : f ≠ 0 := by intro e; subst e; simp [lim] at hul; omega
      obtain ⟨g, rfl⟩ : ∃ g, f = g + 1 := ⟨f - 1, by omega⟩
      refine ⟨⟨X', g, u / 128, pre ++ [u % 128 + 128], rfl, by simpa using hown', rfl, by omega, by simp only [lim] at hul; omega, by omega, by simp; omega, Lib.hid ?_⟩, by simp [intOf]; omega⟩
      rw [← hpre.out, putU_big hu]; simp




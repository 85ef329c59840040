/- The laws' own comparison of lists; bytes as arguments. -/
import Derived.Test.YtkhmdhdaldbbhaaGreatKDR3
import Derived.Test.YtkhmdhdaldbbhaaGreatKPA1
set_option maxRecDepth 100000
set_option linter.unusedVariables false
namespace Go.Proofs.YtkhmdhdaldbbhaaGreat
open Go.ChangeShapes Go.WideShapes Go.ChangeAt Go.RowKit Go.Fin1

section
variable {H : Type} {enc : TypeId × Value → H} {w : World} {base : Nat} {spare : Nat → Bool} {held : Bool} {fuel : Nat} {cs : List Value} {x : DataW H × List MemPlace}
theorem b_u8 (h : DataW.trod enc Tryz.prog w base spare held fuel 5 cs = some x) : ∃ n : Int, rU8 w cs n := by
  obtain ⟨n, h1, _, h2⟩ := DataW.trod_int Tryz.underlying5 h
  have h3 : 0 ≤ n ∧ n ≤ 255 := by
    simpa [Lit.wf, IntKind.min, IntKind.max, IntKind.signed, IntKind.bits] using h2
  exact ⟨n, h1, h3.1, h3.2⟩
theorem b_bytes (h : DataW.trod enc Tryz.prog w base spare held fuel 22 cs = some x) : ∃ v xs, cs = [v] ∧ SlR w 1 rU8 v xs :=
  b_slice Tryz.underlying22 (by kernel_rfl) (by decide) (fun _ _ _ h => b_u8 h) h
end
section
variable {H : Type} {enc : TypeId × Value → H} {w : World} {base : Nat} {spare : Nat → Bool} {held : Bool} {r : Reach} {b0 : Nat} {v : Value} {d : DataW H} {ps : List MemPlace}
theorem open_bytes (hv : Value.okWide Tryz.prog w r b0 22 v) (h : DataW.Trod enc Tryz.prog w base spare held 22 v d ps) : ∃ a : Arg (List Int), v = a.v ∧ SlR w 1 rU8 a.v a.x := slice_arg Tryz.underlying22 hv (fun _ _ _ h => b_bytes h) h
end

set_option maxHeartbeats 800000 in
theorem lwNums_self (v v' : Value) (l : List Int) (w : World) (h : SlR w 1 rInt v l) (h' : SlR w 1 rInt v' l) :
    Calls Tryz.prog 51 #[v, v'] w fun e w' => e = .returned (.bool true) ∧ Ext w w' := by
  obtain ⟨ad, cap, rfl⟩ := h.len
  obtain ⟨ad', cap', rfl⟩ := h'.len
  obtain ⟨-, hlc, hcm⟩ := slr_len h
  have hlm : l.length ≤ 9223372036854775807 := by unfold maxLen at hcm; omega
  clear hcm hlc
  have HS := Lib.hid h
  have HS' := Lib.hid h'
  clear h h'
  go_enter Tryz.func51, Tryz.ntmps51
  go_wp2
  go_loopw [5] (fun i wr => ∃ k : Nat, k ≤ l.length ∧ i = .int .i64 k ∧ Ext w wr) (fun i _ => l.length - (intOf i).toNat)
  case atStart => exact ⟨0, Nat.zero_le _, rfl, xt⟩
  case round =>
    obtain ⟨k, hk, rfl, ⟨X, rfl⟩⟩ := hrel
    by_cases hlt : k < l.length
    · obtain ⟨b, off, rfl⟩ := slr_some HS.out hlt
      obtain ⟨b', off', rfl⟩ := slr_some HS'.out hlt
      obtain ⟨ho, -, h0⟩ := int_at HS.out hlt; obtain ⟨ho', -, h0'⟩ := int_at HS'.out hlt
      skip
      go_wp2_with fail
      (refine wp_region_x 9 (by kernel_rfl) (by kernel_rfl) (by kernel_rfl) ?_; (iterate 9 (apply XReg.step; (case h => (intro w' hw'; obtain ⟨X', rfl⟩ := hw'; go_wp2_with (fail); exact ⟨rfl, xt⟩)); (case hv => kernel_rfl))); refine XReg.doneN (fun X => ?_))
      go_wp2
      exact ⟨⟨k + 1, by omega, by go_num, xt⟩, by simp [intOf]; omega⟩
    · go_wp2
      go_ret
      exact ⟨rfl, xt⟩
end Go.Proofs.YtkhmdhdaldbbhaaGreat

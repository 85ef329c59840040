/- The walks of Seal, Unseal. -/
import Derived.Test.YtagdkpcdagknlaaGreatKW4
import Derived.Test.YtagdkpcdagknlaaGreatKW7
set_option maxRecDepth 100000
namespace Go.Proofs.YtagdkpcdagknlaaGreat
open Go.RowKit Go.Fin1

/-- A number in four bytes. -/
@[irreducible] def fourL (n : Int) : List Int := [n % 256, n / 256 % 256, n / 65536 % 256, n / 16777216 % 256]
@[irreducible] def four (n : Int) : ByteArray := strOfNums (fourL n)
theorem ownsFour (w : World) (a b c d : Int) : (w.alloc (.cells #[.int .u8 a, .int .u8 b, .int .u8 c, .int .u8 d] 5)).ownsRow w.heap.size 5 1 (.slice (some ⟨w.heap.size, 0, none⟩) 4 4) 4 ([a, b, c, d].map (Value.int .u8)) :=
  ⟨rfl, .inr ⟨w.heap.size, 4, #[.int .u8 a, .int .u8 b, .int .u8 c, .int .u8 d], rfl, Nat.le_refl _, Array.getElem?_push_size, by decide, by decide, rfl, rfl⟩⟩

set_option maxHeartbeats 800000 in
theorem fourBytes_any (n : Int) (w : World) (_ : I64 n) :
    Calls Tryz.prog 188 #[(.int .i64 n)] w fun e w' => e = .returned (.string (four n)) ∧ Ext w w' := by
  have hs := run_string_own (P := Tryz.prog) (src := 22) (dst := 9) Tryz.underlying22 Tryz.underlying5 Tryz.underlying9 (ownsFour w (n % 256) (n / 256 % 256) (n / 65536 % 256) (n / 16777216 % 256))
  have hf : strOfNums [n % 256, n / 256 % 256, n / 65536 % 256, n / 16777216 % 256] = four n := by unfold four fourL; rfl
  rw [hf] at hs
  clear hf
  go_enter Tryz.func188, Tryz.ntmps188
  go_wp2
  go_ret
  exact ⟨rfl, xt⟩

set_option maxHeartbeats 800000 in
theorem l01Four_any (n : Int) (w : World) (_ : I64 n) :
    Calls Tryz.prog 160 #[(.int .i64 n)] w fun e w' => e = .returned (.string (four n)) ∧ Ext w w' := by
  have hs := run_string_own (P := Tryz.prog) (src := 22) (dst := 9) Tryz.underlying22 Tryz.underlying5 Tryz.underlying9 (ownsFour w (n % 256) (n / 256 % 256) (n / 65536 % 256) (n / 16777216 % 256))
  have hf : strOfNums [n % 256, n / 256 % 256, n / 65536 % 256, n / 16777216 % 256] = four n := by unfold four fourL; rfl
  rw [hf] at hs
  clear hf
  go_enter Tryz.func160, Tryz.ntmps160
  go_wp2
  go_ret
  exact ⟨rfl, xt⟩

theorem crcOf_bd (s : ByteArray) (n : Int) : 0 ≤ crcOf n s ∧ crcOf n s ≤ 4294967295 := by
  unfold crcOf
  exact u32_bits_bd .xor _ _
theorem crcOf_i64 (s : ByteArray) (n : Int) : I64 (crcOf n s) := by have := crcOf_bd s n; unfold I64; omega

theorem four_size (n : Int) : (four n).size = 4 := by unfold four fourL; simp [strOfNums, ByteArray.size]

set_option maxHeartbeats 400000 in
theorem sumOf_any (s : ByteArray) (w : World) (hs : s.size ≤ 1048576) :
    Calls Tryz.prog 159 #[.string s] w fun e w' => e = .returned (.string (four (crcOf 0 s))) ∧ Ext w w' := by
  have h := crcOf_i64 s 0
  go_enter Tryz.func159, Tryz.ntmps159
  go_wp2_with (first | (go_at_call 189; refine (sumMore_any 0 s _ hs).mono ?_; rintro e _ ⟨rfl, rfl⟩) | (go_at_call 188; refine (fourBytes_any _ _ h).mono ?_; rintro e _ ⟨rfl, X, rfl⟩))
  go_ret
  exact ⟨rfl, xt⟩

@[irreducible] def sealS (s : ByteArray) : ByteArray := if s.size ≤ 7996 then s ++ four (crcOf 0 s) else ⟨#[]⟩

set_option maxHeartbeats 800000 in
theorem implSeal_any (s : ByteArray) (w : World) (_ : s.size ≤ maxLen) :
    Calls Tryz.prog 108 #[.string s] w fun e w' => e = .returned (.string (sealS s)) ∧ Ext w w' := by
  by_cases h : s.size ≤ 7996
  · have hs : s.size ≤ 1048576 := by omega
    have h4 := four_size (crcOf 0 s)
    go_enter Tryz.func108, Tryz.ntmps108
    go_wp2_with ((go_at_call 159; refine (sumOf_any s _ hs).mono ?_; rintro e _ ⟨rfl, X, rfl⟩))
    go_ret
    exact ⟨ret_str (by unfold sealS; rw [if_pos h]), xt⟩
  · go_enter Tryz.func108, Tryz.ntmps108
    go_wp2
    go_ret
    exact ⟨ret_str (by unfold sealS; rw [if_neg h]), xt⟩

set_option maxHeartbeats 800000 in
theorem specSeal_any (s : ByteArray) (w : World) (_ : s.size ≤ maxLen) :
    Calls Tryz.prog 110 #[.string s] w fun e w' => e = .returned (.string (sealS s)) ∧ Ext w w' := by
  have h64 := crcOf_i64 s 0
  by_cases h : s.size ≤ 7996
  · have hs : s.size ≤ 1048576 := by omega
    have h4 := four_size (crcOf 0 s)
    go_enter Tryz.func110, Tryz.ntmps110
    go_wp2_with (first | (go_at_call 161; refine (l01Crc_any 0 s _ hs).mono ?_; rintro e _ ⟨rfl, rfl⟩) | (go_at_call 160; refine (l01Four_any _ _ h64).mono ?_; rintro e _ ⟨rfl, X, rfl⟩))
    go_ret
    exact ⟨ret_str (by unfold sealS; rw [if_pos h]), xt⟩
  · go_enter Tryz.func110, Tryz.ntmps110
    go_wp2
    go_ret
    exact ⟨ret_str (by unfold sealS; rw [if_neg h]), xt⟩


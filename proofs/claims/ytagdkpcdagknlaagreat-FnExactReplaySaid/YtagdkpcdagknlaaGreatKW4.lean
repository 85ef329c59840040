/- The walks of the check sum. -/
import Derived.Test.YtagdkpcdagknlaaGreatKBA
import Derived.Test.YtagdkpcdagknlaaGreatKW3
set_option maxRecDepth 100000
namespace Go.Proofs.YtagdkpcdagknlaaGreat
open Go.RowKit Go.Fin1

/-- One turn of the register. -/
def crcBit (r : Int) : Int := if r % 2 = 1 then bits .xor .u32 (r / 2) 3988292384 else r / 2
def crcBits : Nat → Int → Int
  | 0, r => r
  | n + 1, r => crcBits n (crcBit r)
def crcByte (r : Int) (c : UInt8) : Int := crcBits 8 (bits .xor .u32 r c.toNat)
def crcAll (r : Int) (l : List UInt8) : Int := l.foldl crcByte r
@[irreducible] def crcOf (crc : Int) (s : ByteArray) : Int := bits .xor .u32 (crcAll (bits .xor .u32 (crc % 4294967296) 4294967295) s.data.toList) 4294967295
theorem u32_bits_bd (op : BinOp) (x y : Int) : 0 ≤ bits op .u32 x y ∧ bits op .u32 x y ≤ 4294967295 := by
  unfold bits; rw [IntKind.wrap_u32]; omega
theorem xor_comm32 (x y : Int) : bits .xor .u32 x y = bits .xor .u32 y x := by
  unfold bits; simp only [BitVec.xor_comm]
theorem xor_max (x : Int) : bits .xor .u32 IntKind.u32.max x = bits .xor .u32 x 4294967295 := by
  rw [xor_comm32]; rfl
theorem and_one32 (x : Int) (h0 : 0 ≤ x) (h1 : x ≤ 4294967295) : bits .and .u32 x 1 = x % 2 := by
  rw [u32_and x 1 h0 (by omega) (by decide) (by decide)]
  simp only [show (1 : Int).toNat = 1 from rfl, Nat.and_one_is_mod]; omega
theorem take_snoc (s : ByteArray) (k : Nat) (h : k < s.size) : s.data.toList.take (k + 1) = s.data.toList.take k ++ [s[k]] := by
  rw [List.take_succ_eq_append_getElem (by simpa using h)]; rfl
theorem crcAll_snoc (r : Int) (s : ByteArray) (k : Nat) (h : k < s.size) : crcAll r (s.data.toList.take (k + 1)) = crcByte (crcAll r (s.data.toList.take k)) s[k] := by
  rw [take_snoc s k h]; simp [crcAll]
theorem crcAll_full (r : Int) (s : ByteArray) (k : Nat) (h : ¬ k < s.size) : crcAll r (s.data.toList.take k) = crcAll r s.data.toList := by
  rw [List.take_of_length_le (by simp; omega)]

set_option maxHeartbeats 800000 in
theorem sumMore_any (n : Int) (s : ByteArray) (w : World) (hs : s.size ≤ 1048576) :
    Calls Tryz.prog 189 #[.int .i64 n, .string s] w fun e w' => e = .returned (.int .i64 (crcOf n s)) ∧ w = w' := by
  have hb := u32_bits_bd .xor (n % 4294967296) 4294967295
  have H0 := Lib.hid (xor_max (n % 4294967296))
  go_enter Tryz.func189, Tryz.ntmps189
  go_wp2
  rw [H0.out]
  generalize hr : bits .xor .u32 (n % 4294967296) 4294967295 = r0 at hb
  have Hr := Lib.hid hr
  clear hr H0
  obtain ⟨hb0, hb1⟩ := hb
  go_loop [5, 13] (fun r i => ∃ k : Nat, k ≤ s.size ∧ i = .int .i64 k ∧ ∃ x : Int, r = .int .u32 x ∧ 0 ≤ x ∧ x ≤ 4294967295 ∧ Hid (x = crcAll r0 (s.data.toList.take k))) (fun _ i => s.size - (intOf i).toNat)
  case atStart => exact ⟨0, Nat.zero_le _, rfl, r0, rfl, hb0, hb1, Lib.hid (by simp [crcAll])⟩
  case round =>
    obtain ⟨k, hk, rfl, x, rfl, hx0, hx1, hx⟩ := hrel
    by_cases hlt : k < s.size
    · have hcb := u32_bits_bd .xor x s[k].toNat
      have hc : ((s[k].toNat : Int) % 4294967296) = s[k].toNat := by have := s[k].toNat_lt; omega
      go_wp2
      generalize hy : bits .xor .u32 x s[k].toNat = y at hcb
      have Hy := Lib.hid hy
      clear hy hc
      obtain ⟨hy0, hy1⟩ := hcb
      go_loop [5, 7, 22] (fun r _ i => ∃ j : Nat, j ≤ 8 ∧ i = .int .i64 j ∧ ∃ z : Int, r = .int .u32 z ∧ 0 ≤ z ∧ z ≤ 4294967295 ∧ Hid (crcBits (8 - j) z = crcBits 8 y)) (fun _ _ i => 8 - (intOf i).toNat)
      case atStart => exact ⟨0, by omega, rfl, y, rfl, hy0, hy1, Lib.hid rfl⟩
      case round =>
        obtain ⟨j, hj, rfl, z, rfl, hz0, hz1, hz⟩ := hrel
        by_cases hj8 : j < 8
        · have ha := and_one32 z hz0 hz1
          by_cases hodd : z % 2 = 1
          · have hb2 := u32_bits_bd .xor (z / 2) 3988292384
            have hB : (z % 2 == 1) = true := by simpa using hodd
            go_wp2
            exact ⟨⟨j + 1, by omega, by go_num, _, rfl, hb2.1, hb2.2, Lib.hid (by
              rw [← hz.out, show 8 - j = (8 - (j + 1)) + 1 from by omega, crcBits, crcBit, if_pos hodd])⟩, by simp [intOf]; omega⟩
          · have hB : (z % 2 == 1) = false := by simpa using hodd
            go_wp2
            exact ⟨⟨j + 1, by omega, by go_num, _, rfl, by omega, by omega, Lib.hid (by
              rw [← hz.out, show 8 - j = (8 - (j + 1)) + 1 from by omega, crcBits, crcBit, if_neg hodd])⟩, by simp [intOf]; omega⟩
        · have h8 : j = 8 := by omega
          have Hz : Hid (z = crcBits 8 y) := Lib.hid (by have := hz.out; rw [h8] at this; exact this)
          go_wp2
          exact ⟨⟨k + 1, by omega, by go_num, z, rfl, hz0, hz1, Lib.hid (by rw [crcAll_snoc r0 s k hlt, ← hx.out, crcByte, Hy.out]; exact Hz.out)⟩, by simp [intOf]; omega⟩
    · have hm := u32_bits_bd .xor IntKind.u32.max x
      go_wp2
      go_ret
      exact ⟨ret_int (by rw [xor_max, hx.out, crcAll_full r0 s k hlt, ← Hr.out, crcOf]), rfl⟩
set_option maxHeartbeats 800000 in
theorem l01Crc_any (n : Int) (s : ByteArray) (w : World) (hs : s.size ≤ 1048576) :
    Calls Tryz.prog 161 #[.int .i64 n, .string s] w fun e w' => e = .returned (.int .i64 (crcOf n s)) ∧ w = w' := by
  have hb := u32_bits_bd .xor (n % 4294967296) 4294967295
  go_enter Tryz.func161, Tryz.ntmps161
  go_wp2
  generalize hr : bits .xor .u32 (n % 4294967296) 4294967295 = r0 at hb
  have Hr := Lib.hid hr
  clear hr
  obtain ⟨hb0, hb1⟩ := hb
  go_loop [5, 6, 7] (fun r i _ => ∃ k : Nat, k ≤ s.size ∧ i = .int .i64 k ∧ ∃ x : Int, r = .int .u32 x ∧ 0 ≤ x ∧ x ≤ 4294967295 ∧ Hid (x = crcAll r0 (s.data.toList.take k))) (fun _ i _ => s.size - (intOf i).toNat)
  case atStart => exact ⟨0, Nat.zero_le _, rfl, r0, rfl, hb0, hb1, Lib.hid (by simp [crcAll])⟩
  case round =>
    obtain ⟨k, hk, rfl, x, rfl, hx0, hx1, hx⟩ := hrel
    by_cases hlt : k < s.size
    · have hcb := u32_bits_bd .xor x s[k].toNat
      have hc : ((s[k].toNat : Int) % 4294967296) = s[k].toNat := by have := s[k].toNat_lt; omega
      go_wp2
      generalize hy : bits .xor .u32 x s[k].toNat = y at hcb
      have Hy := Lib.hid hy
      clear hy hc
      obtain ⟨hy0, hy1⟩ := hcb
      go_loop [5, 7] (fun r i => ∃ j : Nat, j ≤ 8 ∧ i = .int .i64 j ∧ ∃ z : Int, r = .int .u32 z ∧ 0 ≤ z ∧ z ≤ 4294967295 ∧ Hid (crcBits (8 - j) z = crcBits 8 y)) (fun _ i => 8 - (intOf i).toNat)
      case atStart => exact ⟨0, by omega, rfl, y, rfl, hy0, hy1, Lib.hid rfl⟩
      case round =>
        obtain ⟨j, hj, rfl, z, rfl, hz0, hz1, hz⟩ := hrel
        by_cases hj8 : j < 8
        · have ha := and_one32 z hz0 hz1
          by_cases hodd : z % 2 = 1
          · have hb2 := u32_bits_bd .xor (z / 2) 3988292384
            have hB : (z % 2 == 1) = true := by simpa using hodd
            go_wp2
            exact ⟨⟨j + 1, by omega, by go_num, _, rfl, hb2.1, hb2.2, Lib.hid (by
              rw [← hz.out, show 8 - j = (8 - (j + 1)) + 1 from by omega, crcBits, crcBit, if_pos hodd])⟩, by simp [intOf]; omega⟩
          · have hB : (z % 2 == 1) = false := by simpa using hodd
            go_wp2
            exact ⟨⟨j + 1, by omega, by go_num, _, rfl, by omega, by omega, Lib.hid (by
              rw [← hz.out, show 8 - j = (8 - (j + 1)) + 1 from by omega, crcBits, crcBit, if_neg hodd])⟩, by simp [intOf]; omega⟩
        · have h8 : j = 8 := by omega
          have Hz : Hid (z = crcBits 8 y) := Lib.hid (by have := hz.out; rw [h8] at this; exact this)
          go_wp2
          exact ⟨⟨k + 1, by omega, by go_num, z, rfl, hz0, hz1, Lib.hid (by rw [crcAll_snoc r0 s k hlt, ← hx.out, crcByte, Hy.out]; exact Hz.out)⟩, by simp [intOf]; omega⟩
    · have hm := u32_bits_bd .xor x 4294967295
      go_wp2
      go_ret
      exact ⟨ret_int (by rw [hx.out, crcAll_full r0 s k hlt, ← Hr.out, crcOf]), rfl⟩
end Go.Proofs.YtagdkpcdagknlaaGreat

/- Plain mathematics of FnSeal: a byte that turns turns the sum. No program is in sight. -/
import Derived.Test.YtfkjdiaeblcimaaW9
set_option maxRecDepth 100000
namespace Go.Proofs.Ytfkjdiaeblcimaa
open Go.RowKit Go.Fin1
theorem nat_xor_cancel {a b c : Nat} (h : a ^^^ c = b ^^^ c) : a = b := by
  have : (a ^^^ c) ^^^ c = (b ^^^ c) ^^^ c := by rw [h]
  rwa [Nat.xor_assoc, Nat.xor_assoc, Nat.xor_self, Nat.xor_zero, Nat.xor_zero] at this
theorem xor32_right {a b c : Int} (a0 : 0 ≤ a) (a1 : a ≤ 4294967295) (b0 : 0 ≤ b) (b1 : b ≤ 4294967295) (c0 : 0 ≤ c) (c1 : c ≤ 4294967295) (h : bits .xor .u32 a c = bits .xor .u32 b c) : a = b := by
  rw [u32_xor a c a0 (by omega) c0 (by omega), u32_xor b c b0 (by omega) c0 (by omega)] at h
  have h2 : a.toNat ^^^ c.toNat = b.toNat ^^^ c.toNat := by omega
  have := nat_xor_cancel h2
  omega
theorem xor32_left {a b c : Int} (a0 : 0 ≤ a) (a1 : a ≤ 4294967295) (b0 : 0 ≤ b) (b1 : b ≤ 4294967295) (c0 : 0 ≤ c) (c1 : c ≤ 4294967295) (h : bits .xor .u32 c a = bits .xor .u32 c b) : a = b := by
  rw [u32_xor c a c0 (by omega) a0 (by omega), u32_xor c b c0 (by omega) b0 (by omega)] at h
  have h2 : c.toNat ^^^ a.toNat = c.toNat ^^^ b.toNat := by omega
  rw [Nat.xor_comm, Nat.xor_comm c.toNat] at h2
  have := nat_xor_cancel h2
  omega
theorem xor32_twice {a c : Int} (a0 : 0 ≤ a) (a1 : a ≤ 4294967295) (c0 : 0 ≤ c) (c1 : c ≤ 4294967295) : bits .xor .u32 (bits .xor .u32 a c) c = a := by
  have hb := u32_bits_bd .xor a c
  rw [u32_xor (bits .xor .u32 a c) c hb.1 (by omega) c0 (by omega), u32_xor a c a0 (by omega) c0 (by omega)]
  rw [Int.toNat_natCast, Nat.xor_assoc, Nat.xor_self, Nat.xor_zero]
  omega
theorem top_bit {a : Nat} (h : a < 2147483648) : 2147483648 ≤ a ^^^ 3988292384 := by
  have h1 : (a ^^^ 3988292384).testBit 31 = true := by
    rw [Nat.testBit_xor, Nat.testBit_lt_two_pow (show a < 2 ^ 31 from h)]; decide
  exact Nat.ge_two_pow_of_testBit h1
theorem crcBit_inj {a b : Int} (a0 : 0 ≤ a) (a1 : a ≤ 4294967295) (b0 : 0 ≤ b) (b1 : b ≤ 4294967295) (h : crcBit a = crcBit b) : a = b := by
  unfold crcBit at h
  have key : ∀ x : Int, 0 ≤ x → x ≤ 4294967295 → 2147483648 ≤ bits .xor .u32 (x / 2) 3988292384 := fun x h0 h1 => by
    rw [u32_xor (x / 2) 3988292384 (by omega) (by omega) (by decide) (by decide)]
    have := top_bit (a := (x / 2).toNat) (by omega)
    simp only [show (3988292384 : Int).toNat = 3988292384 from rfl]
    omega
  split at h <;> split at h
  · have := xor32_right (by omega) (by omega) (by omega) (by omega) (by decide) (by decide) h
    omega
  · have := key a a0 a1; omega
  · have := key b b0 b1; omega
  · omega
theorem crcBits_inj : ∀ n {a b : Int}, 0 ≤ a → a ≤ 4294967295 → 0 ≤ b → b ≤ 4294967295 → crcBits n a = crcBits n b → a = b
  | 0, _, _, _, _, _, _, h => h
  | n + 1, _, _, a0, a1, b0, b1, h => crcBit_inj a0 a1 b0 b1 (crcBits_inj n (crcBit_bd a0 a1).1 (crcBit_bd a0 a1).2 (crcBit_bd b0 b1).1 (crcBit_bd b0 b1).2 h)
theorem u8_le (c : UInt8) : (0 : Int) ≤ (c.toNat : Int) ∧ (c.toNat : Int) ≤ 4294967295 := by have := c.toNat_lt; omega
theorem crcByte_bd (r : Int) (c : UInt8) : 0 ≤ crcByte r c ∧ crcByte r c ≤ 4294967295 := crcBits_bd 8 (u32_bits_bd _ _ _).1 (u32_bits_bd _ _ _).2
theorem crcByte_reg {a b : Int} (a0 : 0 ≤ a) (a1 : a ≤ 4294967295) (b0 : 0 ≤ b) (b1 : b ≤ 4294967295) {c : UInt8} (h : crcByte a c = crcByte b c) : a = b :=
  xor32_right a0 a1 b0 b1 (u8_le c).1 (u8_le c).2 (crcBits_inj 8 (u32_bits_bd _ _ _).1 (u32_bits_bd _ _ _).2 (u32_bits_bd _ _ _).1 (u32_bits_bd _ _ _).2 h)
theorem crcByte_byte {r : Int} (r0 : 0 ≤ r) (r1 : r ≤ 4294967295) {c d : UInt8} (h : crcByte r c = crcByte r d) : c = d := by
  have := xor32_left (u8_le c).1 (u8_le c).2 (u8_le d).1 (u8_le d).2 r0 r1 (crcBits_inj 8 (u32_bits_bd _ _ _).1 (u32_bits_bd _ _ _).2 (u32_bits_bd _ _ _).1 (u32_bits_bd _ _ _).2 h)
  exact UInt8.toNat_inj.1 (by omega)
theorem crcAll_reg : ∀ (l : List UInt8) {a b : Int}, 0 ≤ a → a ≤ 4294967295 → 0 ≤ b → b ≤ 4294967295 → crcAll a l = crcAll b l → a = b
  | [], _, _, _, _, _, _, h => h
  | c :: l, _, _, a0, a1, b0, b1, h => crcByte_reg a0 a1 b0 b1 (crcAll_reg l (crcByte_bd _ c).1 (crcByte_bd _ c).2 (crcByte_bd _ c).1 (crcByte_bd _ c).2 h)
theorem crcAll_app (r : Int) (l m : List UInt8) : crcAll r (l ++ m) = crcAll (crcAll r l) m := by unfold crcAll; rw [List.foldl_append]
/-- A byte that turns turns the sum. -/
theorem crcAll_set : ∀ (l : List UInt8) {r : Int}, 0 ≤ r → r ≤ 4294967295 → ∀ (i : Nat) (hi : i < l.length) (x : UInt8), x ≠ l[i] → crcAll r (l.set i x) ≠ crcAll r l
  | c :: l, r, r0, r1, 0, _, x, hx, h => hx (crcByte_byte r0 r1 (crcAll_reg l (crcByte_bd _ _).1 (crcByte_bd _ _).2 (crcByte_bd _ _).1 (crcByte_bd _ _).2 h))
  | c :: l, r, r0, r1, i + 1, hi, x, hx, h => crcAll_set l (crcByte_bd r c).1 (crcByte_bd r c).2 i (by simpa using hi) x (by simpa using hx) h

theorem bytes_ext {a b : ByteArray} (h : a.data.toList = b.data.toList) : a = b := by
  obtain ⟨⟨x⟩⟩ := a; obtain ⟨⟨y⟩⟩ := b; simp at h; rw [h]
theorem toList_data (s : ByteArray) : s.toList = s.data.toList := by
  exact ByteArray.toList_eq s
theorem extract_data (s : ByteArray) (i j : Nat) : (s.extract i j).data.toList = (s.data.toList.drop i).take (j - i) := by
  simp [ByteArray.data_extract]
theorem four_inj {a b : Int} (a0 : 0 ≤ a) (a1 : a ≤ 4294967295) (b0 : 0 ≤ b) (b1 : b ≤ 4294967295) (h : four a = four b) : a = b := by
  unfold four fourL strOfNums at h
  have key : ∀ x y : Int, UInt8.ofNat (x % 256).toNat = UInt8.ofNat (y % 256).toNat → x % 256 = y % 256 := fun x y h => by
    have := congrArg UInt8.toNat h
    have hx : (UInt8.ofNat (x % 256).toNat).toNat = (x % 256).toNat := UInt8.toNat_ofNat_of_lt' (show (x % 256).toNat < 256 by omega)
    have hy : (UInt8.ofNat (y % 256).toNat).toNat = (y % 256).toNat := UInt8.toNat_ofNat_of_lt' (show (y % 256).toNat < 256 by omega)
    rw [hx, hy] at this
    omega
  simp only [List.map_cons, List.map_nil, ByteArray.mk.injEq, Array.mk.injEq, List.cons.injEq, and_true] at h
  obtain ⟨h1, h2, h3, h4⟩ := h
  have := key _ _ h1
  have := key _ _ h2
  have := key _ _ h3
  have := key _ _ h4
  omega
theorem crcOf_bd' (s : ByteArray) (n : Int) : 0 ≤ crcOf n s ∧ crcOf n s ≤ 4294967295 := by unfold crcOf; exact u32_bits_bd .xor _ _
/-- The sum of a text with a byte turned is another one. -/
theorem crcOf_set {s s' : ByteArray} {i : Nat} {x : UInt8} (hi : i < s.data.toList.length) (hx : x ≠ s.data.toList[i]) (h : s'.data.toList = s.data.toList.set i x) : crcOf 0 s' ≠ crcOf 0 s := by
  intro he
  unfold crcOf at he
  rw [h] at he
  have hb := u32_bits_bd .xor (0 % 4294967296) 4294967295
  have := xor32_right (crcAll_bd _ hb.1 hb.2).1 (crcAll_bd _ hb.1 hb.2).2 (crcAll_bd _ hb.1 hb.2).1 (crcAll_bd _ hb.1 hb.2).2 (by decide) (by decide) he
  exact crcAll_set _ hb.1 hb.2 i hi x hx this
/-- The sum goes on. -/
theorem crcOf_eq (n : Int) (s : ByteArray) : crcOf n s = bits .xor .u32 (crcAll (bits .xor .u32 (n % 4294967296) 4294967295) s.data.toList) 4294967295 := by unfold crcOf; rfl
theorem crcOf_more (t u : ByteArray) : crcOf (crcOf 0 t) u = crcOf 0 (t ++ u) := by
  have hb := u32_bits_bd .xor (0 % 4294967296) 4294967295
  have h1 := crcAll_bd t.data.toList hb.1 hb.2
  have h2 := crcOf_bd' t 0
  have e : crcOf 0 t % 4294967296 = crcOf 0 t := by omega
  have e2 : bits .xor .u32 (crcOf 0 t) 4294967295 = crcAll (bits .xor .u32 (0 % 4294967296) 4294967295) t.data.toList := by
    unfold crcOf; exact xor32_twice h1.1 h1.2 (by decide) (by decide)
  have l : crcOf (crcOf 0 t) u = bits .xor .u32 (crcAll (bits .xor .u32 (crcOf 0 t % 4294967296) 4294967295) u.data.toList) 4294967295 := crcOf_eq _ _
  have r : crcOf 0 (t ++ u) = bits .xor .u32 (crcAll (bits .xor .u32 (0 % 4294967296) 4294967295) (t ++ u).data.toList) 4294967295 := crcOf_eq _ _
  rw [l, r, e, e2]
  have : (t ++ u).data.toList = t.data.toList ++ u.data.toList := by simp
  rw [this, crcAll_app]
theorem seal_parts (t : ByteArray) (n : Int) : (t ++ four n).size = t.size + 4 ∧ (t ++ four n).data.toList = t.data.toList ++ (four n).data.toList := by
  constructor
  · rw [ByteArray.size_append, four_size]
  · simp
theorem unseal_good {t : ByteArray} (ht : t.size ≤ 7996) : unsealS (t ++ four (crcOf 0 t)) = ⟨t, 0, 0⟩ := by
  obtain ⟨h1, h2⟩ := seal_parts t (crcOf 0 t)
  have e1 : (t ++ four (crcOf 0 t)).extract 0 ((t ++ four (crcOf 0 t)).size - 4) = t := by
    apply bytes_ext; rw [extract_data, h2, h1]; simp
  have e2 : (t ++ four (crcOf 0 t)).extract ((t ++ four (crcOf 0 t)).size - 4) (t ++ four (crcOf 0 t)).size = four (crcOf 0 t) := by
    have hs := four_size (crcOf 0 t)
    have hl : (four (crcOf 0 t)).data.toList.length = 4 := by simpa using hs
    apply bytes_ext; rw [extract_data, h2, h1]; simp
    exact List.take_of_length_le (by omega)
  unfold unsealS
  rw [if_neg (by omega), if_neg (by omega), e1, e2, if_pos (by simp)]
theorem unseal_bad {t b : ByteArray} (ht : t.size ≤ 7996) {i : Nat} {x : UInt8} (hi : i < (t ++ four (crcOf 0 t)).data.toList.length) (hx : x ≠ (t ++ four (crcOf 0 t)).data.toList[i]) (hb : b.data.toList = (t ++ four (crcOf 0 t)).data.toList.set i x) : (unsealS b).c = 5 := by
  obtain ⟨h1, h2⟩ := seal_parts t (crcOf 0 t)
  have hbs : b.size = t.size + 4 := by
    have : b.data.toList.length = (t ++ four (crcOf 0 t)).data.toList.length := by rw [hb, List.length_set]
    simp at this; rw [four_size] at this; exact this
  have hl : (four (crcOf 0 t)).data.toList.length = 4 := by simpa using four_size (crcOf 0 t)
  have htl : t.data.toList.length = t.size := by simp
  unfold unsealS
  rw [if_neg (by omega), if_neg (by omega), if_neg]
  intro he
  rw [beq_iff_eq, toList_data, toList_data, extract_data, hbs] at he
  have e0 : ((b.extract 0 (t.size + 4 - 4)).data.toList) = (b.data.toList.take t.size) := by rw [extract_data]; simp
  by_cases hlt : i < t.size
  · have p1 : (b.extract 0 (t.size + 4 - 4)).data.toList = t.data.toList.set i x := by
      rw [e0, hb, h2, List.set_append_left _ _ (by omega), List.take_append_of_le_length (by simp), List.take_of_length_le (by simp)]
    have p2 : (b.data.toList.drop (t.size + 4 - 4)).take (t.size + 4 - (t.size + 4 - 4)) = (four (crcOf 0 t)).data.toList := by
      rw [hb, h2, List.set_append_left _ _ (by omega), show t.size + 4 - 4 = (t.data.toList.set i x).length from by simp, List.drop_left, List.take_of_length_le (by rw [hl]; simp)]
    have hx' : x ≠ t.data.toList[i]'(by omega) := by
      intro e; apply hx; rw [e]; simp only [h2]; rw [List.getElem_append_left]
    rw [p2] at he
    exact crcOf_set (by omega) hx' p1 (four_inj (crcOf_bd' _ _).1 (crcOf_bd' _ _).2 (crcOf_bd' _ _).1 (crcOf_bd' _ _).2 (bytes_ext he))
  · have p1 : b.extract 0 (t.size + 4 - 4) = t := by
      apply bytes_ext
      rw [e0, hb, h2, List.set_append_right _ _ (by omega), List.take_append_of_le_length (by simp), List.take_of_length_le (by simp)]
    have p2 : (b.data.toList.drop (t.size + 4 - 4)).take (t.size + 4 - (t.size + 4 - 4)) = (four (crcOf 0 t)).data.toList.set (i - t.size) x := by
      rw [hb, h2, List.set_append_right _ _ (by omega), htl, show t.size + 4 - 4 = t.data.toList.length from by simp, List.drop_left, List.take_of_length_le (by rw [List.length_set, hl]; simp)]
    rw [p1, p2] at he
    have hi4 : i - t.size < (four (crcOf 0 t)).data.toList.length := by
      have := hi; rw [h2, List.length_append, htl] at this; omega
    have := congrArg (fun l => l[i - t.size]?) he
    simp only [List.getElem?_set_self hi4, List.getElem?_eq_getElem hi4, Option.some.injEq] at this
    apply hx
    rw [← this]
    simp only [h2]
    rw [List.getElem_append_right (by omega)]
    simp [htl]
end Go.Proofs.Ytfkjdiaeblcimaa

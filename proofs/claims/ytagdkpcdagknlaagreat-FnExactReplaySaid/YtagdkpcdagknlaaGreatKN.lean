/- Plain mathematics of GetNum, GetText. No program is in sight. -/
import Derived.Test.YtagdkpcdagknlaaGreatKW3
set_option maxRecDepth 100000
namespace Go.Proofs.YtagdkpcdagknlaaGreat
open Go.RowKit

/-- A byte of a string, as a number (0 where there is none). -/
def byteAt (s : ByteArray) (i : Nat) : Int := if h : i < s.size then (s[i].toNat : Int) else 0
theorem byteAt_eq {s : ByteArray} {i : Nat} (h : i < s.size) : byteAt s i = (s[i].toNat : Int) := by simp [byteAt, h]
theorem byteAt_bd (s : ByteArray) (i : Nat) : 0 ≤ byteAt s i ∧ byteAt s i ≤ 255 := by
  unfold byteAt; split
  · have := s[i].toNat_lt; omega
  · omega
def unzig (u : Int) : Int := if u % 2 = 1 then -(u / 2) - 1 else u / 2
/-- What GetNum answers: the number, the place behind it, the code. -/
structure NumO where
  n : Int
  at_ : Int
  c : Int
def gn (s : ByteArray) (a : Nat) : Nat → Nat → Int → NumO
  | 0, _, _ => ⟨0, 0, 3⟩
  | f + 1, k, u =>
    if s.size ≤ a + k then ⟨0, 0, 4⟩
    else if k = 9 ∧ 1 < byteAt s (a + k) then ⟨0, 0, 3⟩
    else if 128 ≤ byteAt s (a + k) then gn s a f (k + 1) (u + byteAt s (a + k) % 128 * 2 ^ (7 * k))
    else if byteAt s (a + k) = 0 ∧ 0 < k then ⟨0, 0, 3⟩
    else ⟨unzig (u + byteAt s (a + k) % 128 * 2 ^ (7 * k)), (a + k + 1 : Nat), 0⟩
@[irreducible] def getNumG (s : ByteArray) (a : Nat) : NumO := gn s a 10 0 0
@[irreducible] def getNum (s : ByteArray) (at_ : Int) : NumO :=
  if 8000 < s.size then ⟨0, 0, 2⟩ else if at_ < 0 then ⟨0, 0, 1⟩ else if (s.size : Int) ≤ at_ then ⟨0, 0, 4⟩ else getNumG s at_.toNat
theorem pow7 (k : Nat) (h : k ≤ 9) : (0 : Int) < 2 ^ (7 * k) ∧ (2 : Int) ^ (7 * k) ≤ 9223372036854775808 := by
  have : k = 0 ∨ k = 1 ∨ k = 2 ∨ k = 3 ∨ k = 4 ∨ k = 5 ∨ k = 6 ∨ k = 7 ∨ k = 8 ∨ k = 9 := by omega
  rcases this with rfl | rfl | rfl | rfl | rfl | rfl | rfl | rfl | rfl | rfl <;> decide
theorem pow7s (k : Nat) : (2 : Int) ^ (7 * (k + 1)) = 128 * 2 ^ (7 * k) := by
  rw [show 7 * (k + 1) = 7 * k + 7 from by omega, Int.pow_add]; omega
theorem pow7n (k : Nat) (h : k ≤ 8) : (2 : Int) ^ (7 * k) ≤ 72057594037927936 := by
  have : k = 0 ∨ k = 1 ∨ k = 2 ∨ k = 3 ∨ k = 4 ∨ k = 5 ∨ k = 6 ∨ k = 7 ∨ k = 8 := by omega
  rcases this with rfl | rfl | rfl | rfl | rfl | rfl | rfl | rfl | rfl <;> decide
/-- The next digits stand above those that were read. -/
theorem or_join {u d : Int} {k : Nat} (hk : k ≤ 9) (h0 : 0 ≤ u) (h1 : u < 2 ^ (7 * k)) (d0 : 0 ≤ d) (d1 : d ≤ 127) (d9 : k = 9 → d ≤ 1) :
    bits .or .u64 u (d * 2 ^ (7 * k)) = u + d * 2 ^ (7 * k) ∧ 0 ≤ d * 2 ^ (7 * k) ∧ u + d * 2 ^ (7 * k) ≤ 18446744073709551615 ∧ d * 2 ^ (7 * k) ≤ 18446744073709551615 := by
  have hp := pow7 k hk
  have hd : 0 ≤ d * 2 ^ (7 * k) := Int.mul_nonneg d0 (by omega)
  have hle : u + d * 2 ^ (7 * k) ≤ 18446744073709551615 := by
    by_cases e : k = 9
    · have := d9 e
      subst e
      have : d = 0 ∨ d = 1 := by omega
      rcases this with rfl | rfl
      · simp at h1 ⊢; omega
      · simp at h1 ⊢; omega
    · have h8 := pow7n k (by omega)
      have : d * 2 ^ (7 * k) ≤ 127 * 2 ^ (7 * k) := Int.mul_le_mul_of_nonneg_right d1 (by omega)
      omega
  refine ⟨?_, hd, hle, by omega⟩
  rw [u64_or _ _ h0 (by omega) hd (by omega), Nat.or_comm]
  obtain ⟨x, hx⟩ : ∃ x : Nat, d = x := ⟨d.toNat, by omega⟩
  obtain ⟨y, hy⟩ : ∃ y : Nat, u = y := ⟨u.toNat, by omega⟩
  subst hx hy
  have e1 : ((x : Int) * 2 ^ (7 * k)).toNat = x * 2 ^ (7 * k) := by
    rw [show ((x : Int) * 2 ^ (7 * k)) = ((x * 2 ^ (7 * k) : Nat) : Int) from by push_cast; rfl]; exact Int.toNat_natCast _
  rw [e1, Int.toNat_natCast, nat_join (7 * k) _ _ (Nat.mul_mod_left _ _) (by exact_mod_cast h1)]
  push_cast; omega
theorem sum_lt {u d : Int} {k : Nat} (hk : k ≤ 8) (h1 : u < 2 ^ (7 * k)) (d1 : d ≤ 127) : u + d * 2 ^ (7 * k) < 2 ^ (7 * (k + 1)) := by
  rw [pow7s k]
  have hp := pow7 k (by omega)
  have : d * 2 ^ (7 * k) ≤ 127 * 2 ^ (7 * k) := Int.mul_le_mul_of_nonneg_right d1 (by omega)
  omega
theorem unzig_not {n : Int} (h0 : 0 ≤ n) (h1 : n ≤ 9223372036854775807) : bits .xor .i64 (-1) n = -n - 1 := by
  unfold bits
  change IntKind.i64.wrap (((BitVec.ofInt 64 (-1) ^^^ BitVec.ofInt 64 n : BitVec 64).toNat : Nat) : Int) = _
  rw [show BitVec.ofInt 64 (-1) = BitVec.allOnes 64 from by decide, BitVec.xor_comm, BitVec.xor_allOnes, BitVec.toNat_not]
  have : (BitVec.ofInt 64 n).toNat = n.toNat := by rw [BitVec.toNat_ofInt]; omega
  rw [this, IntKind.wrap_i64]
  omega
end Go.Proofs.YtagdkpcdagknlaaGreat

/- Plain mathematics of the bytes: integers as bytes, the check sum, labels. No program is in sight. -/
import Derived.Test.YtfkjdiaeblcimaaK
import Derived.Test.YtfkjdiaeblcimaaB
set_option maxRecDepth 100000
namespace Go.Proofs.Ytfkjdiaeblcimaa
open Go.RowKit

/-! ### integers as bytes -/
def zig (n : Int) : Int := if n < 0 then 2 * -(n + 1) + 1 else 2 * n
def putU : Nat → Int → List Int
  | 0, u => [u]
  | f + 1, u => if u < 128 then [u] else (u % 128 + 128) :: putU f (u / 128)
def lim : Nat → Int
  | 0 => 128
  | f + 1 => 128 * lim f
@[irreducible] def putNumL (n : Int) : List Int := putU 9 (zig n)
@[irreducible] def putNum (n : Int) : ByteArray := strOfNums (putNumL n)
theorem lim_pos : ∀ f, 128 ≤ lim f
  | 0 => by simp [lim]
  | f + 1 => by have := lim_pos f; simp only [lim]; omega
theorem lim9 : lim 9 = 1180591620717411303424 := by decide
theorem zig_bd {n : Int} (h : I64 n) : 0 ≤ zig n ∧ zig n ≤ 18446744073709551615 := by
  unfold I64 at h; unfold zig; split <;> omega
theorem putU_len : ∀ f u, (putU f u).length ≤ f + 1
  | 0, u => by simp [putU]
  | f + 1, u => by
    unfold putU; split
    · simp
    · have := putU_len f (u / 128); simp; omega
theorem putU_small {f : Nat} {u : Int} (h : u < 128) : putU f u = [u] := by cases f <;> simp [putU, h]
theorem putU_big {f : Nat} {u : Int} (h : ¬ u < 128) : putU (f + 1) u = (u % 128 + 128) :: putU f (u / 128) := by simp [putU, h]
theorem or128 (x : Int) : bits .or .u8 (IntKind.u8.wrap x) 128 = x % 128 + 128 := by
  have key : ∀ y : Fin 256, bits .or .u8 (y.val : Int) 128 = (y.val : Int) % 128 + 128 := by decide +kernel
  have h := key ⟨(x % 256).toNat, by omega⟩
  rw [IntKind.wrap_u8]
  simp only [show ((x % 256).toNat : Int) = x % 256 from by omega] at h
  rw [h]; omega
theorem or128' (x : Int) : bits .or .u8 (x % 256) 128 = x % 128 + 128 := by rw [← or128 x, IntKind.wrap_u8]
theorem byte128 (x : Int) : IntKind.u8.wrap (x % 128 + 128) = x % 128 + 128 := by rw [IntKind.wrap_u8]; omega
theorem byteSmall {x : Int} (h0 : 0 ≤ x) (h : x < 128) : IntKind.u8.wrap x = x := by rw [IntKind.wrap_u8]; omega
theorem xor_ones (w k : Nat) (h : k < 2 ^ w) : k ^^^ (2 ^ w - 1) = 2 ^ w - 1 - k := by
  have h1 := congrArg BitVec.toNat (BitVec.xor_allOnes (x := BitVec.ofNat w k))
  simp only [BitVec.toNat_xor, BitVec.toNat_ofNat, BitVec.toNat_allOnes, BitVec.toNat_not, Nat.mod_eq_of_lt h] at h1
  exact h1
theorem zig_bits {n : Int} (h : I64 n) : bits .xor .u64 (IntKind.u64.wrap (wrap64 (n * 2))) (IntKind.u64.wrap (n / 9223372036854775808)) = zig n := by
  unfold I64 at h
  have hw : ∀ m : Int, IntKind.u64.wrap m = m % 18446744073709551616 := fun m => by simp [IntKind.wrap, IntKind.bits, IntKind.signed]
  rw [hw, hw]
  by_cases hn : n < 0
  · have e1 : n / 9223372036854775808 = -1 := by omega
    have e2 : wrap64 (n * 2) % 18446744073709551616 = n * 2 + 18446744073709551616 := by unfold wrap64; omega
    rw [e1, e2, show (-1 : Int) % 18446744073709551616 = 18446744073709551615 from by decide, u64_xor _ _ (by omega) (by omega) (by decide) (by decide)]
    have e3 : ((n * 2 + 18446744073709551616).toNat ^^^ (18446744073709551615 : Int).toNat) = 18446744073709551615 - (n * 2 + 18446744073709551616).toNat := by
      generalize hk : (n * 2 + 18446744073709551616).toNat = k
      have hk' : k < 2 ^ 64 := by omega
      have : (18446744073709551615 : Int).toNat = 2 ^ 64 - 1 := by decide
      rw [this, xor_ones 64 k hk']
    rw [e3]; unfold zig; rw [if_pos hn]; omega
  · have e1 : n / 9223372036854775808 = 0 := by omega
    have e2 : wrap64 (n * 2) % 18446744073709551616 = n * 2 := by unfold wrap64; omega
    rw [e1, e2, show (0 : Int) % 18446744073709551616 = 0 from by decide, u64_xor _ _ (by omega) (by omega) (by decide) (by decide)]
    simp only [show (0 : Int).toNat = 0 from rfl, Nat.xor_zero]
    unfold zig; rw [if_neg hn]; omega

/-! ### labels -/
theorem wrap_toInt (v : BitVec 64) : IntKind.i64.wrap (v.toNat : Int) = v.toInt := by
  rw [IntKind.wrap_i64, BitVec.toInt_eq_toNat_cond]
  have := v.isLt
  split <;> omega
theorem ofInt_toInt {n : Int} (h : I64 n) : (BitVec.ofInt 64 n).toInt = n := by
  unfold I64 at h
  rw [BitVec.toInt_ofInt]
  simp only [Int.bmod_def]; split <;> omega
theorem bits_and64 (x y : Int) : bits .and .i64 x y = (BitVec.ofInt 64 x &&& BitVec.ofInt 64 y).toInt := wrap_toInt _
theorem bits_andNot64 (x y : Int) : bits .andNot .i64 x y = (BitVec.ofInt 64 x &&& ~~~ BitVec.ofInt 64 y).toInt := wrap_toInt _
theorem bv_below (x y : BitVec 64) : x &&& ~~~ y = 0#64 ↔ x &&& y = x := by
  constructor
  · intro h
    refine BitVec.eq_of_getLsbD_eq fun i hi => ?_
    have := congrArg (fun v => v.getLsbD i) h
    simp [hi] at this
    simp only [BitVec.getLsbD_and]
    cases hx : x.getLsbD i <;> cases hy : y.getLsbD i <;> simp_all
  · intro h
    refine BitVec.eq_of_getLsbD_eq fun i hi => ?_
    have := congrArg (fun v => v.getLsbD i) h
    simp at this
    simp only [BitVec.getLsbD_and, BitVec.getLsbD_not]
    cases hx : x.getLsbD i <;> cases hy : y.getLsbD i <;> simp_all
theorem andNot_and {b : Int} (d : Int) (h : I64 b) : (bits .andNot .i64 b d == 0) = (bits .and .i64 b d == b) := by
  rw [bits_and64, bits_andNot64, Bool.eq_iff_iff, beq_iff_eq, beq_iff_eq]
  have e0 : ∀ v : BitVec 64, v.toInt = 0 ↔ v = 0#64 := fun v => ⟨fun h => BitVec.eq_of_toInt_eq (by simpa using h), fun h => by subst h; rfl⟩
  rw [e0, bv_below]
  constructor
  · intro e; rw [e]; exact ofInt_toInt h
  · intro e; exact BitVec.eq_of_toInt_eq (by rw [e, ofInt_toInt h])
/-- The first label is dominated by the second. -/
def blw (a b : Lab) : Bool := decide (a.lv ≤ b.lv) && (bits .and .i64 a.st b.st == a.st)
def isIn (a b c : Int) : Bool := decide (b ≤ a) && decide (a ≤ c)
theorem isIn_iff {a b c : Int} : isIn a b c = true ↔ b ≤ a ∧ a ≤ c := by simp [isIn]
def labR (a : Lab) : Bool := isIn a.lv 0 3 && isIn a.st 0 7
def joinL (a b : Lab) : Lab := if labR a && labR b then ⟨max a.lv b.lv, bits .or .i64 a.st b.st⟩ else ⟨0, 0⟩
def meetL (a b : Lab) : Lab := if labR a && labR b then ⟨min a.lv b.lv, bits .and .i64 a.st b.st⟩ else ⟨0, 0⟩
def entR (e : Ent) : Bool := labR e.l && isIn e.a 0 100 && isIn e.b 0 100 && isIn e.c 0 100 &&
  (e.k == 1 || (e.k == 2 && e.c == 0) || (e.k == 3 && e.l.lv == 0 && e.l.st == 0 && e.a == 0 && e.b == 0 && e.c == 0))
end Go.Proofs.Ytfkjdiaeblcimaa

/- Plain mathematics of FnNums: what is put is got. No program is in sight. -/
import Derived.Test.YtfkjdiaeblcimaaX1
set_option maxRecDepth 100000
set_option linter.unusedVariables false
namespace Go.Proofs.Ytfkjdiaeblcimaa
open Go.RowKit Go.Fin1
theorem unzig_zig (n : Int) : unzig (zig n) = n := by unfold unzig zig; split <;> split <;> omega
/-- The bytes of a string from some place on are these numbers. -/
def Bytes (s : ByteArray) (a : Nat) (l : List Int) : Prop := ∀ (i : Nat) (hi : i < l.length), a + i < s.size ∧ byteAt s (a + i) = l[i]
theorem gn_put (s : ByteArray) (a : Nat) : ∀ (f k : Nat) (u v : Int), f + k = 9 → 0 ≤ v → v * 2 ^ (7 * k) ≤ 18446744073709551615 → (0 < k → 0 < v) → Bytes s (a + k) (putU f v) →
    gn s a (f + 1) k u = ⟨unzig (u + v * 2 ^ (7 * k)), (a + k + (putU f v).length : Nat), 0⟩
  | 0, k, u, v, hf, v0, v1, hk, hb => by
    obtain rfl : k = 9 := by omega
    have hv : v ≤ 1 := by simp at v1; omega
    obtain ⟨b1, b2⟩ := hb 0 (by simp [putU])
    simp [putU] at b2
    rw [Nat.add_zero] at b1
    unfold gn
    rw [if_neg (by omega), b2, if_neg (by omega), if_neg (by omega), if_neg (by have := hk (by omega); omega)]
    rw [show v % 128 = v from by omega]
    simp [putU]
  | f + 1, k, u, v, hf, v0, v1, hk, hb => by
    by_cases hv : v < 128
    · have e : putU (f + 1) v = [v] := by simp [putU, hv]
      rw [e] at hb ⊢
      obtain ⟨b1, b2⟩ := hb 0 (by simp)
      simp at b2
      rw [Nat.add_zero] at b1
      unfold gn
      rw [if_neg (by omega), b2, if_neg (by omega), if_neg (by omega), if_neg (by rintro ⟨h1, h2⟩; have := hk h2; omega)]
      rw [show v % 128 = v from by omega]
      simp
    · have e : putU (f + 1) v = (v % 128 + 128) :: putU f (v / 128) := by simp [putU, hv]
      rw [e] at hb ⊢
      obtain ⟨b1, b2⟩ := hb 0 (by simp)
      simp at b2
      rw [Nat.add_zero] at b1
      have hp := pow7 k (by omega)
      have hs : u + v % 128 * 2 ^ (7 * k) + v / 128 * 2 ^ (7 * (k + 1)) = u + v * 2 ^ (7 * k) := by
        rw [pow7s]
        have : v * 2 ^ (7 * k) = (128 * (v / 128) + v % 128) * 2 ^ (7 * k) := by congr 1; omega
        rw [this, Int.add_mul, Int.mul_comm 128 (v / 128), Int.mul_assoc]
        omega
      have hle : v / 128 * 2 ^ (7 * (k + 1)) ≤ 18446744073709551615 := by
        have h0 : 0 ≤ v % 128 * 2 ^ (7 * k) := Int.mul_nonneg (by omega) (by omega)
        omega
      have ih := gn_put s a f (k + 1) (u + v % 128 * 2 ^ (7 * k)) (v / 128) (by omega) (by omega) hle (fun _ => by omega) (fun i hi => by
        have := hb (i + 1) (by simpa using hi)
        rw [show a + k + (i + 1) = a + (k + 1) + i from by omega] at this
        simpa using this)
      rw [hs] at ih
      unfold gn
      rw [if_neg (by omega), b2, if_neg (by omega), if_pos (by omega), show (v % 128 + 128) % 128 = v % 128 from by omega, ih]
      simp only [List.length_cons]
      congr 2
      omega
theorem gn_cut (s : ByteArray) (a : Nat) : ∀ (f k : Nat) (u v : Int), f + k = 9 → 0 ≤ v → s.size + 1 = a + k + (putU f v).length → (∀ (i : Nat) (hi : i < (putU f v).length), i + 1 < (putU f v).length → byteAt s (a + k + i) = (putU f v)[i]) → (gn s a (f + 1) k u).c = 4
  | 0, k, u, v, hf, v0, hl, hb => by
    unfold gn
    rw [if_pos (by simp [putU] at hl; omega)]
  | f + 1, k, u, v, hf, v0, hl, hb => by
    by_cases hv : v < 128
    · have e : putU (f + 1) v = [v] := by simp [putU, hv]
      rw [e] at hl
      unfold gn
      rw [if_pos (by simp at hl; omega)]
    · have e : putU (f + 1) v = (v % 128 + 128) :: putU f (v / 128) := by simp [putU, hv]
      have hpos : 0 < (putU f (v / 128)).length := by cases f <;> simp [putU]; split <;> simp
      rw [e] at hl
      have b2 := hb 0 (by rw [e]; simp) (by rw [e]; simp; omega)
      simp only [e] at b2
      simp at b2 hl
      have ih := gn_cut s a f (k + 1) (u + v % 128 * 2 ^ (7 * k)) (v / 128) (by omega) (by omega) (by omega) (fun i hi hi2 => by
        have := hb (i + 1) (by rw [e]; simp; omega) (by rw [e]; simp; omega)
        simp only [e] at this
        rw [show a + k + (i + 1) = a + (k + 1) + i from by omega] at this
        simpa using this)
      unfold gn
      rw [if_neg (by omega), b2, if_neg (by omega), if_pos (by omega), show (v % 128 + 128) % 128 = v % 128 from by omega, ih]

def lim2 : Nat → Int
  | 0 => 256
  | f + 1 => 128 * lim2 f
theorem putU_bd : ∀ (f : Nat) (v : Int), 0 ≤ v → v < lim2 f → ∀ n ∈ putU f v, 0 ≤ n ∧ n ≤ 255
  | 0, v, v0, h, n, hn => by simp [putU] at hn; subst hn; simp [lim2] at h; omega
  | f + 1, v, v0, h, n, hn => by
    simp only [lim2] at h
    unfold putU at hn
    split at hn
    · simp at hn; omega
    · rcases List.mem_cons.1 hn with rfl | hn
      · omega
      · exact putU_bd f (v / 128) (by omega) (by omega) n hn
theorem putNumL_bd {n : Int} (h : I64 n) : ∀ x ∈ putNumL n, 0 ≤ x ∧ x ≤ 255 := by
  have := zig_bd h
  unfold putNumL
  exact putU_bd 9 (zig n) this.1 (by have e : lim2 9 = 2361183241434822606848 := by decide
                                     omega)
theorem putU_pos (f : Nat) (v : Int) : 0 < (putU f v).length := by cases f <;> simp [putU]; split <;> simp
theorem putNum_data (n : Int) : (putNum n).data.toList = (putNumL n).map fun n => UInt8.ofNat n.toNat := by unfold putNum strOfNums; simp
theorem putNum_sz (n : Int) : (putNum n).size = (putNumL n).length := by
  have := congrArg List.length (putNum_data n); simpa using this
theorem putNum_len (n : Int) : 1 ≤ (putNum n).size ∧ (putNum n).size ≤ 10 := by
  rw [putNum_sz]; unfold putNumL
  exact ⟨putU_pos _ _, putU_len 9 _⟩
theorem byteAt_list {s : ByteArray} {i : Nat} (h : i < s.size) : byteAt s i = ((s.data.toList[i]'(by simpa using h)).toNat : Int) := by
  rw [byteAt_eq h]; rfl
theorem bytes_at {s : ByteArray} {x z : List UInt8} {l : List Int} (hs : s.data.toList = x ++ l.map (fun n => UInt8.ofNat n.toNat) ++ z) (hl : ∀ n ∈ l, 0 ≤ n ∧ n ≤ 255) : Bytes s x.length l := by
  intro i hi
  have hsz : s.size = x.length + l.length + z.length := by
    have := congrArg List.length hs; simp at this; omega
  have hlt : x.length + i < s.size := by omega
  refine ⟨hlt, ?_⟩
  rw [byteAt_list hlt]
  simp only [hs]
  rw [List.getElem_append_left (by simp; omega), List.getElem_append_right (by omega)]
  simp only [Nat.add_sub_cancel_left, List.getElem_map]
  have := hl l[i] (List.getElem_mem hi)
  have hx : (UInt8.ofNat l[i].toNat).toNat = l[i].toNat := UInt8.toNat_ofNat_of_lt' (show l[i].toNat < 256 by omega)
  rw [hx]; omega
theorem getNum_put {s : ByteArray} {x z : List UInt8} {n : Int} (hn : I64 n) (hs : s.data.toList = x ++ (putNum n).data.toList ++ z) (h8 : s.size ≤ 8000) : getNum s x.length = ⟨n, ((x.length + (putNum n).size : Nat) : Int), 0⟩ := by
  rw [putNum_data] at hs
  have hb := bytes_at hs (putNumL_bd hn)
  have hz := zig_bd hn
  have hl := putNum_sz n
  have hp := (putNum_len n).1
  have hlt := (hb 0 (by omega)).1
  unfold getNum
  rw [if_neg (by omega), if_neg (by omega), if_neg (by omega)]
  unfold getNumG
  rw [Int.toNat_natCast]
  have := gn_put s x.length 9 0 0 (zig n) rfl hz.1 (by simpa using hz.2) (fun h => absurd h (Nat.lt_irrefl _)) (by unfold putNumL at hb; simpa using hb)
  rw [this, hl]
  simp [unzig_zig, putNumL]
theorem getNum_cut {s : ByteArray} {n : Int} (hn : I64 n) (hs : s.data.toList = (putNum n).data.toList.take ((putNum n).size - 1)) : (getNum s 0).c = 4 := by
  have hz := zig_bd hn
  have hl := putNum_sz n
  have hp := putNum_len n
  have hsz : s.size = (putNum n).size - 1 := by
    have := congrArg List.length hs; simp at this; omega
  unfold getNum
  rw [if_neg (by omega), if_neg (by omega)]
  by_cases h0 : (s.size : Int) ≤ 0
  · rw [if_pos h0]
  · rw [if_neg h0]
    unfold getNumG
    refine gn_cut s 0 9 0 0 (zig n) rfl hz.1 ?_ ?_
    · have : (putNumL n).length = (putU 9 (zig n)).length := by unfold putNumL; rfl
      omega
    · intro i hi hi2
      have e : (putNumL n) = (putU 9 (zig n)) := by unfold putNumL; rfl
      have hlt : i < s.size := by rw [hsz, hl, e]; omega
      simp only [Nat.zero_add, Nat.add_zero]
      rw [byteAt_list hlt]
      simp only [hs, putNum_data, List.getElem_take, List.getElem_map, e]
      have := putNumL_bd hn _ (by rw [e]; exact List.getElem_mem hi)
      have hx : (UInt8.ofNat (putU 9 (zig n))[i].toNat).toNat = (putU 9 (zig n))[i].toNat := UInt8.toNat_ofNat_of_lt' (show (putU 9 (zig n))[i].toNat < 256 by omega)
      rw [hx]; omega

theorem putText_some {u : ByteArray} (h : u.size ≤ 8000) : putText u = putNum u.size ++ u := by unfold putText; rw [if_pos h]
theorem getText_put {s u : ByteArray} {x : List UInt8} (hu : u.size ≤ 8000) (hs : s.data.toList = x ++ (putText u).data.toList) (h8 : s.size ≤ 8000) : getText s x.length = ⟨u, ((x.length + (putText u).size : Nat) : Int), 0⟩ := by
  have hp := putText_some hu
  have hp2 : (putText u).data.toList = (putNum u.size).data.toList ++ u.data.toList := by rw [hp]; simp
  have hp3 : (putText u).size = (putNum u.size).size + u.size := by rw [hp, ByteArray.size_append]
  have hg := getNum_put (s := s) (x := x) (z := u.data.toList) (n := u.size) (by unfold I64; omega) (by rw [hs, hp2, List.append_assoc]) h8
  have hsz : s.size = x.length + ((putNum u.size).size + u.size) := by
    have := congrArg List.length hs; simp [hp3] at this; omega
  unfold getText
  rw [hg]
  simp only
  rw [if_neg (by decide), if_neg (by omega), if_neg (by omega)]
  have e : s.extract (((x.length + (putNum u.size).size : Nat) : Int)).toNat ((((x.length + (putNum u.size).size : Nat) : Int)).toNat + ((u.size : Nat) : Int).toNat) = u := by
    apply bytes_ext
    rw [extract_data, Int.toNat_natCast, Int.toNat_natCast, hs, hp2, ← List.append_assoc, show x.length + (putNum u.size).size = (x ++ (putNum u.size).data.toList).length from by simp, List.drop_left, List.take_of_length_le (by simp)]
  rw [e, hp3]
  congr 1
  omega
theorem getText_cut {s u : ByteArray} (hu : u.size ≤ 8000) (hs : s.data.toList = (putText u).data.toList.take ((putText u).size - 1)) (h8 : s.size ≤ 8000) : (getText s 0).c = 4 := by
  have hp := putText_some hu
  have hp2 : (putText u).data.toList = (putNum u.size).data.toList ++ u.data.toList := by rw [hp]; simp
  have hp3 : (putText u).size = (putNum u.size).size + u.size := by rw [hp, ByteArray.size_append]
  have hl := putNum_len u.size
  have hsz : s.size = (putText u).size - 1 := by
    have := congrArg List.length hs; simp at this; omega
  rcases Nat.eq_zero_or_pos u.size with h0 | h0
  · have hg := getNum_cut (s := s) (n := u.size) (by unfold I64; omega) (by
      rw [hs, hp2, hp3, h0, Nat.add_zero, List.take_append_of_le_length (by simp)])
    unfold getText
    rw [if_pos (by rw [hg]; decide), hg]
  · have hg := getNum_put (s := s) (x := []) (z := u.data.toList.take (u.size - 1)) (n := u.size) (by unfold I64; omega) (by
      rw [hs, hp2, hp3, List.take_append, List.take_of_length_le (by simp; omega)]
      simp
      congr 1
      omega) h8
    simp only [List.length_nil] at hg
    unfold getText
    rw [show ((0 : Nat) : Int) = 0 from rfl] at hg
    rw [hg]
    simp only
    rw [if_neg (by decide), if_neg (by omega), if_pos (by omega)]
end Go.Proofs.Ytfkjdiaeblcimaa

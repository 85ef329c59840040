/- The walks of NameRight and PutText. -/
import Derived.Test.YtfkjdiaeblcimaaW1
set_option maxRecDepth 100000
namespace Go.Proofs.Ytfkjdiaeblcimaa
open Go.RowKit Go.Fin1

def lwc (c : UInt8) : Bool := decide (97 ≤ c.toNat) && decide (c.toNat ≤ 122)
def nmc (c : UInt8) : Bool := lwc c || (decide (48 ≤ c.toNat) && decide (c.toNat ≤ 57)) || (decide (95 ≤ c.toNat) && decide (c.toNat ≤ 95))
theorem lwc_iff {c : UInt8} : lwc c = true ↔ 97 ≤ (c.toNat : Int) ∧ (c.toNat : Int) ≤ 122 := by
  unfold lwc; rw [Bool.and_eq_true, decide_eq_true_eq, decide_eq_true_eq]; omega
theorem lwc_no {c : UInt8} (h : (c.toNat : Int) < 97 ∨ 122 < (c.toNat : Int)) : lwc c = false := by
  cases h' : lwc c
  · rfl
  · have := lwc_iff.1 h'; omega
theorem nmc_iff {c : UInt8} : nmc c = true ↔ (97 ≤ (c.toNat : Int) ∧ (c.toNat : Int) ≤ 122) ∨ (48 ≤ (c.toNat : Int) ∧ (c.toNat : Int) ≤ 57) ∨ (95 ≤ (c.toNat : Int) ∧ (c.toNat : Int) ≤ 95) := by
  unfold nmc; rw [Bool.or_eq_true, Bool.or_eq_true, lwc_iff, Bool.and_eq_true, Bool.and_eq_true, decide_eq_true_eq, decide_eq_true_eq, decide_eq_true_eq, decide_eq_true_eq]; omega
theorem nmc_no {c : UInt8} (h : ¬ ((97 ≤ (c.toNat : Int) ∧ (c.toNat : Int) ≤ 122) ∨ (48 ≤ (c.toNat : Int) ∧ (c.toNat : Int) ≤ 57) ∨ (95 ≤ (c.toNat : Int) ∧ (c.toNat : Int) ≤ 95))) : nmc c = false := by
  cases h' : nmc c
  · rfl
  · exact absurd (nmc_iff.1 h') h
theorem nm_cases (d : Int) : (97 ≤ d ∧ d ≤ 122 ∧ decide (d ≤ 122) = true) ∨ (48 ≤ d ∧ d ≤ 57 ∧ decide (d ≤ 57) = true) ∨ (95 ≤ d ∧ d ≤ 95 ∧ decide (d ≤ 57) = false ∧ (d == 95) = true) ∨
    (d < 48 ∧ (d == 95) = false) ∨ (57 < d ∧ d < 97 ∧ d ≠ 95 ∧ decide (d ≤ 57) = false ∧ (d == 95) = false) ∨ (122 < d ∧ decide (d ≤ 122) = false ∧ decide (d ≤ 57) = false ∧ (d == 95) = false) := by
  simp only [decide_eq_true_eq, decide_eq_false_iff_not, beq_iff_eq, beq_eq_false_iff_ne]; omega
def nameL : List UInt8 → Bool
  | [] => false
  | c :: l => lwc c && l.all nmc
@[irreducible] def nameR (s : ByteArray) : Bool := decide (s.size ≤ 20) && nameL s.data.toList
theorem nameL_of (s : ByteArray) (h0 : 0 < s.size) : nameL s.data.toList = (lwc s[0] && s.data.toList.all nmc) := by
  obtain ⟨⟨l⟩⟩ := s
  cases l with
  | nil => exact absurd h0 (Nat.lt_irrefl 0)
  | cons c l =>
    have : (ByteArray.mk ⟨c :: l⟩)[0] = c := rfl
    rw [this]
    show (lwc c && l.all nmc) = (lwc c && (nmc c && l.all nmc))
    cases hc : lwc c
    · rfl
    · simp [nmc, hc]
theorem nameR_short (s : ByteArray) (h : ¬ 0 < s.size) : nameR s = false := by
  have : s.data.toList = [] := List.eq_nil_of_length_eq_zero (by have := Nat.eq_zero_of_not_pos h; simpa using this)
  unfold nameR; simp [ this, nameL]
theorem nameR_long (s : ByteArray) (h : 20 < s.size) : nameR s = false := by
  unfold nameR; rw [decide_eq_false (by omega)]; rfl
theorem nameR_first (s : ByteArray) (h0 : 0 < s.size) (h : lwc s[0] = false) : nameR s = false := by unfold nameR; simp [ nameL_of s h0, h]
theorem nameR_bad (s : ByteArray) (k : Nat) (hk : k < s.size) (h : nmc s[k] = false) : nameR s = false := by
  have : s.data.toList.all nmc = false := by
    rw [List.all_eq_false]
    exact ⟨s[k], by show s.data[k] ∈ _; simp, by simp [h]⟩
  have h0 : 0 < s.size := by omega
  unfold nameR; rw [nameL_of s h0, this]; simp
theorem nameR_good (s : ByteArray) (h0 : 0 < s.size) (h20 : s.size ≤ 20) (hf : lwc s[0] = true) (h : ∀ j (hj : j < s.size), nmc s[j] = true) : nameR s = true := by
  have : s.data.toList.all nmc = true := by
    rw [List.all_eq_true]
    intro c hc
    obtain ⟨j, hj, rfl⟩ := List.getElem_of_mem hc
    exact h j (by simpa using hj)
  unfold nameR; simp [ nameL_of s h0, this, hf, h20]


/-! ### PutText -/
theorem size_strOfNums (l : List Int) : (strOfNums l).size = l.length := strOfNums_size l
theorem putNum_size (n : Int) : (putNum n).size ≤ 10 := by
  unfold putNum putNumL; rw [strOfNums_size]; exact putU_len 9 _
@[irreducible] def putText (s : ByteArray) : ByteArray := if s.size ≤ 8000 then putNum s.size ++ s else ⟨#[]⟩
set_option maxHeartbeats 400000 in
theorem isLongText_any (s : ByteArray) (w : World) :
    Calls Try.prog 145 #[.string s] w fun e w' => e = .returned (.bool (decide (8000 < (s.size : Int)))) ∧ w = w' := by
  go_enter Try.func145, Try.ntmps145
  go_wp2
  go_ret
  exact ⟨rfl, rfl⟩
set_option maxHeartbeats 400000 in
theorem implPutText_any (s : ByteArray) (w : World) (hs : s.size ≤ maxLen) :
    Calls Try.prog 53 #[.string s] w fun e w' => e = .returned (.string (putText s)) ∧ Ext w w' := by
  have h64 : I64 (s.size : Int) := by unfold maxLen at hs; unfold I64; omega
  have hz := putNum_size s.size
  clear hs
  by_cases h : s.size ≤ 8000
  · go_enter Try.func53, Try.ntmps53
    go_wp2_with (first | (go_at_call 145; refine (isLongText_any s _).mono ?_; rintro e _ ⟨rfl, rfl⟩) | (go_at_call 49; refine (implPutNum_any _ h64 _).mono ?_; rintro e _ ⟨rfl, X, rfl⟩))
    go_ret
    exact ⟨ret_str (by rw [putText, if_pos h]), (by repeat (first | exact Ext.refl _ | apply Ext.plus | apply Ext.alloc | apply Ext.drew))⟩
  · go_enter Try.func53, Try.ntmps53
    go_wp2_with (first | (go_at_call 145; refine (isLongText_any s _).mono ?_; rintro e _ ⟨rfl, rfl⟩) | (go_at_call 49; refine (implPutNum_any _ h64 _).mono ?_; rintro e _ ⟨rfl, X, rfl⟩))
    go_ret
    exact ⟨ret_str (by rw [putText, if_neg h]), (by repeat (first | exact Ext.refl _ | apply Ext.plus | apply Ext.alloc | apply Ext.drew))⟩
set_option maxHeartbeats 400000 in
theorem specPutText_any (s : ByteArray) (w : World) (hs : s.size ≤ maxLen) :
    Calls Try.prog 54 #[.string s] w fun e w' => e = .returned (.string (putText s)) ∧ Ext w w' := by
  have h64 : I64 (s.size : Int) := by unfold maxLen at hs; unfold I64; omega
  have hz := putNum_size s.size
  clear hs
  by_cases h : s.size ≤ 8000
  · go_enter Try.func54, Try.ntmps54
    go_wp2_with (first | (go_at_call 50; refine (specPutNum_any _ h64 _).mono ?_; rintro e _ ⟨rfl, X, rfl⟩))
    go_ret
    exact ⟨ret_str (by rw [putText, if_pos h]), (by repeat (first | exact Ext.refl _ | apply Ext.plus | apply Ext.alloc | apply Ext.drew))⟩
  · go_enter Try.func54, Try.ntmps54
    go_wp2_with (first | (go_at_call 50; refine (specPutNum_any _ h64 _).mono ?_; rintro e _ ⟨rfl, X, rfl⟩))
    go_ret
    exact ⟨ret_str (by rw [putText, if_neg h]), (by repeat (first | exact Ext.refl _ | apply Ext.plus | apply Ext.alloc | apply Ext.drew))⟩
end Go.Proofs.Ytfkjdiaeblcimaa

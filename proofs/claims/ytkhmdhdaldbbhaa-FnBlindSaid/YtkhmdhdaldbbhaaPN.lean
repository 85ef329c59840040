/- putNums: numbers behind one another. -/
import Derived.Test.YtkhmdhdaldbbhaaW1
import Derived.Test.YtkhmdhdaldbbhaaBA
import Derived.Test.YtkhmdhdaldbbhaaBG
set_option maxRecDepth 100000
namespace Go.Proofs.Ytkhmdhdaldbbhaa
open Go.RowKit Go.Fin1

theorem putNum_size (n : Int) : (putNum n).size ≤ 10 := by
  unfold putNum putNumL; rw [strOfNums_size]; exact putU_len 9 _
/-- Numbers behind one another. -/
def numsS (l : List Int) : ByteArray := l.foldl (fun t n => t ++ putNum n) ⟨#[]⟩
theorem numsS_snoc (l : List Int) (n : Int) : numsS (l ++ [n]) = numsS l ++ putNum n := by simp [numsS]
theorem numsS_take {l : List Int} {k : Nat} (h : k < l.length) : numsS (l.take (k + 1)) = numsS (l.take k) ++ putNum l[k] := by
  rw [List.take_succ_eq_append_getElem h, numsS_snoc]
theorem numsS_size : ∀ (l : List Int) (k : Nat), k ≤ l.length → (numsS (l.take k)).size ≤ 10 * k
  | _, 0, _ => by show (ByteArray.mk #[]).size ≤ 0; decide
  | l, k + 1, h => by
    rw [numsS_take (by omega), ByteArray.size_append]
    have := numsS_size l k (by omega)
    have := putNum_size l[k]
    omega

set_option maxHeartbeats 800000 in
theorem putNums_any (v : Value) (l : List Int) (w : World) (h : SlR w 1 rInt v l) (hl : l.length ≤ 1048576) :
    Calls Try.prog 57 #[v] w fun e w' => e = .returned (.string (numsS l)) ∧ Ext w w' := by
  obtain ⟨a, cap, rfl⟩ := h.len
  have HS := Lib.hid h
  clear h
  go_enter Try.func57, Try.ntmps57
  go_wp2
  go_loopw [8, 3, 5] (fun i t _ wr => ∃ k : Nat, k ≤ l.length ∧ i = .int .i64 k ∧ t = .string (numsS (l.take k)) ∧ Ext w wr) (fun i _ _ _ => l.length - (intOf i).toNat)
  case atStart => exact ⟨0, Nat.zero_le _, rfl, rfl, (by repeat (first | exact Ext.refl _ | apply Ext.plus | apply Ext.alloc | apply Ext.drew))⟩
  case round =>
    obtain ⟨k, hk, rfl, rfl, ⟨X, rfl⟩⟩ := hrel
    by_cases hlt : k < l.length
    · obtain ⟨b, off, rfl⟩ := slr_some HS.out hlt
      obtain ⟨ho, hok, h0⟩ := int_at HS.out hlt
      have hz1 := numsS_size l k hk
      have hz2 := putNum_size l[k]
      have hn := numsS_take hlt
      go_wp2_with ((go_at_call 55; refine (implPutNum_any _ hok _).mono ?_; rintro e _ ⟨rfl, X, rfl⟩))
      exact ⟨⟨k + 1, by omega, by go_num, by rw [hn], (by repeat (first | exact Ext.refl _ | apply Ext.plus | apply Ext.alloc | apply Ext.drew))⟩, by simp [intOf]; omega⟩
    · go_wp2
      go_ret
      exact ⟨ret_str (by rw [show k = l.length by omega, List.take_length]), (by repeat (first | exact Ext.refl _ | apply Ext.plus | apply Ext.alloc | apply Ext.drew))⟩
end Go.Proofs.Ytkhmdhdaldbbhaa

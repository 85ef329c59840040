/- Plain maths of FnJob. -/
import Derived.Test.YtkhmdhdaldbbhaaKCC
import Derived.Test.YtkhmdhdaldbbhaaKQJ
set_option maxRecDepth 100000
set_option linter.unusedVariables false
namespace Go.Proofs.Ytkhmdhdaldbbhaa
open Go.RowKit Go.Fin1
theorem and_le7 : ∀ i j : Fin 8, bits .and .i64 (i.val : Int) (j.val : Int) = (i.val : Int) → i.val ≤ j.val := by decide +kernel
/-- Who is below is ahead of who is above. -/
theorem blw_ahead {a b : Jb} (ha : labR a.l = true) (hb : labR b.l = true) (hne : sameL a.l b.l = false) (h : blw a.l b.l = true) : aheadJ a b = true := by
  rw [aheadJ_iff]
  unfold blw at h
  rw [Bool.and_eq_true, decide_eq_true_eq, beq_iff_eq] at h
  unfold labR at ha hb
  rw [Bool.and_eq_true, isIn_iff, isIn_iff] at ha hb
  have key := and_le7 ⟨a.l.st.toNat, by omega⟩ ⟨b.l.st.toNat, by omega⟩
  simp only [Int.toNat_of_nonneg ha.2.1, Int.toNat_of_nonneg hb.2.1] at key
  have h2 := key h.2
  have h3 : ¬ (a.l.lv = b.l.lv ∧ a.l.st = b.l.st) := fun ⟨e1, e2⟩ => by
    unfold sameL at hne; rw [decide_eq_true e1, decide_eq_true e2] at hne; cases hne
  omega
/-- Of two jobs that are not one just one is ahead. -/
theorem ahead_tot {a b : Jb} (h : (sameL a.l b.l && decide (a.id = b.id)) = false) : aheadJ a b = !aheadJ b a := by
  have h3 : ¬ ((a.l.lv = b.l.lv ∧ a.l.st = b.l.st) ∧ a.id = b.id) := fun ⟨⟨e1, e2⟩, e3⟩ => by
    unfold sameL at h; rw [decide_eq_true e1, decide_eq_true e2, decide_eq_true e3] at h; cases h
  have i1 := @aheadJ_iff a b
  have i2 := @aheadJ_iff b a
  cases q1 : aheadJ a b <;> cases q2 : aheadJ b a <;> simp only [q1, q2, Bool.false_eq_true, false_iff, true_iff] at i1 i2 <;> first | rfl | (exfalso; omega)
end Go.Proofs.Ytkhmdhdaldbbhaa

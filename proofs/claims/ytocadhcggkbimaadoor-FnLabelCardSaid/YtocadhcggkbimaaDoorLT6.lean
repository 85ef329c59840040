/- Plain maths of FnLabel: the join is the least above both, the meet the greatest below both. -/
import Derived.Test.YtocadhcggkbimaaDoorLT1
set_option maxRecDepth 100000
set_option linter.unusedVariables false
namespace Go.Proofs.YtocadhcggkbimaaDoor
open Go.RowKit Go.Fin1
theorem st_two : ∀ m, m < 8 → ∀ n, n < 8 → (bits .and .i64 (m : Nat) (bits .or .i64 (m : Nat) (n : Nat)) == (m : Nat)) = true ∧ (bits .and .i64 (n : Nat) (bits .or .i64 (m : Nat) (n : Nat)) == (n : Nat)) = true ∧
    (bits .and .i64 (bits .and .i64 (m : Nat) (n : Nat)) (m : Nat) == bits .and .i64 (m : Nat) (n : Nat)) = true ∧ (bits .and .i64 (bits .and .i64 (m : Nat) (n : Nat)) (n : Nat) == bits .and .i64 (m : Nat) (n : Nat)) = true ∧
    (bits .and .i64 (m : Nat) (n : Nat) == (m : Nat)) = (bits .or .i64 (m : Nat) (n : Nat) == (n : Nat)) ∧ isIn (bits .or .i64 (m : Nat) (n : Nat)) 0 7 = true ∧ isIn (bits .and .i64 (m : Nat) (n : Nat)) 0 7 = true := by decide +kernel
theorem st_three : ∀ m, m < 8 → ∀ n, n < 8 → ∀ r, r < 8 → (bits .and .i64 (bits .or .i64 (m : Nat) (n : Nat)) (r : Nat) == bits .or .i64 (m : Nat) (n : Nat)) = ((bits .and .i64 (m : Nat) (r : Nat) == (m : Nat)) && (bits .and .i64 (n : Nat) (r : Nat) == (n : Nat))) ∧
    (bits .and .i64 (r : Nat) (bits .and .i64 (m : Nat) (n : Nat)) == (r : Nat)) = ((bits .and .i64 (r : Nat) (m : Nat) == (r : Nat)) && (bits .and .i64 (r : Nat) (n : Nat) == (r : Nat))) := by decide +kernel
theorem lv_max (a b c : Int) : decide (max a b ≤ c) = (decide (a ≤ c) && decide (b ≤ c)) := by rw [Bool.eq_iff_iff]; simp only [Bool.and_eq_true, decide_eq_true_eq]; omega
theorem lv_min (a b c : Int) : decide (c ≤ min a b) = (decide (c ≤ a) && decide (c ≤ b)) := by rw [Bool.eq_iff_iff]; simp only [Bool.and_eq_true, decide_eq_true_eq]; omega
theorem lat {a b : Lab} (ha : labR a = true) (hb : labR b = true) : labR (joinL a b) = true ∧ labR (meetL a b) = true ∧ belowL a (joinL a b) = true ∧ belowL b (joinL a b) = true ∧ belowL (meetL a b) a = true ∧ belowL (meetL a b) b = true ∧
    belowL a b = (decide ((joinL a b).lv = b.lv) && decide ((joinL a b).st = b.st)) := by
  have hj : joinL a b = ⟨max a.lv b.lv, bits .or .i64 a.st b.st⟩ := by unfold joinL; rw [ha, hb]; rfl
  have hm : meetL a b = ⟨min a.lv b.lv, bits .and .i64 a.st b.st⟩ := by unfold meetL; rw [ha, hb]; rfl
  obtain ⟨n1, m1, rfl, hn1, hm1⟩ := labR_at ha
  obtain ⟨n2, m2, rfl, hn2, hm2⟩ := labR_at hb
  obtain ⟨s1, s2, s3, s4, s5, s6, s7⟩ := st_two m1 hm1 m2 hm2
  have rj : labR (joinL ⟨n1, m1⟩ ⟨n2, m2⟩) = true := by rw [hj]; unfold labR; rw [s6, Bool.and_true, isIn_iff]; dsimp only; omega
  have rm : labR (meetL ⟨n1, m1⟩ ⟨n2, m2⟩) = true := by rw [hm]; unfold labR; rw [s7, Bool.and_true, isIn_iff]; dsimp only; omega
  refine ⟨rj, rm, ?_, ?_, ?_, ?_, ?_⟩
  · unfold belowL; rw [ha, rj, hj]; unfold blw; rw [s1, decide_eq_true (by dsimp only; omega)]; rfl
  · unfold belowL; rw [hb, rj, hj]; unfold blw; rw [s2, decide_eq_true (by dsimp only; omega)]; rfl
  · unfold belowL; rw [rm, ha, hm]; unfold blw; rw [s3, decide_eq_true (by dsimp only; omega)]; rfl
  · unfold belowL; rw [rm, hb, hm]; unfold blw; rw [s4, decide_eq_true (by dsimp only; omega)]; rfl
  · unfold belowL; rw [ha, hb, hj]; unfold blw
    dsimp only
    rw [s5, show decide ((n1 : Int) ≤ (n2 : Int)) = decide (max (n1 : Int) (n2 : Int) = (n2 : Int)) from decide_eq_decide.2 (by omega)]
    rfl
theorem lat3 {a b c : Lab} (ha : labR a = true) (hb : labR b = true) (hc : labR c = true) : belowL (joinL a b) c = (belowL a c && belowL b c) ∧ belowL c (meetL a b) = (belowL c a && belowL c b) := by
  obtain ⟨rj, rm, -⟩ := lat ha hb
  have hj : joinL a b = ⟨max a.lv b.lv, bits .or .i64 a.st b.st⟩ := by unfold joinL; rw [ha, hb]; rfl
  have hm : meetL a b = ⟨min a.lv b.lv, bits .and .i64 a.st b.st⟩ := by unfold meetL; rw [ha, hb]; rfl
  obtain ⟨n1, m1, rfl, hn1, hm1⟩ := labR_at ha
  obtain ⟨n2, m2, rfl, hn2, hm2⟩ := labR_at hb
  obtain ⟨n3, m3, rfl, hn3, hm3⟩ := labR_at hc
  obtain ⟨t1, t2⟩ := st_three m1 hm1 m2 hm2 m3 hm3
  constructor
  · unfold belowL
    rw [rj, ha, hb, hc, hj]
    unfold blw
    dsimp only
    rw [t1, lv_max]
    cases decide ((n1 : Int) ≤ (n3 : Int)) <;> cases decide ((n2 : Int) ≤ (n3 : Int)) <;> simp
  · unfold belowL
    rw [rm, ha, hb, hc, hm]
    unfold blw
    dsimp only
    rw [t2, lv_min]
    cases decide ((n3 : Int) ≤ (n1 : Int)) <;> cases decide ((n3 : Int) ≤ (n2 : Int)) <;> simp
end Go.Proofs.YtocadhcggkbimaaDoor

/- Plain maths of LetDown. -/
import Derived.Test.YtocadhcggkbimaaDA3
set_option maxRecDepth 100000
set_option linter.unusedVariables false
namespace Go.Proofs.Ytocadhcggkbimaa
open Go.RowKit Go.Fin1
/-- The letter that is let down. -/
def letX (d : Dk) (a b : Lab) (q : Int) : Ltr := ⟨a, b, d.now, q⟩
def letD (d : Dk) (a b : Lab) (q : Int) : Dk := ⟨d.pairs, d.box ++ [letX d a b q], d.audit ++ [letX d a b q], d.used + 1, d.now⟩
@[irreducible] def letR (d : Dk) (a b : Lab) (q : Int) : Dk × Int :=
  if (boxR d && isIn q 0 1000000) = true then (if hasT d.pairs ⟨a, b, 0, 0⟩ = true then (if d.used = 2 then (zD, 8) else if d.box.length = 6 ∨ d.audit.length = 20 then (zD, 9) else (letD d a b q, 0)) else (zD, 11)) else (zD, 1)
theorem letR_form {d : Dk} {a b : Lab} {q : Int} (h : (boxR d && isIn q 0 1000000) = false) : letR d a b q = (zD, 1) := by unfold letR; rw [h]; rfl
theorem letR_lab {d : Dk} {a b : Lab} {q : Int} (h : (boxR d && isIn q 0 1000000) = true) (h2 : hasT d.pairs ⟨a, b, 0, 0⟩ = false) : letR d a b q = (zD, 11) := by unfold letR; rw [if_pos h, h2]; rfl
theorem letR_rate {d : Dk} {a b : Lab} {q : Int} (h : (boxR d && isIn q 0 1000000) = true) (h2 : hasT d.pairs ⟨a, b, 0, 0⟩ = true) (h3 : d.used = 2) : letR d a b q = (zD, 8) := by unfold letR; rw [if_pos h, if_pos h2, if_pos h3]
theorem letR_full {d : Dk} {a b : Lab} {q : Int} (h : (boxR d && isIn q 0 1000000) = true) (h2 : hasT d.pairs ⟨a, b, 0, 0⟩ = true) (h3 : ¬ d.used = 2) (h4 : d.box.length = 6 ∨ d.audit.length = 20) : letR d a b q = (zD, 9) := by unfold letR; rw [if_pos h, if_pos h2, if_neg h3, if_pos h4]
theorem letR_yes {d : Dk} {a b : Lab} {q : Int} (h : (boxR d && isIn q 0 1000000) = true) (h2 : hasT d.pairs ⟨a, b, 0, 0⟩ = true) (h3 : ¬ d.used = 2) (h4 : ¬ (d.box.length = 6 ∨ d.audit.length = 20)) : letR d a b q = (letD d a b q, 0) := by unfold letR; rw [if_pos h, if_pos h2, if_neg h3, if_neg h4]
/-- What is known of a right desk. -/
theorem boxR_bd {d : Dk} (h : boxR d = true) : d.pairs.length ≤ 4 ∧ d.box.length ≤ 6 ∧ d.audit.length ≤ 20 ∧ 0 ≤ d.used ∧ d.used ≤ 2 ∧ 0 ≤ d.now ∧ d.now ≤ 999900 := by
  obtain ⟨h1, h2, h3, h4, h5, h6⟩ := boxR_at h
  have q1 := chansR_len h1
  have q2 := isIn_iff.1 h2
  have q3 := letsR_len h3
  have q4 := letsR_len h4
  omega
theorem letR_ok {d : Dk} {a b : Lab} {q : Int} (ha : a.ok) (hb : b.ok) (h0 : I64 d.used) (hp : ∀ x ∈ d.pairs, x.ok) (hx : ∀ x ∈ d.box, x.ok) (hy : ∀ x ∈ d.audit, x.ok) : I64 (letR d a b q).1.used ∧ I64 (letR d a b q).1.now ∧ (∀ x ∈ (letR d a b q).1.pairs, x.ok) ∧ (∀ x ∈ (letR d a b q).1.box, x.ok) ∧ (∀ x ∈ (letR d a b q).1.audit, x.ok) ∧ (letR d a b q).1.sz ≤ 32 := by
  have z : I64 0 := by unfold I64; constructor <;> decide
  have zz : I64 zD.used ∧ I64 zD.now ∧ (∀ x ∈ zD.pairs, x.ok) ∧ (∀ x ∈ zD.box, x.ok) ∧ (∀ x ∈ zD.audit, x.ok) ∧ zD.sz ≤ 32 := ⟨z, z, (fun x hx => by cases hx), (fun x hx => by cases hx), (fun x hx => by cases hx), Nat.zero_le _⟩
  cases h1 : (boxR d && isIn q 0 1000000)
  · rw [letR_form h1]; exact zz
  · cases h2 : hasT d.pairs ⟨a, b, 0, 0⟩
    · rw [letR_lab h1 h2]; exact zz
    · by_cases h3 : d.used = 2
      · rw [letR_rate h1 h2 h3]; exact zz
      · by_cases h4 : d.box.length = 6 ∨ d.audit.length = 20
        · rw [letR_full h1 h2 h3 h4]; exact zz
        · rw [letR_yes h1 h2 h3 h4]
          have hbr := h1
          rw [Bool.and_eq_true] at hbr
          have hbd := boxR_bd hbr.1
          have hq := isIn_iff.1 hbr.2
          have hxo : (letX d a b q).ok := ⟨ha, hb, by show I64 d.now; unfold I64; omega, by show I64 q; unfold I64; omega⟩
          refine ⟨by show I64 (d.used + 1); unfold I64; omega, by show I64 d.now; unfold I64; omega, hp, fun x h => ?_, fun x h => ?_, ?_⟩
          · rcases List.mem_append.1 h with h | h
            · exact hx x h
            · rw [List.mem_singleton.1 h]; exact hxo
          · rcases List.mem_append.1 h with h | h
            · exact hy x h
            · rw [List.mem_singleton.1 h]; exact hxo
          · show d.pairs.length + (d.box ++ [letX d a b q]).length + (d.audit ++ [letX d a b q]).length ≤ 32
            simp; omega
end Go.Proofs.Ytocadhcggkbimaa

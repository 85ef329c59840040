/- The law of Reads. -/
import Derived.Test.YtkekfncgpbileaaD12
import Derived.Test.YtkekfncgpbileaaD13
import Derived.Test.YtkekfncgpbileaaD6
import Derived.Test.YtkekfncgpbileaaC1
set_option maxRecDepth 100000
set_option linter.unusedVariables false
namespace Go.Proofs.Ytkekfncgpbileaa
open Go.RowKit Go.Fin1


theorem own_int_new (w : World) (xs : List Int) (hm : xs.length ≤ maxLen) : ∃ a c w' fp, Own w.heap.size w' oIntS fp [.slice a xs.length c] xs := by
  obtain ⟨fp, h⟩ := Row.own (B := w.heap.size) (w := w.alloc (.cells (xs.map (Value.int .i64)).toArray 2)) (ty := 2) (K := 1) (f := intCell) (v := .slice (some ⟨w.heap.size, 0, none⟩) xs.length xs.length) (xs := xs) (fun _ => rfl)
    ⟨flatMap_len (K := 1) (fun _ => rfl) xs, .inr ⟨w.heap.size, xs.length, _, rfl, Nat.le_refl _, heap_alloc_new w _, Nat.le_refl _, hm, by simp, by
      rw [Nat.mul_one, List.take_of_length_le (by simp)]
      induction xs with
      | nil => rfl
      | cons x xs ih => simp [intCell] at ih ⊢; exact ih (by simp at hm; omega)⟩⟩
  exact ⟨_, _, _, fp, h⟩
/-- A list of integers of its own, in blocks from B on. -/
def kIntO (B : Nat) (R : List Int) : XReg.Kind := fun v w => ∃ a c fp, v = .slice a R.length c ∧ Own B w oIntS fp [.slice a R.length c] R
theorem kIntO_good (B : Nat) {R : List Int} (hm : R.length ≤ maxLen) : XReg.GoodK (kIntO B R) :=
  ⟨fun _ _ _ hx ⟨a, c, fp, hv, h⟩ => ⟨a, c, fp, hv, h.ext oIntS_local oIntS_held hx⟩, by
    obtain ⟨a, c, w', fp, h⟩ := own_int_new { (default : World) with heap := Array.replicate B (.cells #[] 0) } R hm
    exact ⟨_, w', a, c, fp, rfl, h.mono (by simp)⟩⟩
theorem kIntO_in {B : Nat} {R : List Int} {w : World} {fp : List Nat} {v : Value} (h : Own B w oIntS fp [v] R) : kIntO B R v w := by
  obtain ⟨a, c, rfl⟩ := h.shape
  exact ⟨a, c, fp, rfl, h⟩
theorem kIntO_out {B : Nat} {R : List Int} {w : World} {v : Value} (h : kIntO B R v w) : ∃ fp, Own B w oIntS fp [v] R := by
  obtain ⟨a, c, fp, rfl, h⟩ := h; exact ⟨fp, h⟩
theorem OwnD.low {B : Nat} {w : World} {f1 f2 f3 : List Nat} {p b a : Value} {d : Dk} (h : OwnD B w f1 f2 f3 p b a d) : ∀ x ∈ f1 ++ f2 ++ f3, B ≤ x := fun x hx => by
  simp only [List.mem_append] at hx
  rcases hx with (hx | hx) | hx
  · exact h.p.2.2 x hx
  · exact h.b.2.2 x hx
  · exact h.a.2.2 x hx
theorem OwnD.high {B : Nat} {w : World} {f1 f2 f3 : List Nat} {p b a : Value} {d : Dk} (h : OwnD B w f1 f2 f3 p b a d) : ∀ x ∈ f1 ++ f2 ++ f3, x < w.heap.size := fun x hx => by
  simp only [List.mem_append] at hx
  rcases hx with (hx | hx) | hx
  · exact oLetterS_held _ _ _ _ h.p.1 x hx
  · exact oLetterS_held _ _ _ _ h.b.1 x hx
  · exact oLetterS_held _ _ _ _ h.a.1 x hx

end Go.Proofs.Ytkekfncgpbileaa

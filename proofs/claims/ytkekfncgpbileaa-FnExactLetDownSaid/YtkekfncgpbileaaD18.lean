/- The law of NextTime. -/
import Derived.Test.YtkekfncgpbileaaD17
import Derived.Test.YtkekfncgpbileaaD14
set_option maxRecDepth 100000
set_option linter.unusedVariables false
namespace Go.Proofs.Ytkekfncgpbileaa
open Go.RowKit Go.Fin1

theorem nextR_ok {d : Dk} (h0 : I64 d.used) (hp : ∀ x ∈ d.pairs, x.ok) (ha : ∀ x ∈ d.audit, x.ok) : I64 (nextR d).1.used ∧ I64 (nextR d).1.now ∧ (∀ x ∈ (nextR d).1.pairs, x.ok) ∧ (∀ x ∈ (nextR d).1.box, x.ok) ∧ (∀ x ∈ (nextR d).1.audit, x.ok) ∧ (nextR d).1.sz ≤ d.sz := by
  have z : I64 0 := by unfold I64; constructor <;> decide
  have zz : I64 zD.used ∧ I64 zD.now ∧ (∀ x ∈ zD.pairs, x.ok) ∧ (∀ x ∈ zD.box, x.ok) ∧ (∀ x ∈ zD.audit, x.ok) ∧ zD.sz ≤ d.sz := ⟨z, z, (fun x hx => by cases hx), (fun x hx => by cases hx), (fun x hx => by cases hx), Nat.zero_le _⟩
  cases hb : boxR d
  · rw [nextR_no hb]; exact zz
  · by_cases hn : d.now = 999900
    · rw [nextR_full hb hn]; exact zz
    · rw [nextR_yes hb hn]
      have hnow := isIn_iff.1 (boxR_at hb).2.1
      refine ⟨z, (by show I64 (d.now + 1); unfold I64; omega), hp, (fun x hx => by cases hx), ha, ?_⟩
      show d.pairs.length + 0 + d.audit.length ≤ d.pairs.length + d.box.length + d.audit.length
      omega
theorem OwnD.reads {B : Nat} {w : World} {f1 f2 f3 : List Nat} {p b a : Value} {d : Dk} (h : OwnD B w f1 f2 f3 p b a d) : SlR w 6 (rc Ltr.cells) p d.pairs ∧ SlR w 6 (rc Ltr.cells) b d.box ∧ SlR w 6 (rc Ltr.cells) a d.audit :=
  ⟨oFl_reads (f := Ltr.cells) (fun _ => rfl) h.p.1, oFl_reads (f := Ltr.cells) (fun _ => rfl) h.b.1, oFl_reads (f := Ltr.cells) (fun _ => rfl) h.a.1⟩


end Go.Proofs.Ytkekfncgpbileaa

/- The walks of the laws' own helpers over one job; the law of JobRight. -/
import Derived.Test.YtocadhcggkbimaaDoorJ2
import Derived.Test.YtocadhcggkbimaaDoorBG
import Derived.Deep.Cut
set_option maxRecDepth 100000
set_option linter.unusedVariables false
namespace Go.Proofs.YtocadhcggkbimaaDoor
open Go.RowKit Go.Fin1




theorem slr_ints {w : World} {v : Value} {l : List Int} (h : SlR w 1 rInt v l) : ∀ x ∈ l, I64 x := fun x hx => by obtain ⟨_, hr⟩ := slr_all h x hx; exact hr.2

theorem Jb.val_inj {j : Jb} {a b : Value} (h : j.val a = j.val b) : a = b := by simpa [Jb.val] using h
/-- A value that is this job. -/
def kJob (j : Jb) : XReg.Kind := fun v w => ∃ a c, v = j.val (.slice a j.nodes.length c) ∧ SlR w 1 rInt (.slice a j.nodes.length c) j.nodes
theorem kJob_good {j : Jb} {W0 : World} {a : Option Addr} {c : Nat} (h : SlR W0 1 rInt (.slice a j.nodes.length c) j.nodes) : XReg.GoodK (kJob j) :=
  ⟨fun _ _ _ hx ⟨a, c, hv, h⟩ => ⟨a, c, hv, h.ext rInt_stable hx⟩, _, W0, a, c, rfl, h⟩
theorem kJob_r {j : Jb} {w : World} {nv : Value} (h : kJob j (j.val nv) w) : SlR w 1 rInt nv j.nodes := by
  obtain ⟨a, c, hv, h⟩ := h
  rw [Jb.val_inj hv]; exact h

end Go.Proofs.YtocadhcggkbimaaDoor

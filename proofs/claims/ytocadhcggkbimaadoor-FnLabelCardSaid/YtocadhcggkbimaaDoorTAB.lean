/- The laws' own comparison of lists; bytes as arguments. -/
import Derived.Test.YtocadhcggkbimaaDoorDR3
import Derived.Test.YtocadhcggkbimaaDoorP1
set_option maxRecDepth 100000
set_option linter.unusedVariables false
namespace Go.Proofs.YtocadhcggkbimaaDoor
open Go.ChangeShapes Go.WideShapes Go.ChangeAt Go.RowKit Go.Fin1

section
variable {H : Type} {enc : TypeId × Value → H} {w : World} {base : Nat} {spare : Nat → Bool} {held : Bool} {fuel : Nat} {cs : List Value} {x : DataW H × List MemPlace}
theorem b_u8 (h : DataW.trod enc Tryd.prog w base spare held fuel 5 cs = some x) : ∃ n : Int, rU8 w cs n := by
  obtain ⟨n, h1, _, h2⟩ := DataW.trod_int Tryd.underlying5 h
  have h3 : 0 ≤ n ∧ n ≤ 255 := by
    simpa [Lit.wf, IntKind.min, IntKind.max, IntKind.signed, IntKind.bits] using h2
  exact ⟨n, h1, h3.1, h3.2⟩
theorem b_bytes (h : DataW.trod enc Tryd.prog w base spare held fuel 22 cs = some x) : ∃ v xs, cs = [v] ∧ SlR w 1 rU8 v xs :=
  b_slice Tryd.underlying22 (by kernel_rfl) (by decide) (fun _ _ _ h => b_u8 h) h
end
section
variable {H : Type} {enc : TypeId × Value → H} {w : World} {base : Nat} {spare : Nat → Bool} {held : Bool} {r : Reach} {b0 : Nat} {v : Value} {d : DataW H} {ps : List MemPlace}
theorem open_bytes (hv : Value.okWide Tryd.prog w r b0 22 v) (h : DataW.Trod enc Tryd.prog w base spare held 22 v d ps) : ∃ a : Arg (List Int), v = a.v ∧ SlR w 1 rU8 a.v a.x := slice_arg Tryd.underlying22 hv (fun _ _ _ h => b_bytes h) h
end

end Go.Proofs.YtocadhcggkbimaaDoor

/-
  No cell of these rows narrows 'for every input' (looked for: loops, veiled, ifaces, maps, wideKeys, modest, calm, conditions, laid).
  DERIVED. THE GIVEN ROWS OF THIS SEAT. 12 by the template 'for every input the law returns true; each argument reads behind the call as it read before'; 0 by the template 'total and deterministic' (their statements: YtlekopmidebaiaaTotals.lean).
  GIVEN WITH THE SEED: the statements are not yours to turn. If you find one false, say at which input.
  Laid BY PROGRAM, IN A SANDBOX (cutbox-rows.mjs): the forced cells as the released guide's own fill.sh prints them over the translation 31a7d042affb6640… (all of the seat's roots in one cut). By AI agents, Wed Nov 11 2026. No macro, syntax, notation, axiom, sorry.
-/
import Derived.Test.YtlekopmidebaiaaChecked
import GoSem.Claim
import GoSem.ClaimJoined
import GoSem.ClaimMapViews
import Derived.JoinedTies
import Derived.KernelRfl
namespace Go.Proofs.Ytlekopmidebaiaa
/- THE CELL 'sum', in the pinned program and in every row, IS THE sha256 OF THE DUMP (.gsa) THAT YtlekopmidebaiaaProg.lean LOADS. Nothing in Lean hashes anything: it is a label: what it is worth is what the hold of that sum in a sandbox is worth. -/
noncomputable def Try.pinned : Pinned := { name := "ytlekopmidebaiaa", sum := "31a7d042affb66401e5fc8d45172b4a45664632d91e745ac47f90761203df22d", checked := Try.checked }
namespace Rows
def none {H : Type} : Left H := { results := [], args := [] }

/-- 'laws.FnExactSeal': WHATEVER THE INPUT: true; the input reads as it did. -/
def fnExactSealSpec : ChangeSpec := { name := "fnExactSeal", fn := fun _ => fun
  | [d] => { results := [.lit (.bool true)], args := [d] }
  | _ => none }
def fnExactSealRow : OpenClaim := { program := "ytlekopmidebaiaa", sum := "31a7d042affb66401e5fc8d45172b4a45664632d91e745ac47f90761203df22d", func := "loop.example/g00658/laws.FnExactSeal", spec := "fnExactSeal", apart := false }
def FnExactSealSaid : Prop := fnExactSealRow.holds Try.pinned (OpenSpec.ofChange fnExactSealSpec)

/-- ITS FALSE NEIGHBOUR: 'it returns false'. Refute it at one input. -/
def fnExactSealWrong : ChangeSpec := { name := "fnExactSeal", fn := fun _ => fun
  | [d] => { results := [.lit (.bool false)], args := [d] }
  | _ => none }
def FnExactSealWrongFalsely : Prop := fnExactSealRow.holds Try.pinned (OpenSpec.ofChange fnExactSealWrong)

/-- 'laws.FnExactSpansRight': WHATEVER THE INPUT: true; the input reads as it did. -/
def fnExactSpansRightSpec : ChangeSpec := { name := "fnExactSpansRight", fn := fun _ => fun
  | [d] => { results := [.lit (.bool true)], args := [d] }
  | _ => none }
def fnExactSpansRightRow : OpenClaim := { program := "ytlekopmidebaiaa", sum := "31a7d042affb66401e5fc8d45172b4a45664632d91e745ac47f90761203df22d", func := "loop.example/g00658/laws.FnExactSpansRight", spec := "fnExactSpansRight", apart := false }
def FnExactSpansRightSaid : Prop := fnExactSpansRightRow.holds Try.pinned (OpenSpec.ofChange fnExactSpansRightSpec)

/-- ITS FALSE NEIGHBOUR: 'it returns false'. Refute it at one input. -/
def fnExactSpansRightWrong : ChangeSpec := { name := "fnExactSpansRight", fn := fun _ => fun
  | [d] => { results := [.lit (.bool false)], args := [d] }
  | _ => none }
def FnExactSpansRightWrongFalsely : Prop := fnExactSpansRightRow.holds Try.pinned (OpenSpec.ofChange fnExactSpansRightWrong)

/-- 'laws.FnExactUnseal': WHATEVER THE INPUT: true; the input reads as it did. -/
def fnExactUnsealSpec : ChangeSpec := { name := "fnExactUnseal", fn := fun _ => fun
  | [d] => { results := [.lit (.bool true)], args := [d] }
  | _ => none }
def fnExactUnsealRow : OpenClaim := { program := "ytlekopmidebaiaa", sum := "31a7d042affb66401e5fc8d45172b4a45664632d91e745ac47f90761203df22d", func := "loop.example/g00658/laws.FnExactUnseal", spec := "fnExactUnseal", apart := false }
def FnExactUnsealSaid : Prop := fnExactUnsealRow.holds Try.pinned (OpenSpec.ofChange fnExactUnsealSpec)

/-- ITS FALSE NEIGHBOUR: 'it returns false'. Refute it at one input. -/
def fnExactUnsealWrong : ChangeSpec := { name := "fnExactUnseal", fn := fun _ => fun
  | [d] => { results := [.lit (.bool false)], args := [d] }
  | _ => none }
def FnExactUnsealWrongFalsely : Prop := fnExactUnsealRow.holds Try.pinned (OpenSpec.ofChange fnExactUnsealWrong)

/-- 'laws.FnExactGetNum': WHATEVER THE INPUT: true; the input reads as it did. -/
def fnExactGetNumSpec : ChangeSpec := { name := "fnExactGetNum", fn := fun _ => fun
  | [d1, d2] => { results := [.lit (.bool true)], args := [d1, d2] }
  | _ => none }
def fnExactGetNumRow : OpenClaim := { program := "ytlekopmidebaiaa", sum := "31a7d042affb66401e5fc8d45172b4a45664632d91e745ac47f90761203df22d", func := "loop.example/g00658/laws.FnExactGetNum", spec := "fnExactGetNum", apart := false }
def FnExactGetNumSaid : Prop := fnExactGetNumRow.holds Try.pinned (OpenSpec.ofChange fnExactGetNumSpec)

/-- ITS FALSE NEIGHBOUR: 'it returns false'. Refute it at one input. -/
def fnExactGetNumWrong : ChangeSpec := { name := "fnExactGetNum", fn := fun _ => fun
  | [d1, d2] => { results := [.lit (.bool false)], args := [d1, d2] }
  | _ => none }
def FnExactGetNumWrongFalsely : Prop := fnExactGetNumRow.holds Try.pinned (OpenSpec.ofChange fnExactGetNumWrong)

/-- 'laws.FnExactChain': WHATEVER THE INPUT: true; the input reads as it did. -/
def fnExactChainSpec : ChangeSpec := { name := "fnExactChain", fn := fun _ => fun
  | [d] => { results := [.lit (.bool true)], args := [d] }
  | _ => none }
def fnExactChainRow : OpenClaim := { program := "ytlekopmidebaiaa", sum := "31a7d042affb66401e5fc8d45172b4a45664632d91e745ac47f90761203df22d", func := "loop.example/g00658/laws.FnExactChain", spec := "fnExactChain", unfollowed := true, recurses := true, apart := false }
def FnExactChainSaid : Prop := fnExactChainRow.holds Try.pinned (OpenSpec.ofChange fnExactChainSpec)

/-- ITS FALSE NEIGHBOUR: 'it returns false'. Refute it at one input. -/
def fnExactChainWrong : ChangeSpec := { name := "fnExactChain", fn := fun _ => fun
  | [d] => { results := [.lit (.bool false)], args := [d] }
  | _ => none }
def FnExactChainWrongFalsely : Prop := fnExactChainRow.holds Try.pinned (OpenSpec.ofChange fnExactChainWrong)

/-- 'laws.FnExactIsFree': WHATEVER THE INPUT: true; the input reads as it did. -/
def fnExactIsFreeSpec : ChangeSpec := { name := "fnExactIsFree", fn := fun _ => fun
  | [d1, d2] => { results := [.lit (.bool true)], args := [d1, d2] }
  | _ => none }
def fnExactIsFreeRow : OpenClaim := { program := "ytlekopmidebaiaa", sum := "31a7d042affb66401e5fc8d45172b4a45664632d91e745ac47f90761203df22d", func := "loop.example/g00658/laws.FnExactIsFree", spec := "fnExactIsFree", unfollowed := true, recurses := true, apart := false }
def FnExactIsFreeSaid : Prop := fnExactIsFreeRow.holds Try.pinned (OpenSpec.ofChange fnExactIsFreeSpec)

/-- ITS FALSE NEIGHBOUR: 'it returns false'. Refute it at one input. -/
def fnExactIsFreeWrong : ChangeSpec := { name := "fnExactIsFree", fn := fun _ => fun
  | [d1, d2] => { results := [.lit (.bool false)], args := [d1, d2] }
  | _ => none }
def FnExactIsFreeWrongFalsely : Prop := fnExactIsFreeRow.holds Try.pinned (OpenSpec.ofChange fnExactIsFreeWrong)

/-- 'laws.FnExactGetText': WHATEVER THE INPUT: true; the input reads as it did. -/
def fnExactGetTextSpec : ChangeSpec := { name := "fnExactGetText", fn := fun _ => fun
  | [d1, d2] => { results := [.lit (.bool true)], args := [d1, d2] }
  | _ => none }
def fnExactGetTextRow : OpenClaim := { program := "ytlekopmidebaiaa", sum := "31a7d042affb66401e5fc8d45172b4a45664632d91e745ac47f90761203df22d", func := "loop.example/g00658/laws.FnExactGetText", spec := "fnExactGetText", apart := false }
def FnExactGetTextSaid : Prop := fnExactGetTextRow.holds Try.pinned (OpenSpec.ofChange fnExactGetTextSpec)

/-- ITS FALSE NEIGHBOUR: 'it returns false'. Refute it at one input. -/
def fnExactGetTextWrong : ChangeSpec := { name := "fnExactGetText", fn := fun _ => fun
  | [d1, d2] => { results := [.lit (.bool false)], args := [d1, d2] }
  | _ => none }
def FnExactGetTextWrongFalsely : Prop := fnExactGetTextRow.holds Try.pinned (OpenSpec.ofChange fnExactGetTextWrong)

/-- 'laws.FnExactJobRight': WHATEVER THE INPUT: true; the input reads as it did. -/
def fnExactJobRightSpec : ChangeSpec := { name := "fnExactJobRight", fn := fun _ => fun
  | [d] => { results := [.lit (.bool true)], args := [d] }
  | _ => none }
def fnExactJobRightRow : OpenClaim := { program := "ytlekopmidebaiaa", sum := "31a7d042affb66401e5fc8d45172b4a45664632d91e745ac47f90761203df22d", func := "loop.example/g00658/laws.FnExactJobRight", spec := "fnExactJobRight", apart := false }
def FnExactJobRightSaid : Prop := fnExactJobRightRow.holds Try.pinned (OpenSpec.ofChange fnExactJobRightSpec)

/-- ITS FALSE NEIGHBOUR: 'it returns false'. Refute it at one input. -/
def fnExactJobRightWrong : ChangeSpec := { name := "fnExactJobRight", fn := fun _ => fun
  | [d] => { results := [.lit (.bool false)], args := [d] }
  | _ => none }
def FnExactJobRightWrongFalsely : Prop := fnExactJobRightRow.holds Try.pinned (OpenSpec.ofChange fnExactJobRightWrong)

/-- 'laws.FnNums': WHATEVER THE INPUT: true; the input reads as it did. -/
def fnNumsSpec : ChangeSpec := { name := "fnNums", fn := fun _ => fun
  | [d1, d2] => { results := [.lit (.bool true)], args := [d1, d2] }
  | _ => none }
def fnNumsRow : OpenClaim := { program := "ytlekopmidebaiaa", sum := "31a7d042affb66401e5fc8d45172b4a45664632d91e745ac47f90761203df22d", func := "loop.example/g00658/laws.FnNums", spec := "fnNums", apart := false }
def FnNumsSaid : Prop := fnNumsRow.holds Try.pinned (OpenSpec.ofChange fnNumsSpec)

/-- ITS FALSE NEIGHBOUR: 'it returns false'. Refute it at one input. -/
def fnNumsWrong : ChangeSpec := { name := "fnNums", fn := fun _ => fun
  | [d1, d2] => { results := [.lit (.bool false)], args := [d1, d2] }
  | _ => none }
def FnNumsWrongFalsely : Prop := fnNumsRow.holds Try.pinned (OpenSpec.ofChange fnNumsWrong)

/-- 'laws.FnSeal': WHATEVER THE INPUT: true; the input reads as it did. -/
def fnSealSpec : ChangeSpec := { name := "fnSeal", fn := fun _ => fun
  | [d1, d2] => { results := [.lit (.bool true)], args := [d1, d2] }
  | _ => none }
def fnSealRow : OpenClaim := { program := "ytlekopmidebaiaa", sum := "31a7d042affb66401e5fc8d45172b4a45664632d91e745ac47f90761203df22d", func := "loop.example/g00658/laws.FnSeal", spec := "fnSeal", apart := false }
def FnSealSaid : Prop := fnSealRow.holds Try.pinned (OpenSpec.ofChange fnSealSpec)

/-- ITS FALSE NEIGHBOUR: 'it returns false'. Refute it at one input. -/
def fnSealWrong : ChangeSpec := { name := "fnSeal", fn := fun _ => fun
  | [d1, d2] => { results := [.lit (.bool false)], args := [d1, d2] }
  | _ => none }
def FnSealWrongFalsely : Prop := fnSealRow.holds Try.pinned (OpenSpec.ofChange fnSealWrong)

/-- 'laws.FnExactEntryBytes': WHATEVER THE INPUT: true; the input reads as it did. -/
def fnExactEntryBytesSpec : ChangeSpec := { name := "fnExactEntryBytes", fn := fun _ => fun
  | [d] => { results := [.lit (.bool true)], args := [d] }
  | _ => none }
def fnExactEntryBytesRow : OpenClaim := { program := "ytlekopmidebaiaa", sum := "31a7d042affb66401e5fc8d45172b4a45664632d91e745ac47f90761203df22d", func := "loop.example/g00658/laws.FnExactEntryBytes", spec := "fnExactEntryBytes", apart := false }
def FnExactEntryBytesSaid : Prop := fnExactEntryBytesRow.holds Try.pinned (OpenSpec.ofChange fnExactEntryBytesSpec)

/-- ITS FALSE NEIGHBOUR: 'it returns false'. Refute it at one input. -/
def fnExactEntryBytesWrong : ChangeSpec := { name := "fnExactEntryBytes", fn := fun _ => fun
  | [d] => { results := [.lit (.bool false)], args := [d] }
  | _ => none }
def FnExactEntryBytesWrongFalsely : Prop := fnExactEntryBytesRow.holds Try.pinned (OpenSpec.ofChange fnExactEntryBytesWrong)

/-- 'laws.FnExactFirstFit': WHATEVER THE INPUT: true; the input reads as it did. -/
def fnExactFirstFitSpec : ChangeSpec := { name := "fnExactFirstFit", fn := fun _ => fun
  | [d1, d2, d3, d4] => { results := [.lit (.bool true)], args := [d1, d2, d3, d4] }
  | _ => none }
def fnExactFirstFitRow : OpenClaim := { program := "ytlekopmidebaiaa", sum := "31a7d042affb66401e5fc8d45172b4a45664632d91e745ac47f90761203df22d", func := "loop.example/g00658/laws.FnExactFirstFit", spec := "fnExactFirstFit", unfollowed := true, recurses := true, apart := false }
def FnExactFirstFitSaid : Prop := fnExactFirstFitRow.holds Try.pinned (OpenSpec.ofChange fnExactFirstFitSpec)

/-- ITS FALSE NEIGHBOUR: 'it returns false'. Refute it at one input. -/
def fnExactFirstFitWrong : ChangeSpec := { name := "fnExactFirstFit", fn := fun _ => fun
  | [d1, d2, d3, d4] => { results := [.lit (.bool false)], args := [d1, d2, d3, d4] }
  | _ => none }
def FnExactFirstFitWrongFalsely : Prop := fnExactFirstFitRow.holds Try.pinned (OpenSpec.ofChange fnExactFirstFitWrong)

/- THE SECOND FORM. 'bulk': how many values and letters a reading holds, each counted each time it is reached (what is shared counts as often as it is met; a slice's spare places count too). A statement '..UptoSaid' is the law's where the arguments, and the package variables that the reading takes, are together of bulk at most 1048576: NARROWER than '..Said'. Prove '..Said' where nothing that the law and all that it calls make is longer than what came in: it says more and counts as full. Else prove '..UptoSaid'. A law counts once. -/
mutual
def uptoBulk {H : Type} : DataW H → Nat
  | .lit (.string bytes) => bytes.length + 1
  | .lit _ => 1
  | .nil => 1
  | .ptr d => uptoBulk d + 1
  | .slice elems spare => uptoBulkAll elems + uptoBulkAll spare + 1
  | .agg parts => uptoBulkAll parts + 1
  | .iface _ d => uptoBulk d + 1
  | .map entries => uptoBulkEntries entries + 1
  | .held _ => 1
def uptoBulkAll {H : Type} : List (DataW H) → Nat
  | [] => 0
  | d :: r => uptoBulk d + uptoBulkAll r
def uptoBulkEntries {H : Type} : List (Lit × DataW H) → Nat
  | [] => 0
  | x :: r => uptoBulkEntry x + uptoBulkEntries r
def uptoBulkEntry {H : Type} : Lit × DataW H → Nat
  | (.string bytes, d) => bytes.length + uptoBulk d + 1
  | (_, d) => uptoBulk d + 1
 end
def uptoSmall : (H : Type) → List (DataW H) → Bool := fun _ ds => decide (uptoBulkAll ds ≤ 1048576)
def OpenSpec.upto (s : _root_.Go.ChangeSpec) : _root_.Go.OpenSpec := { _root_.Go.OpenSpec.ofChange s with cond := some uptoSmall }

/-- 'laws.FnExactSeal', WHERE WHAT IT READS IS OF BULK AT MOST 1048576: true; the input reads as it did. -/
def fnExactSealUptoRow : OpenClaim := { program := "ytlekopmidebaiaa", sum := "31a7d042affb66401e5fc8d45172b4a45664632d91e745ac47f90761203df22d", func := "loop.example/g00658/laws.FnExactSeal", spec := "fnExactSeal", apart := false, narrowed := true }
def FnExactSealUptoSaid : Prop := fnExactSealUptoRow.holds Try.pinned (OpenSpec.upto fnExactSealSpec)

/-- 'laws.FnExactSpansRight', WHERE WHAT IT READS IS OF BULK AT MOST 1048576: true; the input reads as it did. -/
def fnExactSpansRightUptoRow : OpenClaim := { program := "ytlekopmidebaiaa", sum := "31a7d042affb66401e5fc8d45172b4a45664632d91e745ac47f90761203df22d", func := "loop.example/g00658/laws.FnExactSpansRight", spec := "fnExactSpansRight", apart := false, narrowed := true }
def FnExactSpansRightUptoSaid : Prop := fnExactSpansRightUptoRow.holds Try.pinned (OpenSpec.upto fnExactSpansRightSpec)

/-- 'laws.FnExactUnseal', WHERE WHAT IT READS IS OF BULK AT MOST 1048576: true; the input reads as it did. -/
def fnExactUnsealUptoRow : OpenClaim := { program := "ytlekopmidebaiaa", sum := "31a7d042affb66401e5fc8d45172b4a45664632d91e745ac47f90761203df22d", func := "loop.example/g00658/laws.FnExactUnseal", spec := "fnExactUnseal", apart := false, narrowed := true }
def FnExactUnsealUptoSaid : Prop := fnExactUnsealUptoRow.holds Try.pinned (OpenSpec.upto fnExactUnsealSpec)

/-- 'laws.FnExactGetNum', WHERE WHAT IT READS IS OF BULK AT MOST 1048576: true; the input reads as it did. -/
def fnExactGetNumUptoRow : OpenClaim := { program := "ytlekopmidebaiaa", sum := "31a7d042affb66401e5fc8d45172b4a45664632d91e745ac47f90761203df22d", func := "loop.example/g00658/laws.FnExactGetNum", spec := "fnExactGetNum", apart := false, narrowed := true }
def FnExactGetNumUptoSaid : Prop := fnExactGetNumUptoRow.holds Try.pinned (OpenSpec.upto fnExactGetNumSpec)

/-- 'laws.FnExactChain', WHERE WHAT IT READS IS OF BULK AT MOST 1048576: true; the input reads as it did. -/
def fnExactChainUptoRow : OpenClaim := { program := "ytlekopmidebaiaa", sum := "31a7d042affb66401e5fc8d45172b4a45664632d91e745ac47f90761203df22d", func := "loop.example/g00658/laws.FnExactChain", spec := "fnExactChain", unfollowed := true, recurses := true, apart := false, narrowed := true }
def FnExactChainUptoSaid : Prop := fnExactChainUptoRow.holds Try.pinned (OpenSpec.upto fnExactChainSpec)

/-- 'laws.FnExactIsFree', WHERE WHAT IT READS IS OF BULK AT MOST 1048576: true; the input reads as it did. -/
def fnExactIsFreeUptoRow : OpenClaim := { program := "ytlekopmidebaiaa", sum := "31a7d042affb66401e5fc8d45172b4a45664632d91e745ac47f90761203df22d", func := "loop.example/g00658/laws.FnExactIsFree", spec := "fnExactIsFree", unfollowed := true, recurses := true, apart := false, narrowed := true }
def FnExactIsFreeUptoSaid : Prop := fnExactIsFreeUptoRow.holds Try.pinned (OpenSpec.upto fnExactIsFreeSpec)

/-- 'laws.FnExactGetText', WHERE WHAT IT READS IS OF BULK AT MOST 1048576: true; the input reads as it did. -/
def fnExactGetTextUptoRow : OpenClaim := { program := "ytlekopmidebaiaa", sum := "31a7d042affb66401e5fc8d45172b4a45664632d91e745ac47f90761203df22d", func := "loop.example/g00658/laws.FnExactGetText", spec := "fnExactGetText", apart := false, narrowed := true }
def FnExactGetTextUptoSaid : Prop := fnExactGetTextUptoRow.holds Try.pinned (OpenSpec.upto fnExactGetTextSpec)

/-- 'laws.FnExactJobRight', WHERE WHAT IT READS IS OF BULK AT MOST 1048576: true; the input reads as it did. -/
def fnExactJobRightUptoRow : OpenClaim := { program := "ytlekopmidebaiaa", sum := "31a7d042affb66401e5fc8d45172b4a45664632d91e745ac47f90761203df22d", func := "loop.example/g00658/laws.FnExactJobRight", spec := "fnExactJobRight", apart := false, narrowed := true }
def FnExactJobRightUptoSaid : Prop := fnExactJobRightUptoRow.holds Try.pinned (OpenSpec.upto fnExactJobRightSpec)

/-- 'laws.FnNums', WHERE WHAT IT READS IS OF BULK AT MOST 1048576: true; the input reads as it did. -/
def fnNumsUptoRow : OpenClaim := { program := "ytlekopmidebaiaa", sum := "31a7d042affb66401e5fc8d45172b4a45664632d91e745ac47f90761203df22d", func := "loop.example/g00658/laws.FnNums", spec := "fnNums", apart := false, narrowed := true }
def FnNumsUptoSaid : Prop := fnNumsUptoRow.holds Try.pinned (OpenSpec.upto fnNumsSpec)

/-- 'laws.FnSeal', WHERE WHAT IT READS IS OF BULK AT MOST 1048576: true; the input reads as it did. -/
def fnSealUptoRow : OpenClaim := { program := "ytlekopmidebaiaa", sum := "31a7d042affb66401e5fc8d45172b4a45664632d91e745ac47f90761203df22d", func := "loop.example/g00658/laws.FnSeal", spec := "fnSeal", apart := false, narrowed := true }
def FnSealUptoSaid : Prop := fnSealUptoRow.holds Try.pinned (OpenSpec.upto fnSealSpec)

/-- 'laws.FnExactEntryBytes', WHERE WHAT IT READS IS OF BULK AT MOST 1048576: true; the input reads as it did. -/
def fnExactEntryBytesUptoRow : OpenClaim := { program := "ytlekopmidebaiaa", sum := "31a7d042affb66401e5fc8d45172b4a45664632d91e745ac47f90761203df22d", func := "loop.example/g00658/laws.FnExactEntryBytes", spec := "fnExactEntryBytes", apart := false, narrowed := true }
def FnExactEntryBytesUptoSaid : Prop := fnExactEntryBytesUptoRow.holds Try.pinned (OpenSpec.upto fnExactEntryBytesSpec)

/-- 'laws.FnExactFirstFit', WHERE WHAT IT READS IS OF BULK AT MOST 1048576: true; the input reads as it did. -/
def fnExactFirstFitUptoRow : OpenClaim := { program := "ytlekopmidebaiaa", sum := "31a7d042affb66401e5fc8d45172b4a45664632d91e745ac47f90761203df22d", func := "loop.example/g00658/laws.FnExactFirstFit", spec := "fnExactFirstFit", unfollowed := true, recurses := true, apart := false, narrowed := true }
def FnExactFirstFitUptoSaid : Prop := fnExactFirstFitUptoRow.holds Try.pinned (OpenSpec.upto fnExactFirstFitSpec)

end Rows
end Go.Proofs.Ytlekopmidebaiaa

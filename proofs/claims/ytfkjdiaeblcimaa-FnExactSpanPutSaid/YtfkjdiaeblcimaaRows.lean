/-
  No cell of these rows narrows 'for every input' (looked for: loops, veiled, ifaces, maps, wideKeys, modest, calm, conditions, laid).
  DERIVED. THE GIVEN ROWS OF THIS SEAT. 10 by the template 'for every input the law returns true; each argument reads behind the call as it read before'; 0 by the template 'total and deterministic' (their statements: YtfkjdiaeblcimaaTotals.lean).
  GIVEN WITH THE SEED: the statements are not yours to turn. If you find one false, say at which input.
  Laid BY PROGRAM, IN A SANDBOX (cutbox-rows.mjs): the forced cells as the released guide's own fill.sh prints them over the translation 931e732e1aab4a09… (all of the seat's roots in one cut). By AI agents, Wed Nov 11 2026. No macro, syntax, notation, axiom, sorry.
-/
import Derived.Test.YtfkjdiaeblcimaaChecked
import GoSem.Claim
import GoSem.ClaimJoined
import GoSem.ClaimMapViews
import Derived.JoinedTies
import Derived.KernelRfl
namespace Go.Proofs.Ytfkjdiaeblcimaa
/- THE CELL 'sum', in the pinned program and in every row, IS THE sha256 OF THE DUMP (.gsa) THAT YtfkjdiaeblcimaaProg.lean LOADS. Nothing in Lean hashes anything: it is a label: what it is worth is what the hold of that sum in a sandbox is worth. -/
noncomputable def Try.pinned : Pinned := { name := "ytfkjdiaeblcimaa", sum := "931e732e1aab4a09e6f6d48720df1cd51a9e2c45184eba5203c988864fafddc1", checked := Try.checked }
namespace Rows
def none {H : Type} : Left H := { results := [], args := [] }

/-- 'laws.FnExactLetDown': WHATEVER THE INPUT: true; the input reads as it did. -/
def fnExactLetDownSpec : ChangeSpec := { name := "fnExactLetDown", fn := fun _ => fun
  | [d1, d2, d3, d4] => { results := [.lit (.bool true)], args := [d1, d2, d3, d4] }
  | _ => none }
def fnExactLetDownRow : OpenClaim := { program := "ytfkjdiaeblcimaa", sum := "931e732e1aab4a09e6f6d48720df1cd51a9e2c45184eba5203c988864fafddc1", func := "loop.example/g00658/laws.FnExactLetDown", spec := "fnExactLetDown", unfollowed := true, recurses := true, apart := false }
def FnExactLetDownSaid : Prop := fnExactLetDownRow.holds Try.pinned (OpenSpec.ofChange fnExactLetDownSpec)

/-- ITS FALSE NEIGHBOUR: 'it returns false'. Refute it at one input. -/
def fnExactLetDownWrong : ChangeSpec := { name := "fnExactLetDown", fn := fun _ => fun
  | [d1, d2, d3, d4] => { results := [.lit (.bool false)], args := [d1, d2, d3, d4] }
  | _ => none }
def FnExactLetDownWrongFalsely : Prop := fnExactLetDownRow.holds Try.pinned (OpenSpec.ofChange fnExactLetDownWrong)

/-- 'laws.FnExactPoolNew': WHATEVER THE INPUT: true; the input reads as it did. -/
def fnExactPoolNewSpec : ChangeSpec := { name := "fnExactPoolNew", fn := fun _ => fun
  | [d] => { results := [.lit (.bool true)], args := [d] }
  | _ => none }
def fnExactPoolNewRow : OpenClaim := { program := "ytfkjdiaeblcimaa", sum := "931e732e1aab4a09e6f6d48720df1cd51a9e2c45184eba5203c988864fafddc1", func := "loop.example/g00658/laws.FnExactPoolNew", spec := "fnExactPoolNew", unfollowed := true, recurses := true, apart := false }
def FnExactPoolNewSaid : Prop := fnExactPoolNewRow.holds Try.pinned (OpenSpec.ofChange fnExactPoolNewSpec)

/-- ITS FALSE NEIGHBOUR: 'it returns false'. Refute it at one input. -/
def fnExactPoolNewWrong : ChangeSpec := { name := "fnExactPoolNew", fn := fun _ => fun
  | [d] => { results := [.lit (.bool false)], args := [d] }
  | _ => none }
def FnExactPoolNewWrongFalsely : Prop := fnExactPoolNewRow.holds Try.pinned (OpenSpec.ofChange fnExactPoolNewWrong)

/-- 'laws.FnExactSubmit': WHATEVER THE INPUT: true; the input reads as it did. -/
def fnExactSubmitSpec : ChangeSpec := { name := "fnExactSubmit", fn := fun _ => fun
  | [d1, d2, d3, d4, d5] => { results := [.lit (.bool true)], args := [d1, d2, d3, d4, d5] }
  | _ => none }
def fnExactSubmitRow : OpenClaim := { program := "ytfkjdiaeblcimaa", sum := "931e732e1aab4a09e6f6d48720df1cd51a9e2c45184eba5203c988864fafddc1", func := "loop.example/g00658/laws.FnExactSubmit", spec := "fnExactSubmit", unfollowed := true, recurses := true, apart := false }
def FnExactSubmitSaid : Prop := fnExactSubmitRow.holds Try.pinned (OpenSpec.ofChange fnExactSubmitSpec)

/-- ITS FALSE NEIGHBOUR: 'it returns false'. Refute it at one input. -/
def fnExactSubmitWrong : ChangeSpec := { name := "fnExactSubmit", fn := fun _ => fun
  | [d1, d2, d3, d4, d5] => { results := [.lit (.bool false)], args := [d1, d2, d3, d4, d5] }
  | _ => none }
def FnExactSubmitWrongFalsely : Prop := fnExactSubmitRow.holds Try.pinned (OpenSpec.ofChange fnExactSubmitWrong)

/-- 'laws.FnExactChange': WHATEVER THE INPUT: true; the input reads as it did. -/
def fnExactChangeSpec : ChangeSpec := { name := "fnExactChange", fn := fun _ => fun
  | [d1, d2, d3, d4] => { results := [.lit (.bool true)], args := [d1, d2, d3, d4] }
  | _ => none }
def fnExactChangeRow : OpenClaim := { program := "ytfkjdiaeblcimaa", sum := "931e732e1aab4a09e6f6d48720df1cd51a9e2c45184eba5203c988864fafddc1", func := "loop.example/g00658/laws.FnExactChange", spec := "fnExactChange", unfollowed := true, recurses := true, apart := false }
def FnExactChangeSaid : Prop := fnExactChangeRow.holds Try.pinned (OpenSpec.ofChange fnExactChangeSpec)

/-- ITS FALSE NEIGHBOUR: 'it returns false'. Refute it at one input. -/
def fnExactChangeWrong : ChangeSpec := { name := "fnExactChange", fn := fun _ => fun
  | [d1, d2, d3, d4] => { results := [.lit (.bool false)], args := [d1, d2, d3, d4] }
  | _ => none }
def FnExactChangeWrongFalsely : Prop := fnExactChangeRow.holds Try.pinned (OpenSpec.ofChange fnExactChangeWrong)

/-- 'laws.FnExactSpanPut': WHATEVER THE INPUT: true; the input reads as it did. -/
def fnExactSpanPutSpec : ChangeSpec := { name := "fnExactSpanPut", fn := fun _ => fun
  | [d1, d2] => { results := [.lit (.bool true)], args := [d1, d2] }
  | _ => none }
def fnExactSpanPutRow : OpenClaim := { program := "ytfkjdiaeblcimaa", sum := "931e732e1aab4a09e6f6d48720df1cd51a9e2c45184eba5203c988864fafddc1", func := "loop.example/g00658/laws.FnExactSpanPut", spec := "fnExactSpanPut", inPlace := ["slices.overlaps[loop.example/g00658/impl.Span]"], unfollowed := true, recurses := true, apart := false }
def FnExactSpanPutSaid : Prop := fnExactSpanPutRow.holds Try.pinned (OpenSpec.ofChange fnExactSpanPutSpec)

/-- ITS FALSE NEIGHBOUR: 'it returns false'. Refute it at one input. -/
def fnExactSpanPutWrong : ChangeSpec := { name := "fnExactSpanPut", fn := fun _ => fun
  | [d1, d2] => { results := [.lit (.bool false)], args := [d1, d2] }
  | _ => none }
def FnExactSpanPutWrongFalsely : Prop := fnExactSpanPutRow.holds Try.pinned (OpenSpec.ofChange fnExactSpanPutWrong)

/-- 'laws.FnNums': WHATEVER THE INPUT: true; the input reads as it did. -/
def fnNumsSpec : ChangeSpec := { name := "fnNums", fn := fun _ => fun
  | [d1, d2] => { results := [.lit (.bool true)], args := [d1, d2] }
  | _ => none }
def fnNumsRow : OpenClaim := { program := "ytfkjdiaeblcimaa", sum := "931e732e1aab4a09e6f6d48720df1cd51a9e2c45184eba5203c988864fafddc1", func := "loop.example/g00658/laws.FnNums", spec := "fnNums", apart := false }
def FnNumsSaid : Prop := fnNumsRow.holds Try.pinned (OpenSpec.ofChange fnNumsSpec)

/-- ITS FALSE NEIGHBOUR: 'it returns false'. Refute it at one input. -/
def fnNumsWrong : ChangeSpec := { name := "fnNums", fn := fun _ => fun
  | [d1, d2] => { results := [.lit (.bool false)], args := [d1, d2] }
  | _ => none }
def FnNumsWrongFalsely : Prop := fnNumsRow.holds Try.pinned (OpenSpec.ofChange fnNumsWrong)

/-- 'laws.FnSeal': WHATEVER THE INPUT: true; the input reads as it did. -/
def fnSealSpec : ChangeSpec := { name := "fnSeal", fn := fun _ => fun
  | [d1, d2] => { results := [.lit (.bool true)], args := [d1, d2] }
  | _ => none }
def fnSealRow : OpenClaim := { program := "ytfkjdiaeblcimaa", sum := "931e732e1aab4a09e6f6d48720df1cd51a9e2c45184eba5203c988864fafddc1", func := "loop.example/g00658/laws.FnSeal", spec := "fnSeal", apart := false }
def FnSealSaid : Prop := fnSealRow.holds Try.pinned (OpenSpec.ofChange fnSealSpec)

/-- ITS FALSE NEIGHBOUR: 'it returns false'. Refute it at one input. -/
def fnSealWrong : ChangeSpec := { name := "fnSeal", fn := fun _ => fun
  | [d1, d2] => { results := [.lit (.bool false)], args := [d1, d2] }
  | _ => none }
def FnSealWrongFalsely : Prop := fnSealRow.holds Try.pinned (OpenSpec.ofChange fnSealWrong)

/-- 'laws.FnJob': WHATEVER THE INPUT: true; the input reads as it did. -/
def fnJobSpec : ChangeSpec := { name := "fnJob", fn := fun _ => fun
  | [d1, d2] => { results := [.lit (.bool true)], args := [d1, d2] }
  | _ => none }
def fnJobRow : OpenClaim := { program := "ytfkjdiaeblcimaa", sum := "931e732e1aab4a09e6f6d48720df1cd51a9e2c45184eba5203c988864fafddc1", func := "loop.example/g00658/laws.FnJob", spec := "fnJob", unfollowed := true, recurses := true, apart := false }
def FnJobSaid : Prop := fnJobRow.holds Try.pinned (OpenSpec.ofChange fnJobSpec)

/-- ITS FALSE NEIGHBOUR: 'it returns false'. Refute it at one input. -/
def fnJobWrong : ChangeSpec := { name := "fnJob", fn := fun _ => fun
  | [d1, d2] => { results := [.lit (.bool false)], args := [d1, d2] }
  | _ => none }
def FnJobWrongFalsely : Prop := fnJobRow.holds Try.pinned (OpenSpec.ofChange fnJobWrong)

/-- 'laws.FnDown': WHATEVER THE INPUT: true; the input reads as it did. -/
def fnDownSpec : ChangeSpec := { name := "fnDown", fn := fun _ => fun
  | [d1, d2] => { results := [.lit (.bool true)], args := [d1, d2] }
  | _ => none }
def fnDownRow : OpenClaim := { program := "ytfkjdiaeblcimaa", sum := "931e732e1aab4a09e6f6d48720df1cd51a9e2c45184eba5203c988864fafddc1", func := "loop.example/g00658/laws.FnDown", spec := "fnDown", unfollowed := true, recurses := true, apart := false }
def FnDownSaid : Prop := fnDownRow.holds Try.pinned (OpenSpec.ofChange fnDownSpec)

/-- ITS FALSE NEIGHBOUR: 'it returns false'. Refute it at one input. -/
def fnDownWrong : ChangeSpec := { name := "fnDown", fn := fun _ => fun
  | [d1, d2] => { results := [.lit (.bool false)], args := [d1, d2] }
  | _ => none }
def FnDownWrongFalsely : Prop := fnDownRow.holds Try.pinned (OpenSpec.ofChange fnDownWrong)

/-- 'laws.FnSpan': WHATEVER THE INPUT: true; the input reads as it did. -/
def fnSpanSpec : ChangeSpec := { name := "fnSpan", fn := fun _ => fun
  | [d1, d2] => { results := [.lit (.bool true)], args := [d1, d2] }
  | _ => none }
def fnSpanRow : OpenClaim := { program := "ytfkjdiaeblcimaa", sum := "931e732e1aab4a09e6f6d48720df1cd51a9e2c45184eba5203c988864fafddc1", func := "loop.example/g00658/laws.FnSpan", spec := "fnSpan", inPlace := ["slices.overlaps[loop.example/g00658/impl.Span]"], unfollowed := true, recurses := true, apart := false }
def FnSpanSaid : Prop := fnSpanRow.holds Try.pinned (OpenSpec.ofChange fnSpanSpec)

/-- ITS FALSE NEIGHBOUR: 'it returns false'. Refute it at one input. -/
def fnSpanWrong : ChangeSpec := { name := "fnSpan", fn := fun _ => fun
  | [d1, d2] => { results := [.lit (.bool false)], args := [d1, d2] }
  | _ => none }
def FnSpanWrongFalsely : Prop := fnSpanRow.holds Try.pinned (OpenSpec.ofChange fnSpanWrong)

/- THE SECOND FORM. 'bulk': how many values and letters a reading holds, each counted each time it is reached (what is shared counts as often as it is met; a slice's spare places count too). A statement '..UptoSaid' is the law's where the arguments, and the package variables that the reading takes, are together of bulk at most 1048576: NARROWER than '..Said'. Prove '..Said' where nothing that the law and all that it calls make is longer than what came in: it says more and counts as full. Else prove '..UptoSaid'. A law counts once. -/
mutual
def uptoBulk {H : Type} : DataW H → Nat
  | .lit (.string bytes) => bytes.length + 1
  | .lit _ => 1
  | .nil => 1
  | .ptr d => uptoBulk d + 1
  | .slice elems spare => uptoBulkAll elems + uptoBulkAll spare + 1
  | .agg parts => uptoBulkAll parts + 1
  | .iface _ d => uptoBulk d + 1
  | .map entries => uptoBulkEntries entries + 1
  | .held _ => 1
def uptoBulkAll {H : Type} : List (DataW H) → Nat
  | [] => 0
  | d :: r => uptoBulk d + uptoBulkAll r
def uptoBulkEntries {H : Type} : List (Lit × DataW H) → Nat
  | [] => 0
  | x :: r => uptoBulkEntry x + uptoBulkEntries r
def uptoBulkEntry {H : Type} : Lit × DataW H → Nat
  | (.string bytes, d) => bytes.length + uptoBulk d + 1
  | (_, d) => uptoBulk d + 1
 end
def uptoSmall : (H : Type) → List (DataW H) → Bool := fun _ ds => decide (uptoBulkAll ds ≤ 1048576)
def OpenSpec.upto (s : _root_.Go.ChangeSpec) : _root_.Go.OpenSpec := { _root_.Go.OpenSpec.ofChange s with cond := some uptoSmall }

/-- 'laws.FnExactLetDown', WHERE WHAT IT READS IS OF BULK AT MOST 1048576: true; the input reads as it did. -/
def fnExactLetDownUptoRow : OpenClaim := { program := "ytfkjdiaeblcimaa", sum := "931e732e1aab4a09e6f6d48720df1cd51a9e2c45184eba5203c988864fafddc1", func := "loop.example/g00658/laws.FnExactLetDown", spec := "fnExactLetDown", unfollowed := true, recurses := true, apart := false, narrowed := true }
def FnExactLetDownUptoSaid : Prop := fnExactLetDownUptoRow.holds Try.pinned (OpenSpec.upto fnExactLetDownSpec)

/-- 'laws.FnExactPoolNew', WHERE WHAT IT READS IS OF BULK AT MOST 1048576: true; the input reads as it did. -/
def fnExactPoolNewUptoRow : OpenClaim := { program := "ytfkjdiaeblcimaa", sum := "931e732e1aab4a09e6f6d48720df1cd51a9e2c45184eba5203c988864fafddc1", func := "loop.example/g00658/laws.FnExactPoolNew", spec := "fnExactPoolNew", unfollowed := true, recurses := true, apart := false, narrowed := true }
def FnExactPoolNewUptoSaid : Prop := fnExactPoolNewUptoRow.holds Try.pinned (OpenSpec.upto fnExactPoolNewSpec)

/-- 'laws.FnExactSubmit', WHERE WHAT IT READS IS OF BULK AT MOST 1048576: true; the input reads as it did. -/
def fnExactSubmitUptoRow : OpenClaim := { program := "ytfkjdiaeblcimaa", sum := "931e732e1aab4a09e6f6d48720df1cd51a9e2c45184eba5203c988864fafddc1", func := "loop.example/g00658/laws.FnExactSubmit", spec := "fnExactSubmit", unfollowed := true, recurses := true, apart := false, narrowed := true }
def FnExactSubmitUptoSaid : Prop := fnExactSubmitUptoRow.holds Try.pinned (OpenSpec.upto fnExactSubmitSpec)

/-- 'laws.FnExactChange', WHERE WHAT IT READS IS OF BULK AT MOST 1048576: true; the input reads as it did. -/
def fnExactChangeUptoRow : OpenClaim := { program := "ytfkjdiaeblcimaa", sum := "931e732e1aab4a09e6f6d48720df1cd51a9e2c45184eba5203c988864fafddc1", func := "loop.example/g00658/laws.FnExactChange", spec := "fnExactChange", unfollowed := true, recurses := true, apart := false, narrowed := true }
def FnExactChangeUptoSaid : Prop := fnExactChangeUptoRow.holds Try.pinned (OpenSpec.upto fnExactChangeSpec)

/-- 'laws.FnExactSpanPut', WHERE WHAT IT READS IS OF BULK AT MOST 1048576: true; the input reads as it did. -/
def fnExactSpanPutUptoRow : OpenClaim := { program := "ytfkjdiaeblcimaa", sum := "931e732e1aab4a09e6f6d48720df1cd51a9e2c45184eba5203c988864fafddc1", func := "loop.example/g00658/laws.FnExactSpanPut", spec := "fnExactSpanPut", inPlace := ["slices.overlaps[loop.example/g00658/impl.Span]"], unfollowed := true, recurses := true, apart := false, narrowed := true }
def FnExactSpanPutUptoSaid : Prop := fnExactSpanPutUptoRow.holds Try.pinned (OpenSpec.upto fnExactSpanPutSpec)

/-- 'laws.FnNums', WHERE WHAT IT READS IS OF BULK AT MOST 1048576: true; the input reads as it did. -/
def fnNumsUptoRow : OpenClaim := { program := "ytfkjdiaeblcimaa", sum := "931e732e1aab4a09e6f6d48720df1cd51a9e2c45184eba5203c988864fafddc1", func := "loop.example/g00658/laws.FnNums", spec := "fnNums", apart := false, narrowed := true }
def FnNumsUptoSaid : Prop := fnNumsUptoRow.holds Try.pinned (OpenSpec.upto fnNumsSpec)

/-- 'laws.FnSeal', WHERE WHAT IT READS IS OF BULK AT MOST 1048576: true; the input reads as it did. -/
def fnSealUptoRow : OpenClaim := { program := "ytfkjdiaeblcimaa", sum := "931e732e1aab4a09e6f6d48720df1cd51a9e2c45184eba5203c988864fafddc1", func := "loop.example/g00658/laws.FnSeal", spec := "fnSeal", apart := false, narrowed := true }
def FnSealUptoSaid : Prop := fnSealUptoRow.holds Try.pinned (OpenSpec.upto fnSealSpec)

/-- 'laws.FnJob', WHERE WHAT IT READS IS OF BULK AT MOST 1048576: true; the input reads as it did. -/
def fnJobUptoRow : OpenClaim := { program := "ytfkjdiaeblcimaa", sum := "931e732e1aab4a09e6f6d48720df1cd51a9e2c45184eba5203c988864fafddc1", func := "loop.example/g00658/laws.FnJob", spec := "fnJob", unfollowed := true, recurses := true, apart := false, narrowed := true }
def FnJobUptoSaid : Prop := fnJobUptoRow.holds Try.pinned (OpenSpec.upto fnJobSpec)

/-- 'laws.FnDown', WHERE WHAT IT READS IS OF BULK AT MOST 1048576: true; the input reads as it did. -/
def fnDownUptoRow : OpenClaim := { program := "ytfkjdiaeblcimaa", sum := "931e732e1aab4a09e6f6d48720df1cd51a9e2c45184eba5203c988864fafddc1", func := "loop.example/g00658/laws.FnDown", spec := "fnDown", unfollowed := true, recurses := true, apart := false, narrowed := true }
def FnDownUptoSaid : Prop := fnDownUptoRow.holds Try.pinned (OpenSpec.upto fnDownSpec)

/-- 'laws.FnSpan', WHERE WHAT IT READS IS OF BULK AT MOST 1048576: true; the input reads as it did. -/
def fnSpanUptoRow : OpenClaim := { program := "ytfkjdiaeblcimaa", sum := "931e732e1aab4a09e6f6d48720df1cd51a9e2c45184eba5203c988864fafddc1", func := "loop.example/g00658/laws.FnSpan", spec := "fnSpan", inPlace := ["slices.overlaps[loop.example/g00658/impl.Span]"], unfollowed := true, recurses := true, apart := false, narrowed := true }
def FnSpanUptoSaid : Prop := fnSpanUptoRow.holds Try.pinned (OpenSpec.upto fnSpanSpec)

end Rows
end Go.Proofs.Ytfkjdiaeblcimaa

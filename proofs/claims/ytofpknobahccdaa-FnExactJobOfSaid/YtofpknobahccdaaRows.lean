/-
  No cell of these rows narrows 'for every input' (looked for: loops, veiled, ifaces, maps, wideKeys, modest, calm, conditions, laid).
  DERIVED. THE GIVEN ROWS OF THIS SEAT. 10 by the template 'for every input the law returns true; each argument reads behind the call as it read before'; 0 by the template 'total and deterministic' (their statements: YtofpknobahccdaaTotals.lean).
  GIVEN WITH THE SEED: the statements are not yours to turn. If you find one false, say at which input.
  Laid BY PROGRAM, IN A SANDBOX (cutbox-rows.mjs): the forced cells as the released guide's own fill.sh prints them over the translation a1f50b0adb1d5fff… (all of the seat's roots in one cut). By AI agents, Wed Nov 11 2026. No macro, syntax, notation, axiom, sorry.
-/
import Derived.Test.YtofpknobahccdaaChecked
import GoSem.Claim
import GoSem.ClaimJoined
import GoSem.ClaimMapViews
import Derived.JoinedTies
import Derived.KernelRfl
namespace Go.Proofs.Ytofpknobahccdaa
/- THE CELL 'sum', in the pinned program and in every row, IS THE sha256 OF THE DUMP (.gsa) THAT YtofpknobahccdaaProg.lean LOADS. Nothing in Lean hashes anything: it is a label: what it is worth is what the hold of that sum in a sandbox is worth. -/
noncomputable def Try.pinned : Pinned := { name := "ytofpknobahccdaa", sum := "a1f50b0adb1d5fff88efaf15b6dcd5723c2cd00732ff2a459b1f1bdeeebd06b0", checked := Try.checked }
namespace Rows
def none {H : Type} : Left H := { results := [], args := [] }

/-- 'laws.FnExactAhead': WHATEVER THE INPUT: true; the input reads as it did. -/
def fnExactAheadSpec : ChangeSpec := { name := "fnExactAhead", fn := fun _ => fun
  | [d1, d2] => { results := [.lit (.bool true)], args := [d1, d2] }
  | _ => none }
def fnExactAheadRow : OpenClaim := { program := "ytofpknobahccdaa", sum := "a1f50b0adb1d5fff88efaf15b6dcd5723c2cd00732ff2a459b1f1bdeeebd06b0", func := "loop.example/g00658/laws.FnExactAhead", spec := "fnExactAhead", apart := false }
def FnExactAheadSaid : Prop := fnExactAheadRow.holds Try.pinned (OpenSpec.ofChange fnExactAheadSpec)

/-- ITS FALSE NEIGHBOUR: 'it returns false'. Refute it at one input. -/
def fnExactAheadWrong : ChangeSpec := { name := "fnExactAhead", fn := fun _ => fun
  | [d1, d2] => { results := [.lit (.bool false)], args := [d1, d2] }
  | _ => none }
def FnExactAheadWrongFalsely : Prop := fnExactAheadRow.holds Try.pinned (OpenSpec.ofChange fnExactAheadWrong)

/-- 'laws.FnExactJobsRight': WHATEVER THE INPUT: true; the input reads as it did. -/
def fnExactJobsRightSpec : ChangeSpec := { name := "fnExactJobsRight", fn := fun _ => fun
  | [d] => { results := [.lit (.bool true)], args := [d] }
  | _ => none }
def fnExactJobsRightRow : OpenClaim := { program := "ytofpknobahccdaa", sum := "a1f50b0adb1d5fff88efaf15b6dcd5723c2cd00732ff2a459b1f1bdeeebd06b0", func := "loop.example/g00658/laws.FnExactJobsRight", spec := "fnExactJobsRight", apart := false }
def FnExactJobsRightSaid : Prop := fnExactJobsRightRow.holds Try.pinned (OpenSpec.ofChange fnExactJobsRightSpec)

/-- ITS FALSE NEIGHBOUR: 'it returns false'. Refute it at one input. -/
def fnExactJobsRightWrong : ChangeSpec := { name := "fnExactJobsRight", fn := fun _ => fun
  | [d] => { results := [.lit (.bool false)], args := [d] }
  | _ => none }
def FnExactJobsRightWrongFalsely : Prop := fnExactJobsRightRow.holds Try.pinned (OpenSpec.ofChange fnExactJobsRightWrong)

/-- 'laws.FnExactFitNodes': WHATEVER THE INPUT: true; the input reads as it did. -/
def fnExactFitNodesSpec : ChangeSpec := { name := "fnExactFitNodes", fn := fun _ => fun
  | [d1, d2, d3] => { results := [.lit (.bool true)], args := [d1, d2, d3] }
  | _ => none }
def fnExactFitNodesRow : OpenClaim := { program := "ytofpknobahccdaa", sum := "a1f50b0adb1d5fff88efaf15b6dcd5723c2cd00732ff2a459b1f1bdeeebd06b0", func := "loop.example/g00658/laws.FnExactFitNodes", spec := "fnExactFitNodes", unfollowed := true, recurses := true, apart := false }
def FnExactFitNodesSaid : Prop := fnExactFitNodesRow.holds Try.pinned (OpenSpec.ofChange fnExactFitNodesSpec)

/-- ITS FALSE NEIGHBOUR: 'it returns false'. Refute it at one input. -/
def fnExactFitNodesWrong : ChangeSpec := { name := "fnExactFitNodes", fn := fun _ => fun
  | [d1, d2, d3] => { results := [.lit (.bool false)], args := [d1, d2, d3] }
  | _ => none }
def FnExactFitNodesWrongFalsely : Prop := fnExactFitNodesRow.holds Try.pinned (OpenSpec.ofChange fnExactFitNodesWrong)

/-- 'laws.FnExactBoxRight': WHATEVER THE INPUT: true; the input reads as it did. -/
def fnExactBoxRightSpec : ChangeSpec := { name := "fnExactBoxRight", fn := fun _ => fun
  | [d] => { results := [.lit (.bool true)], args := [d] }
  | _ => none }
def fnExactBoxRightRow : OpenClaim := { program := "ytofpknobahccdaa", sum := "a1f50b0adb1d5fff88efaf15b6dcd5723c2cd00732ff2a459b1f1bdeeebd06b0", func := "loop.example/g00658/laws.FnExactBoxRight", spec := "fnExactBoxRight", unfollowed := true, recurses := true, apart := false }
def FnExactBoxRightSaid : Prop := fnExactBoxRightRow.holds Try.pinned (OpenSpec.ofChange fnExactBoxRightSpec)

/-- ITS FALSE NEIGHBOUR: 'it returns false'. Refute it at one input. -/
def fnExactBoxRightWrong : ChangeSpec := { name := "fnExactBoxRight", fn := fun _ => fun
  | [d] => { results := [.lit (.bool false)], args := [d] }
  | _ => none }
def FnExactBoxRightWrongFalsely : Prop := fnExactBoxRightRow.holds Try.pinned (OpenSpec.ofChange fnExactBoxRightWrong)

/-- 'laws.FnExactSpanPut': WHATEVER THE INPUT: true; the input reads as it did. -/
def fnExactSpanPutSpec : ChangeSpec := { name := "fnExactSpanPut", fn := fun _ => fun
  | [d1, d2] => { results := [.lit (.bool true)], args := [d1, d2] }
  | _ => none }
def fnExactSpanPutRow : OpenClaim := { program := "ytofpknobahccdaa", sum := "a1f50b0adb1d5fff88efaf15b6dcd5723c2cd00732ff2a459b1f1bdeeebd06b0", func := "loop.example/g00658/laws.FnExactSpanPut", spec := "fnExactSpanPut", inPlace := ["slices.overlaps[loop.example/g00658/impl.Span]"], unfollowed := true, recurses := true, apart := false }
def FnExactSpanPutSaid : Prop := fnExactSpanPutRow.holds Try.pinned (OpenSpec.ofChange fnExactSpanPutSpec)

/-- ITS FALSE NEIGHBOUR: 'it returns false'. Refute it at one input. -/
def fnExactSpanPutWrong : ChangeSpec := { name := "fnExactSpanPut", fn := fun _ => fun
  | [d1, d2] => { results := [.lit (.bool false)], args := [d1, d2] }
  | _ => none }
def FnExactSpanPutWrongFalsely : Prop := fnExactSpanPutRow.holds Try.pinned (OpenSpec.ofChange fnExactSpanPutWrong)

/-- 'laws.FnExactReads': WHATEVER THE INPUT: true; the input reads as it did. -/
def fnExactReadsSpec : ChangeSpec := { name := "fnExactReads", fn := fun _ => fun
  | [d1, d2] => { results := [.lit (.bool true)], args := [d1, d2] }
  | _ => none }
def fnExactReadsRow : OpenClaim := { program := "ytofpknobahccdaa", sum := "a1f50b0adb1d5fff88efaf15b6dcd5723c2cd00732ff2a459b1f1bdeeebd06b0", func := "loop.example/g00658/laws.FnExactReads", spec := "fnExactReads", unfollowed := true, recurses := true, apart := false }
def FnExactReadsSaid : Prop := fnExactReadsRow.holds Try.pinned (OpenSpec.ofChange fnExactReadsSpec)

/-- ITS FALSE NEIGHBOUR: 'it returns false'. Refute it at one input. -/
def fnExactReadsWrong : ChangeSpec := { name := "fnExactReads", fn := fun _ => fun
  | [d1, d2] => { results := [.lit (.bool false)], args := [d1, d2] }
  | _ => none }
def FnExactReadsWrongFalsely : Prop := fnExactReadsRow.holds Try.pinned (OpenSpec.ofChange fnExactReadsWrong)

/-- 'laws.FnExactJobOf': WHATEVER THE INPUT: true; the input reads as it did. -/
def fnExactJobOfSpec : ChangeSpec := { name := "fnExactJobOf", fn := fun _ => fun
  | [d1, d2, d3] => { results := [.lit (.bool true)], args := [d1, d2, d3] }
  | _ => none }
def fnExactJobOfRow : OpenClaim := { program := "ytofpknobahccdaa", sum := "a1f50b0adb1d5fff88efaf15b6dcd5723c2cd00732ff2a459b1f1bdeeebd06b0", func := "loop.example/g00658/laws.FnExactJobOf", spec := "fnExactJobOf", unfollowed := true, recurses := true, apart := false }
def FnExactJobOfSaid : Prop := fnExactJobOfRow.holds Try.pinned (OpenSpec.ofChange fnExactJobOfSpec)

/-- ITS FALSE NEIGHBOUR: 'it returns false'. Refute it at one input. -/
def fnExactJobOfWrong : ChangeSpec := { name := "fnExactJobOf", fn := fun _ => fun
  | [d1, d2, d3] => { results := [.lit (.bool false)], args := [d1, d2, d3] }
  | _ => none }
def FnExactJobOfWrongFalsely : Prop := fnExactJobOfRow.holds Try.pinned (OpenSpec.ofChange fnExactJobOfWrong)

/-- 'laws.FnExactEntryRead': WHATEVER THE INPUT: true; the input reads as it did. -/
def fnExactEntryReadSpec : ChangeSpec := { name := "fnExactEntryRead", fn := fun _ => fun
  | [d] => { results := [.lit (.bool true)], args := [d] }
  | _ => none }
def fnExactEntryReadRow : OpenClaim := { program := "ytofpknobahccdaa", sum := "a1f50b0adb1d5fff88efaf15b6dcd5723c2cd00732ff2a459b1f1bdeeebd06b0", func := "loop.example/g00658/laws.FnExactEntryRead", spec := "fnExactEntryRead", apart := false }
def FnExactEntryReadSaid : Prop := fnExactEntryReadRow.holds Try.pinned (OpenSpec.ofChange fnExactEntryReadSpec)

/-- ITS FALSE NEIGHBOUR: 'it returns false'. Refute it at one input. -/
def fnExactEntryReadWrong : ChangeSpec := { name := "fnExactEntryRead", fn := fun _ => fun
  | [d] => { results := [.lit (.bool false)], args := [d] }
  | _ => none }
def FnExactEntryReadWrongFalsely : Prop := fnExactEntryReadRow.holds Try.pinned (OpenSpec.ofChange fnExactEntryReadWrong)

/-- 'laws.FnDown': WHATEVER THE INPUT: true; the input reads as it did. -/
def fnDownSpec : ChangeSpec := { name := "fnDown", fn := fun _ => fun
  | [d1, d2] => { results := [.lit (.bool true)], args := [d1, d2] }
  | _ => none }
def fnDownRow : OpenClaim := { program := "ytofpknobahccdaa", sum := "a1f50b0adb1d5fff88efaf15b6dcd5723c2cd00732ff2a459b1f1bdeeebd06b0", func := "loop.example/g00658/laws.FnDown", spec := "fnDown", unfollowed := true, recurses := true, apart := false }
def FnDownSaid : Prop := fnDownRow.holds Try.pinned (OpenSpec.ofChange fnDownSpec)

/-- ITS FALSE NEIGHBOUR: 'it returns false'. Refute it at one input. -/
def fnDownWrong : ChangeSpec := { name := "fnDown", fn := fun _ => fun
  | [d1, d2] => { results := [.lit (.bool false)], args := [d1, d2] }
  | _ => none }
def FnDownWrongFalsely : Prop := fnDownRow.holds Try.pinned (OpenSpec.ofChange fnDownWrong)

/-- 'laws.FnExactNextTime': WHATEVER THE INPUT: true; the input reads as it did. -/
def fnExactNextTimeSpec : ChangeSpec := { name := "fnExactNextTime", fn := fun _ => fun
  | [d] => { results := [.lit (.bool true)], args := [d] }
  | _ => none }
def fnExactNextTimeRow : OpenClaim := { program := "ytofpknobahccdaa", sum := "a1f50b0adb1d5fff88efaf15b6dcd5723c2cd00732ff2a459b1f1bdeeebd06b0", func := "loop.example/g00658/laws.FnExactNextTime", spec := "fnExactNextTime", unfollowed := true, recurses := true, apart := false }
def FnExactNextTimeSaid : Prop := fnExactNextTimeRow.holds Try.pinned (OpenSpec.ofChange fnExactNextTimeSpec)

/-- ITS FALSE NEIGHBOUR: 'it returns false'. Refute it at one input. -/
def fnExactNextTimeWrong : ChangeSpec := { name := "fnExactNextTime", fn := fun _ => fun
  | [d] => { results := [.lit (.bool false)], args := [d] }
  | _ => none }
def FnExactNextTimeWrongFalsely : Prop := fnExactNextTimeRow.holds Try.pinned (OpenSpec.ofChange fnExactNextTimeWrong)

/- THE SECOND FORM. 'bulk': how many values and letters a reading holds, each counted each time it is reached (what is shared counts as often as it is met; a slice's spare places count too). A statement '..UptoSaid' is the law's where the arguments, and the package variables that the reading takes, are together of bulk at most 1048576: NARROWER than '..Said'. Prove '..Said' where nothing that the law and all that it calls make is longer than what came in: it says more and counts as full. Else prove '..UptoSaid'. A law counts once. -/
mutual
def uptoBulk {H : Type} : DataW H → Nat
  | .lit (.string bytes) => bytes.length + 1
  | .lit _ => 1
  | .nil => 1
  | .ptr d => uptoBulk d + 1
  | .slice elems spare => uptoBulkAll elems + uptoBulkAll spare + 1
  | .agg parts => uptoBulkAll parts + 1
  | .iface _ d => uptoBulk d + 1
  | .map entries => uptoBulkEntries entries + 1
  | .held _ => 1
def uptoBulkAll {H : Type} : List (DataW H) → Nat
  | [] => 0
  | d :: r => uptoBulk d + uptoBulkAll r
def uptoBulkEntries {H : Type} : List (Lit × DataW H) → Nat
  | [] => 0
  | x :: r => uptoBulkEntry x + uptoBulkEntries r
def uptoBulkEntry {H : Type} : Lit × DataW H → Nat
  | (.string bytes, d) => bytes.length + uptoBulk d + 1
  | (_, d) => uptoBulk d + 1
 end
def uptoSmall : (H : Type) → List (DataW H) → Bool := fun _ ds => decide (uptoBulkAll ds ≤ 1048576)
def OpenSpec.upto (s : _root_.Go.ChangeSpec) : _root_.Go.OpenSpec := { _root_.Go.OpenSpec.ofChange s with cond := some uptoSmall }

/-- 'laws.FnExactAhead', WHERE WHAT IT READS IS OF BULK AT MOST 1048576: true; the input reads as it did. -/
def fnExactAheadUptoRow : OpenClaim := { program := "ytofpknobahccdaa", sum := "a1f50b0adb1d5fff88efaf15b6dcd5723c2cd00732ff2a459b1f1bdeeebd06b0", func := "loop.example/g00658/laws.FnExactAhead", spec := "fnExactAhead", apart := false, narrowed := true }
def FnExactAheadUptoSaid : Prop := fnExactAheadUptoRow.holds Try.pinned (OpenSpec.upto fnExactAheadSpec)

/-- 'laws.FnExactJobsRight', WHERE WHAT IT READS IS OF BULK AT MOST 1048576: true; the input reads as it did. -/
def fnExactJobsRightUptoRow : OpenClaim := { program := "ytofpknobahccdaa", sum := "a1f50b0adb1d5fff88efaf15b6dcd5723c2cd00732ff2a459b1f1bdeeebd06b0", func := "loop.example/g00658/laws.FnExactJobsRight", spec := "fnExactJobsRight", apart := false, narrowed := true }
def FnExactJobsRightUptoSaid : Prop := fnExactJobsRightUptoRow.holds Try.pinned (OpenSpec.upto fnExactJobsRightSpec)

/-- 'laws.FnExactFitNodes', WHERE WHAT IT READS IS OF BULK AT MOST 1048576: true; the input reads as it did. -/
def fnExactFitNodesUptoRow : OpenClaim := { program := "ytofpknobahccdaa", sum := "a1f50b0adb1d5fff88efaf15b6dcd5723c2cd00732ff2a459b1f1bdeeebd06b0", func := "loop.example/g00658/laws.FnExactFitNodes", spec := "fnExactFitNodes", unfollowed := true, recurses := true, apart := false, narrowed := true }
def FnExactFitNodesUptoSaid : Prop := fnExactFitNodesUptoRow.holds Try.pinned (OpenSpec.upto fnExactFitNodesSpec)

/-- 'laws.FnExactBoxRight', WHERE WHAT IT READS IS OF BULK AT MOST 1048576: true; the input reads as it did. -/
def fnExactBoxRightUptoRow : OpenClaim := { program := "ytofpknobahccdaa", sum := "a1f50b0adb1d5fff88efaf15b6dcd5723c2cd00732ff2a459b1f1bdeeebd06b0", func := "loop.example/g00658/laws.FnExactBoxRight", spec := "fnExactBoxRight", unfollowed := true, recurses := true, apart := false, narrowed := true }
def FnExactBoxRightUptoSaid : Prop := fnExactBoxRightUptoRow.holds Try.pinned (OpenSpec.upto fnExactBoxRightSpec)

/-- 'laws.FnExactSpanPut', WHERE WHAT IT READS IS OF BULK AT MOST 1048576: true; the input reads as it did. -/
def fnExactSpanPutUptoRow : OpenClaim := { program := "ytofpknobahccdaa", sum := "a1f50b0adb1d5fff88efaf15b6dcd5723c2cd00732ff2a459b1f1bdeeebd06b0", func := "loop.example/g00658/laws.FnExactSpanPut", spec := "fnExactSpanPut", inPlace := ["slices.overlaps[loop.example/g00658/impl.Span]"], unfollowed := true, recurses := true, apart := false, narrowed := true }
def FnExactSpanPutUptoSaid : Prop := fnExactSpanPutUptoRow.holds Try.pinned (OpenSpec.upto fnExactSpanPutSpec)

/-- 'laws.FnExactReads', WHERE WHAT IT READS IS OF BULK AT MOST 1048576: true; the input reads as it did. -/
def fnExactReadsUptoRow : OpenClaim := { program := "ytofpknobahccdaa", sum := "a1f50b0adb1d5fff88efaf15b6dcd5723c2cd00732ff2a459b1f1bdeeebd06b0", func := "loop.example/g00658/laws.FnExactReads", spec := "fnExactReads", unfollowed := true, recurses := true, apart := false, narrowed := true }
def FnExactReadsUptoSaid : Prop := fnExactReadsUptoRow.holds Try.pinned (OpenSpec.upto fnExactReadsSpec)

/-- 'laws.FnExactJobOf', WHERE WHAT IT READS IS OF BULK AT MOST 1048576: true; the input reads as it did. -/
def fnExactJobOfUptoRow : OpenClaim := { program := "ytofpknobahccdaa", sum := "a1f50b0adb1d5fff88efaf15b6dcd5723c2cd00732ff2a459b1f1bdeeebd06b0", func := "loop.example/g00658/laws.FnExactJobOf", spec := "fnExactJobOf", unfollowed := true, recurses := true, apart := false, narrowed := true }
def FnExactJobOfUptoSaid : Prop := fnExactJobOfUptoRow.holds Try.pinned (OpenSpec.upto fnExactJobOfSpec)

/-- 'laws.FnExactEntryRead', WHERE WHAT IT READS IS OF BULK AT MOST 1048576: true; the input reads as it did. -/
def fnExactEntryReadUptoRow : OpenClaim := { program := "ytofpknobahccdaa", sum := "a1f50b0adb1d5fff88efaf15b6dcd5723c2cd00732ff2a459b1f1bdeeebd06b0", func := "loop.example/g00658/laws.FnExactEntryRead", spec := "fnExactEntryRead", apart := false, narrowed := true }
def FnExactEntryReadUptoSaid : Prop := fnExactEntryReadUptoRow.holds Try.pinned (OpenSpec.upto fnExactEntryReadSpec)

/-- 'laws.FnDown', WHERE WHAT IT READS IS OF BULK AT MOST 1048576: true; the input reads as it did. -/
def fnDownUptoRow : OpenClaim := { program := "ytofpknobahccdaa", sum := "a1f50b0adb1d5fff88efaf15b6dcd5723c2cd00732ff2a459b1f1bdeeebd06b0", func := "loop.example/g00658/laws.FnDown", spec := "fnDown", unfollowed := true, recurses := true, apart := false, narrowed := true }
def FnDownUptoSaid : Prop := fnDownUptoRow.holds Try.pinned (OpenSpec.upto fnDownSpec)

/-- 'laws.FnExactNextTime', WHERE WHAT IT READS IS OF BULK AT MOST 1048576: true; the input reads as it did. -/
def fnExactNextTimeUptoRow : OpenClaim := { program := "ytofpknobahccdaa", sum := "a1f50b0adb1d5fff88efaf15b6dcd5723c2cd00732ff2a459b1f1bdeeebd06b0", func := "loop.example/g00658/laws.FnExactNextTime", spec := "fnExactNextTime", unfollowed := true, recurses := true, apart := false, narrowed := true }
def FnExactNextTimeUptoSaid : Prop := fnExactNextTimeUptoRow.holds Try.pinned (OpenSpec.upto fnExactNextTimeSpec)

end Rows
end Go.Proofs.Ytofpknobahccdaa

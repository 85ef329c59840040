/-
  No cell of these rows narrows 'for every input' (looked for: loops, veiled, ifaces, maps, wideKeys, modest, calm, conditions, laid).
  DERIVED. THE GIVEN ROWS OF THIS SEAT. 7 by the template 'for every input the law returns true; each argument reads behind the call as it read before'; 0 by the template 'total and deterministic' (their statements: YtkekfncgpbileaaTotals.lean).
  GIVEN WITH THE SEED: the statements are not yours to turn. If you find one false, say at which input.
  Laid BY PROGRAM, IN A SANDBOX (cutbox-rows.mjs): the forced cells as the released guide's own fill.sh prints them over the translation 2607c4bb1a3757c4… (all of the seat's roots in one cut). By AI agents, Wed Nov 11 2026. No macro, syntax, notation, axiom, sorry.
-/
import Derived.Test.YtkekfncgpbileaaChecked
import GoSem.Claim
import GoSem.ClaimJoined
import GoSem.ClaimMapViews
import Derived.JoinedTies
import Derived.KernelRfl
namespace Go.Proofs.Ytkekfncgpbileaa
/- THE CELL 'sum', in the pinned program and in every row, IS THE sha256 OF THE DUMP (.gsa) THAT YtkekfncgpbileaaProg.lean LOADS. Nothing in Lean hashes anything: it is a label: what it is worth is what the hold of that sum in a sandbox is worth. -/
noncomputable def Try.pinned : Pinned := { name := "ytkekfncgpbileaa", sum := "2607c4bb1a3757c49b079349f7b7633c48e5d6cca47b8b9bc48e4c49a7ac9c1b", checked := Try.checked }
namespace Rows
def none {H : Type} : Left H := { results := [], args := [] }

/-- 'laws.FnExactLetDown': WHATEVER THE INPUT: true; the input reads as it did. -/
def fnExactLetDownSpec : ChangeSpec := { name := "fnExactLetDown", fn := fun _ => fun
  | [d1, d2, d3, d4] => { results := [.lit (.bool true)], args := [d1, d2, d3, d4] }
  | _ => none }
def fnExactLetDownRow : OpenClaim := { program := "ytkekfncgpbileaa", sum := "2607c4bb1a3757c49b079349f7b7633c48e5d6cca47b8b9bc48e4c49a7ac9c1b", func := "loop.example/g00658/laws.FnExactLetDown", spec := "fnExactLetDown", unfollowed := true, recurses := true, apart := false }
def FnExactLetDownSaid : Prop := fnExactLetDownRow.holds Try.pinned (OpenSpec.ofChange fnExactLetDownSpec)

/-- ITS FALSE NEIGHBOUR: 'it returns false'. Refute it at one input. -/
def fnExactLetDownWrong : ChangeSpec := { name := "fnExactLetDown", fn := fun _ => fun
  | [d1, d2, d3, d4] => { results := [.lit (.bool false)], args := [d1, d2, d3, d4] }
  | _ => none }
def FnExactLetDownWrongFalsely : Prop := fnExactLetDownRow.holds Try.pinned (OpenSpec.ofChange fnExactLetDownWrong)

/-- 'laws.FnSpan': WHATEVER THE INPUT: true; the input reads as it did. -/
def fnSpanSpec : ChangeSpec := { name := "fnSpan", fn := fun _ => fun
  | [d1, d2] => { results := [.lit (.bool true)], args := [d1, d2] }
  | _ => none }
def fnSpanRow : OpenClaim := { program := "ytkekfncgpbileaa", sum := "2607c4bb1a3757c49b079349f7b7633c48e5d6cca47b8b9bc48e4c49a7ac9c1b", func := "loop.example/g00658/laws.FnSpan", spec := "fnSpan", inPlace := ["slices.overlaps[loop.example/g00658/impl.Span]"], unfollowed := true, recurses := true, apart := false }
def FnSpanSaid : Prop := fnSpanRow.holds Try.pinned (OpenSpec.ofChange fnSpanSpec)

/-- ITS FALSE NEIGHBOUR: 'it returns false'. Refute it at one input. -/
def fnSpanWrong : ChangeSpec := { name := "fnSpan", fn := fun _ => fun
  | [d1, d2] => { results := [.lit (.bool false)], args := [d1, d2] }
  | _ => none }
def FnSpanWrongFalsely : Prop := fnSpanRow.holds Try.pinned (OpenSpec.ofChange fnSpanWrong)

/-- 'laws.FnDown': WHATEVER THE INPUT: true; the input reads as it did. -/
def fnDownSpec : ChangeSpec := { name := "fnDown", fn := fun _ => fun
  | [d1, d2] => { results := [.lit (.bool true)], args := [d1, d2] }
  | _ => none }
def fnDownRow : OpenClaim := { program := "ytkekfncgpbileaa", sum := "2607c4bb1a3757c49b079349f7b7633c48e5d6cca47b8b9bc48e4c49a7ac9c1b", func := "loop.example/g00658/laws.FnDown", spec := "fnDown", unfollowed := true, recurses := true, apart := false }
def FnDownSaid : Prop := fnDownRow.holds Try.pinned (OpenSpec.ofChange fnDownSpec)

/-- ITS FALSE NEIGHBOUR: 'it returns false'. Refute it at one input. -/
def fnDownWrong : ChangeSpec := { name := "fnDown", fn := fun _ => fun
  | [d1, d2] => { results := [.lit (.bool false)], args := [d1, d2] }
  | _ => none }
def FnDownWrongFalsely : Prop := fnDownRow.holds Try.pinned (OpenSpec.ofChange fnDownWrong)

/-- 'laws.FnExactConfigRight': WHATEVER THE INPUT: true; the input reads as it did. -/
def fnExactConfigRightSpec : ChangeSpec := { name := "fnExactConfigRight", fn := fun _ => fun
  | [d] => { results := [.lit (.bool true)], args := [d] }
  | _ => none }
def fnExactConfigRightRow : OpenClaim := { program := "ytkekfncgpbileaa", sum := "2607c4bb1a3757c49b079349f7b7633c48e5d6cca47b8b9bc48e4c49a7ac9c1b", func := "loop.example/g00658/laws.FnExactConfigRight", spec := "fnExactConfigRight", unfollowed := true, recurses := true, apart := false }
def FnExactConfigRightSaid : Prop := fnExactConfigRightRow.holds Try.pinned (OpenSpec.ofChange fnExactConfigRightSpec)

/-- ITS FALSE NEIGHBOUR: 'it returns false'. Refute it at one input. -/
def fnExactConfigRightWrong : ChangeSpec := { name := "fnExactConfigRight", fn := fun _ => fun
  | [d] => { results := [.lit (.bool false)], args := [d] }
  | _ => none }
def FnExactConfigRightWrongFalsely : Prop := fnExactConfigRightRow.holds Try.pinned (OpenSpec.ofChange fnExactConfigRightWrong)

/-- 'laws.FnExactPairAt': WHATEVER THE INPUT: true; the input reads as it did. -/
def fnExactPairAtSpec : ChangeSpec := { name := "fnExactPairAt", fn := fun _ => fun
  | [d1, d2, d3] => { results := [.lit (.bool true)], args := [d1, d2, d3] }
  | _ => none }
def fnExactPairAtRow : OpenClaim := { program := "ytkekfncgpbileaa", sum := "2607c4bb1a3757c49b079349f7b7633c48e5d6cca47b8b9bc48e4c49a7ac9c1b", func := "loop.example/g00658/laws.FnExactPairAt", spec := "fnExactPairAt", unfollowed := true, recurses := true, apart := false }
def FnExactPairAtSaid : Prop := fnExactPairAtRow.holds Try.pinned (OpenSpec.ofChange fnExactPairAtSpec)

/-- ITS FALSE NEIGHBOUR: 'it returns false'. Refute it at one input. -/
def fnExactPairAtWrong : ChangeSpec := { name := "fnExactPairAt", fn := fun _ => fun
  | [d1, d2, d3] => { results := [.lit (.bool false)], args := [d1, d2, d3] }
  | _ => none }
def FnExactPairAtWrongFalsely : Prop := fnExactPairAtRow.holds Try.pinned (OpenSpec.ofChange fnExactPairAtWrong)

/-- 'laws.FnExactQuotaOf': WHATEVER THE INPUT: true; the input reads as it did. -/
def fnExactQuotaOfSpec : ChangeSpec := { name := "fnExactQuotaOf", fn := fun _ => fun
  | [d1, d2] => { results := [.lit (.bool true)], args := [d1, d2] }
  | _ => none }
def fnExactQuotaOfRow : OpenClaim := { program := "ytkekfncgpbileaa", sum := "2607c4bb1a3757c49b079349f7b7633c48e5d6cca47b8b9bc48e4c49a7ac9c1b", func := "loop.example/g00658/laws.FnExactQuotaOf", spec := "fnExactQuotaOf", unfollowed := true, recurses := true, apart := false }
def FnExactQuotaOfSaid : Prop := fnExactQuotaOfRow.holds Try.pinned (OpenSpec.ofChange fnExactQuotaOfSpec)

/-- ITS FALSE NEIGHBOUR: 'it returns false'. Refute it at one input. -/
def fnExactQuotaOfWrong : ChangeSpec := { name := "fnExactQuotaOf", fn := fun _ => fun
  | [d1, d2] => { results := [.lit (.bool false)], args := [d1, d2] }
  | _ => none }
def FnExactQuotaOfWrongFalsely : Prop := fnExactQuotaOfRow.holds Try.pinned (OpenSpec.ofChange fnExactQuotaOfWrong)

/-- 'laws.FnExactLabelsOf': WHATEVER THE INPUT: true; the input reads as it did. -/
def fnExactLabelsOfSpec : ChangeSpec := { name := "fnExactLabelsOf", fn := fun _ => fun
  | [d] => { results := [.lit (.bool true)], args := [d] }
  | _ => none }
def fnExactLabelsOfRow : OpenClaim := { program := "ytkekfncgpbileaa", sum := "2607c4bb1a3757c49b079349f7b7633c48e5d6cca47b8b9bc48e4c49a7ac9c1b", func := "loop.example/g00658/laws.FnExactLabelsOf", spec := "fnExactLabelsOf", unfollowed := true, recurses := true, apart := false }
def FnExactLabelsOfSaid : Prop := fnExactLabelsOfRow.holds Try.pinned (OpenSpec.ofChange fnExactLabelsOfSpec)

/-- ITS FALSE NEIGHBOUR: 'it returns false'. Refute it at one input. -/
def fnExactLabelsOfWrong : ChangeSpec := { name := "fnExactLabelsOf", fn := fun _ => fun
  | [d] => { results := [.lit (.bool false)], args := [d] }
  | _ => none }
def FnExactLabelsOfWrongFalsely : Prop := fnExactLabelsOfRow.holds Try.pinned (OpenSpec.ofChange fnExactLabelsOfWrong)

/- THE SECOND FORM. 'bulk': how many values and letters a reading holds, each counted each time it is reached (what is shared counts as often as it is met; a slice's spare places count too). A statement '..UptoSaid' is the law's where the arguments, and the package variables that the reading takes, are together of bulk at most 1048576: NARROWER than '..Said'. Prove '..Said' where nothing that the law and all that it calls make is longer than what came in: it says more and counts as full. Else prove '..UptoSaid'. A law counts once. -/
mutual
def uptoBulk {H : Type} : DataW H → Nat
  | .lit (.string bytes) => bytes.length + 1
  | .lit _ => 1
  | .nil => 1
  | .ptr d => uptoBulk d + 1
  | .slice elems spare => uptoBulkAll elems + uptoBulkAll spare + 1
  | .agg parts => uptoBulkAll parts + 1
  | .iface _ d => uptoBulk d + 1
  | .map entries => uptoBulkEntries entries + 1
  | .held _ => 1
def uptoBulkAll {H : Type} : List (DataW H) → Nat
  | [] => 0
  | d :: r => uptoBulk d + uptoBulkAll r
def uptoBulkEntries {H : Type} : List (Lit × DataW H) → Nat
  | [] => 0
  | x :: r => uptoBulkEntry x + uptoBulkEntries r
def uptoBulkEntry {H : Type} : Lit × DataW H → Nat
  | (.string bytes, d) => bytes.length + uptoBulk d + 1
  | (_, d) => uptoBulk d + 1
 end
def uptoSmall : (H : Type) → List (DataW H) → Bool := fun _ ds => decide (uptoBulkAll ds ≤ 1048576)
def OpenSpec.upto (s : _root_.Go.ChangeSpec) : _root_.Go.OpenSpec := { _root_.Go.OpenSpec.ofChange s with cond := some uptoSmall }

/-- 'laws.FnExactLetDown', WHERE WHAT IT READS IS OF BULK AT MOST 1048576: true; the input reads as it did. -/
def fnExactLetDownUptoRow : OpenClaim := { program := "ytkekfncgpbileaa", sum := "2607c4bb1a3757c49b079349f7b7633c48e5d6cca47b8b9bc48e4c49a7ac9c1b", func := "loop.example/g00658/laws.FnExactLetDown", spec := "fnExactLetDown", unfollowed := true, recurses := true, apart := false, narrowed := true }
def FnExactLetDownUptoSaid : Prop := fnExactLetDownUptoRow.holds Try.pinned (OpenSpec.upto fnExactLetDownSpec)

/-- 'laws.FnSpan', WHERE WHAT IT READS IS OF BULK AT MOST 1048576: true; the input reads as it did. -/
def fnSpanUptoRow : OpenClaim := { program := "ytkekfncgpbileaa", sum := "2607c4bb1a3757c49b079349f7b7633c48e5d6cca47b8b9bc48e4c49a7ac9c1b", func := "loop.example/g00658/laws.FnSpan", spec := "fnSpan", inPlace := ["slices.overlaps[loop.example/g00658/impl.Span]"], unfollowed := true, recurses := true, apart := false, narrowed := true }
def FnSpanUptoSaid : Prop := fnSpanUptoRow.holds Try.pinned (OpenSpec.upto fnSpanSpec)

/-- 'laws.FnDown', WHERE WHAT IT READS IS OF BULK AT MOST 1048576: true; the input reads as it did. -/
def fnDownUptoRow : OpenClaim := { program := "ytkekfncgpbileaa", sum := "2607c4bb1a3757c49b079349f7b7633c48e5d6cca47b8b9bc48e4c49a7ac9c1b", func := "loop.example/g00658/laws.FnDown", spec := "fnDown", unfollowed := true, recurses := true, apart := false, narrowed := true }
def FnDownUptoSaid : Prop := fnDownUptoRow.holds Try.pinned (OpenSpec.upto fnDownSpec)

/-- 'laws.FnExactConfigRight', WHERE WHAT IT READS IS OF BULK AT MOST 1048576: true; the input reads as it did. -/
def fnExactConfigRightUptoRow : OpenClaim := { program := "ytkekfncgpbileaa", sum := "2607c4bb1a3757c49b079349f7b7633c48e5d6cca47b8b9bc48e4c49a7ac9c1b", func := "loop.example/g00658/laws.FnExactConfigRight", spec := "fnExactConfigRight", unfollowed := true, recurses := true, apart := false, narrowed := true }
def FnExactConfigRightUptoSaid : Prop := fnExactConfigRightUptoRow.holds Try.pinned (OpenSpec.upto fnExactConfigRightSpec)

/-- 'laws.FnExactPairAt', WHERE WHAT IT READS IS OF BULK AT MOST 1048576: true; the input reads as it did. -/
def fnExactPairAtUptoRow : OpenClaim := { program := "ytkekfncgpbileaa", sum := "2607c4bb1a3757c49b079349f7b7633c48e5d6cca47b8b9bc48e4c49a7ac9c1b", func := "loop.example/g00658/laws.FnExactPairAt", spec := "fnExactPairAt", unfollowed := true, recurses := true, apart := false, narrowed := true }
def FnExactPairAtUptoSaid : Prop := fnExactPairAtUptoRow.holds Try.pinned (OpenSpec.upto fnExactPairAtSpec)

/-- 'laws.FnExactQuotaOf', WHERE WHAT IT READS IS OF BULK AT MOST 1048576: true; the input reads as it did. -/
def fnExactQuotaOfUptoRow : OpenClaim := { program := "ytkekfncgpbileaa", sum := "2607c4bb1a3757c49b079349f7b7633c48e5d6cca47b8b9bc48e4c49a7ac9c1b", func := "loop.example/g00658/laws.FnExactQuotaOf", spec := "fnExactQuotaOf", unfollowed := true, recurses := true, apart := false, narrowed := true }
def FnExactQuotaOfUptoSaid : Prop := fnExactQuotaOfUptoRow.holds Try.pinned (OpenSpec.upto fnExactQuotaOfSpec)

/-- 'laws.FnExactLabelsOf', WHERE WHAT IT READS IS OF BULK AT MOST 1048576: true; the input reads as it did. -/
def fnExactLabelsOfUptoRow : OpenClaim := { program := "ytkekfncgpbileaa", sum := "2607c4bb1a3757c49b079349f7b7633c48e5d6cca47b8b9bc48e4c49a7ac9c1b", func := "loop.example/g00658/laws.FnExactLabelsOf", spec := "fnExactLabelsOf", unfollowed := true, recurses := true, apart := false, narrowed := true }
def FnExactLabelsOfUptoSaid : Prop := fnExactLabelsOfUptoRow.holds Try.pinned (OpenSpec.upto fnExactLabelsOfSpec)

end Rows
end Go.Proofs.Ytkekfncgpbileaa

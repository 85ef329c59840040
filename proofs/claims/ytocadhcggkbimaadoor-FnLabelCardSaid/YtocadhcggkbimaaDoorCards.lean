/-
  DERIVED. GIVEN WITH THE SEED: THE CARDS: each row of YtocadhcggkbimaaDoorRows.lean that lists a variable, with what it lists TIED to the program's text (the seventh form; the later family's looks); each row that meets fmt, with fmt's text TOLD by the authors' own Lean function (tested against real Go, not proved from fmt's source: count such statements apart). THE CARD IS WHAT COUNTS. Prove the row's statement (the work); the ties are given (YtocadhcggkbimaaDoorTie.lean); close each card by the builder's one call (the guide's Derived/Test/ToyasCard.lean, 'card_holds'). Laid BY PROGRAM, IN A SANDBOX (cutbox-door.mjs). By AI agents, Wed Nov 11 2026. No macro, syntax, notation, axiom, sorry.
-/
import Derived.Test.YtocadhcggkbimaaDoorRows
import GoSem.ClaimSeven
namespace Go.Proofs.YtocadhcggkbimaaDoor
namespace Rows

/-- THE TIED CARD OF 'laws.FnLabel'. -/
def fnLabelCard : Claim7 := { stood := { row := fnLabelRow, standIns := [], harness := (true, "8f94e7dc7e11953ef1c430f93a99dfce3974d177b5bc5ff50c3cb8309eac8c09"), looks := false }, kinds := [], alts := [], laidByText := true, laidKinds := [.data, .data, .data], laidTests := true, laidLooks := .later }
def FnLabelCardSaid : Prop := Claim7.holds Tryd.pinned (.plain (OpenSpec.ofChange fnLabelSpec)) fnLabelCard

/-- THE SECOND FORM's CARD OF 'laws.FnLabel'. -/
def fnLabelUptoCard : Claim7 := { stood := { row := fnLabelUptoRow, standIns := [], harness := (true, "8f94e7dc7e11953ef1c430f93a99dfce3974d177b5bc5ff50c3cb8309eac8c09"), looks := false }, kinds := [], alts := [], laidByText := true, laidKinds := [.data, .data, .data], laidTests := true, laidLooks := .later }
def FnLabelUptoCardSaid : Prop := Claim7.holds Tryd.pinned (.plain (OpenSpec.upto fnLabelSpec)) fnLabelUptoCard
end Rows
end Go.Proofs.YtocadhcggkbimaaDoor

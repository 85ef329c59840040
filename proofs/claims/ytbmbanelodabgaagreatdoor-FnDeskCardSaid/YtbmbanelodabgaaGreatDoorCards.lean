/-
  DERIVED. GIVEN WITH THE SEED: THE CARDS: each row of YtbmbanelodabgaaGreatDoorRows.lean that lists a variable, with what it lists TIED to the program's text (the seventh form; the later family's looks); each row that meets fmt, with fmt's text TOLD by the authors' own Lean function (tested against real Go, not proved from fmt's source: count such statements apart). THE CARD IS WHAT COUNTS. Prove the row's statement (the work); the ties are given (YtbmbanelodabgaaGreatDoorTie.lean); close each card by the builder's one call (the guide's Derived/Test/ToyasCard.lean, 'card_holds'). Laid BY PROGRAM, IN A SANDBOX (cutbox-door.mjs). By AI agents, Wed Nov 11 2026. No macro, syntax, notation, axiom, sorry.
-/
import Derived.Test.YtbmbanelodabgaaGreatDoorRows
import GoSem.ClaimSeven
namespace Go.Proofs.YtbmbanelodabgaaGreatDoor
namespace Rows

/-- THE TIED CARD OF 'laws.FnExactDeskRun'. -/
def fnExactDeskRunCard : Claim7 := { stood := { row := fnExactDeskRunRow, standIns := [], harness := (true, "c26f0ab103b08aee983fa441c184b20c81432984890954fefdce08cffd99a61b"), looks := true }, kinds := [], alts := [], laidByText := true, laidKinds := [.data, .data, .data, .data, .sentinel, .sentinel, .pinned], laidTests := true, laidLooks := .later }
def FnExactDeskRunCardSaid : Prop := Claim7.holds Tryz.pinned (.plain (OpenSpec.ofChange fnExactDeskRunSpec)) fnExactDeskRunCard

/-- THE TIED CARD OF 'laws.FnExactDeskFault'. -/
def fnExactDeskFaultCard : Claim7 := { stood := { row := fnExactDeskFaultRow, standIns := [], harness := (true, "c26f0ab103b08aee983fa441c184b20c81432984890954fefdce08cffd99a61b"), looks := true }, kinds := [], alts := [], laidByText := true, laidKinds := [.data, .data, .data, .data, .sentinel, .sentinel, .pinned], laidTests := true, laidLooks := .later }
def FnExactDeskFaultCardSaid : Prop := Claim7.holds Tryz.pinned (.plain (OpenSpec.ofChange fnExactDeskFaultSpec)) fnExactDeskFaultCard

/-- THE TIED CARD OF 'laws.FnDesk'. -/
def fnDeskCard : Claim7 := { stood := { row := fnDeskRow, standIns := [], harness := (true, "c26f0ab103b08aee983fa441c184b20c81432984890954fefdce08cffd99a61b"), looks := true }, kinds := [], alts := [], laidByText := true, laidKinds := [.data, .data, .data, .data, .sentinel, .sentinel, .pinned], laidTests := true, laidLooks := .later }
def FnDeskCardSaid : Prop := Claim7.holds Tryz.pinned (.plain (OpenSpec.ofChange fnDeskSpec)) fnDeskCard

/-- THE SECOND FORM's CARD OF 'laws.FnExactDeskRun'. -/
def fnExactDeskRunUptoCard : Claim7 := { stood := { row := fnExactDeskRunUptoRow, standIns := [], harness := (true, "c26f0ab103b08aee983fa441c184b20c81432984890954fefdce08cffd99a61b"), looks := true }, kinds := [], alts := [], laidByText := true, laidKinds := [.data, .data, .data, .data, .sentinel, .sentinel, .pinned], laidTests := true, laidLooks := .later }
def FnExactDeskRunUptoCardSaid : Prop := Claim7.holds Tryz.pinned (.plain (OpenSpec.upto fnExactDeskRunSpec)) fnExactDeskRunUptoCard

/-- THE SECOND FORM's CARD OF 'laws.FnExactDeskFault'. -/
def fnExactDeskFaultUptoCard : Claim7 := { stood := { row := fnExactDeskFaultUptoRow, standIns := [], harness := (true, "c26f0ab103b08aee983fa441c184b20c81432984890954fefdce08cffd99a61b"), looks := true }, kinds := [], alts := [], laidByText := true, laidKinds := [.data, .data, .data, .data, .sentinel, .sentinel, .pinned], laidTests := true, laidLooks := .later }
def FnExactDeskFaultUptoCardSaid : Prop := Claim7.holds Tryz.pinned (.plain (OpenSpec.upto fnExactDeskFaultSpec)) fnExactDeskFaultUptoCard

/-- THE SECOND FORM's CARD OF 'laws.FnDesk'. -/
def fnDeskUptoCard : Claim7 := { stood := { row := fnDeskUptoRow, standIns := [], harness := (true, "c26f0ab103b08aee983fa441c184b20c81432984890954fefdce08cffd99a61b"), looks := true }, kinds := [], alts := [], laidByText := true, laidKinds := [.data, .data, .data, .data, .sentinel, .sentinel, .pinned], laidTests := true, laidLooks := .later }
def FnDeskUptoCardSaid : Prop := Claim7.holds Tryz.pinned (.plain (OpenSpec.upto fnDeskSpec)) fnDeskUptoCard
end Rows
end Go.Proofs.YtbmbanelodabgaaGreatDoor

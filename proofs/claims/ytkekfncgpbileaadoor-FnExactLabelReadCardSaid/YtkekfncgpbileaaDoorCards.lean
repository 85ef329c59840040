/-
  DERIVED. GIVEN WITH THE SEED: THE CARDS: each row of YtkekfncgpbileaaDoorRows.lean that lists a variable, with what it lists TIED to the program's text (the seventh form; the later family's looks); each row that meets fmt, with fmt's text TOLD by the authors' own Lean function (tested against real Go, not proved from fmt's source: count such statements apart). THE CARD IS WHAT COUNTS. Prove the row's statement (the work); the ties are given (YtkekfncgpbileaaDoorTie.lean); close each card by the builder's one call (the guide's Derived/Test/ToyasCard.lean, 'card_holds'). Laid BY PROGRAM, IN A SANDBOX (cutbox-door.mjs). By AI agents, Wed Nov 11 2026. No macro, syntax, notation, axiom, sorry.
-/
import Derived.Test.YtkekfncgpbileaaDoorRows
import GoSem.ClaimSeven
namespace Go.Proofs.YtkekfncgpbileaaDoor
namespace Rows

/-- THE TIED CARD OF 'laws.FnExactLabelText'. -/
def fnExactLabelTextCard : Claim7 := { stood := { row := fnExactLabelTextRow, standIns := [], harness := (true, "41e5e4a03c8ebf59fff065d51e9995ddabd79a1253f3d6a8c4138652b870661c"), looks := false }, kinds := [], alts := [], laidByText := true, laidKinds := [.data, .data, .data], laidTests := true, laidLooks := .later }
def FnExactLabelTextCardSaid : Prop := Claim7.holds Tryd.pinned (.plain (OpenSpec.ofChange fnExactLabelTextSpec)) fnExactLabelTextCard

/-- THE TIED CARD OF 'laws.FnExactLabelRead'. -/
def fnExactLabelReadCard : Claim7 := { stood := { row := fnExactLabelReadRow, standIns := [], harness := (true, "41e5e4a03c8ebf59fff065d51e9995ddabd79a1253f3d6a8c4138652b870661c"), looks := false }, kinds := [], alts := [], laidByText := true, laidKinds := [.data, .data, .data], laidTests := true, laidLooks := .later }
def FnExactLabelReadCardSaid : Prop := Claim7.holds Tryd.pinned (.plain (OpenSpec.ofChange fnExactLabelReadSpec)) fnExactLabelReadCard

/-- THE TIED CARD OF 'laws.FnLabel'. -/
def fnLabelCard : Claim7 := { stood := { row := fnLabelRow, standIns := [], harness := (true, "41e5e4a03c8ebf59fff065d51e9995ddabd79a1253f3d6a8c4138652b870661c"), looks := false }, kinds := [], alts := [], laidByText := true, laidKinds := [.data, .data, .data], laidTests := true, laidLooks := .later }
def FnLabelCardSaid : Prop := Claim7.holds Tryd.pinned (.plain (OpenSpec.ofChange fnLabelSpec)) fnLabelCard

/-- THE SECOND FORM's CARD OF 'laws.FnExactLabelText'. -/
def fnExactLabelTextUptoCard : Claim7 := { stood := { row := fnExactLabelTextUptoRow, standIns := [], harness := (true, "41e5e4a03c8ebf59fff065d51e9995ddabd79a1253f3d6a8c4138652b870661c"), looks := false }, kinds := [], alts := [], laidByText := true, laidKinds := [.data, .data, .data], laidTests := true, laidLooks := .later }
def FnExactLabelTextUptoCardSaid : Prop := Claim7.holds Tryd.pinned (.plain (OpenSpec.upto fnExactLabelTextSpec)) fnExactLabelTextUptoCard

/-- THE SECOND FORM's CARD OF 'laws.FnExactLabelRead'. -/
def fnExactLabelReadUptoCard : Claim7 := { stood := { row := fnExactLabelReadUptoRow, standIns := [], harness := (true, "41e5e4a03c8ebf59fff065d51e9995ddabd79a1253f3d6a8c4138652b870661c"), looks := false }, kinds := [], alts := [], laidByText := true, laidKinds := [.data, .data, .data], laidTests := true, laidLooks := .later }
def FnExactLabelReadUptoCardSaid : Prop := Claim7.holds Tryd.pinned (.plain (OpenSpec.upto fnExactLabelReadSpec)) fnExactLabelReadUptoCard

/-- THE SECOND FORM's CARD OF 'laws.FnLabel'. -/
def fnLabelUptoCard : Claim7 := { stood := { row := fnLabelUptoRow, standIns := [], harness := (true, "41e5e4a03c8ebf59fff065d51e9995ddabd79a1253f3d6a8c4138652b870661c"), looks := false }, kinds := [], alts := [], laidByText := true, laidKinds := [.data, .data, .data], laidTests := true, laidLooks := .later }
def FnLabelUptoCardSaid : Prop := Claim7.holds Tryd.pinned (.plain (OpenSpec.upto fnLabelSpec)) fnLabelUptoCard
end Rows
end Go.Proofs.YtkekfncgpbileaaDoor

/-
  DERIVED. GIVEN WITH THE SEED: THE CARDS: each row of YtfoonohjjeofhaaGreatDoorRows.lean that lists a variable, with what it lists TIED to the program's text (the seventh form; the later family's looks); each row that meets fmt, with fmt's text TOLD by the authors' own Lean function (tested against real Go, not proved from fmt's source: count such statements apart). THE CARD IS WHAT COUNTS. Prove the row's statement (the work); the ties are given (YtfoonohjjeofhaaGreatDoorTie.lean); close each card by the builder's one call (the guide's Derived/Test/ToyasCard.lean, 'card_holds'). Laid BY PROGRAM, IN A SANDBOX (cutbox-door.mjs). By AI agents, Wed Nov 11 2026. No macro, syntax, notation, axiom, sorry.
-/
import Derived.Test.YtfoonohjjeofhaaGreatDoorRows
import GoSem.ClaimSeven
namespace Go.Proofs.YtfoonohjjeofhaaGreatDoor
namespace Rows

/-- THE TIED CARD OF 'tactuslaw34.BracketPlain'. -/
def bracketPlainCard : Claim7 := { stood := { row := bracketPlainRow, standIns := [], harness := (true, "3294c951462b3cfab3be0d1ca5c91e1df0397218d152b1e23ccb139b60b81116"), looks := true }, kinds := [], alts := [], laidByText := true, laidKinds := [.data, .data, .data], laidTests := true, laidLooks := .later }
def BracketPlainCardSaid : Prop := Claim7.holds Tryz.pinned (.plain (OpenSpec.ofChange bracketPlainSpec)) bracketPlainCard

/-- THE TIED CARD OF 'tactuslaw34.BracketChecks'. -/
def bracketChecksCard : Claim7 := { stood := { row := bracketChecksRow, standIns := [], harness := (true, "3294c951462b3cfab3be0d1ca5c91e1df0397218d152b1e23ccb139b60b81116"), looks := true }, kinds := [], alts := [], laidByText := true, laidKinds := [.data, .data, .data], laidTests := true, laidLooks := .later }
def BracketChecksCardSaid : Prop := Claim7.holds Tryz.pinned (.plain (OpenSpec.ofChange bracketChecksSpec)) bracketChecksCard

/-- THE TIED CARD OF 'tactuslaw34.BracketKnown'. -/
def bracketKnownCard : Claim7 := { stood := { row := bracketKnownRow, standIns := [], harness := (true, "3294c951462b3cfab3be0d1ca5c91e1df0397218d152b1e23ccb139b60b81116"), looks := true }, kinds := [], alts := [], laidByText := true, laidKinds := [.data, .data, .data], laidTests := true, laidLooks := .later }
def BracketKnownCardSaid : Prop := Claim7.holds Tryz.pinned (.plain (OpenSpec.ofChange bracketKnownSpec)) bracketKnownCard

/-- THE TIED CARD OF 'tactuslaw34.BracketPassed'. -/
def bracketPassedCard : Claim7 := { stood := { row := bracketPassedRow, standIns := [], harness := (true, "3294c951462b3cfab3be0d1ca5c91e1df0397218d152b1e23ccb139b60b81116"), looks := true }, kinds := [], alts := [], laidByText := true, laidKinds := [.data, .data, .data], laidTests := true, laidLooks := .later }
def BracketPassedCardSaid : Prop := Claim7.holds Tryz.pinned (.plain (OpenSpec.ofChange bracketPassedSpec)) bracketPassedCard

/-- THE TIED CARD OF 'tactuslaw34.BracketValid'. -/
def bracketValidCard : Claim7 := { stood := { row := bracketValidRow, standIns := [], harness := (true, "3294c951462b3cfab3be0d1ca5c91e1df0397218d152b1e23ccb139b60b81116"), looks := true }, kinds := [], alts := [], laidByText := true, laidKinds := [.data, .data, .data], laidTests := true, laidLooks := .later }
def BracketValidCardSaid : Prop := Claim7.holds Tryz.pinned (.plain (OpenSpec.ofChange bracketValidSpec)) bracketValidCard

/-- THE SECOND FORM's CARD OF 'tactuslaw34.BracketPlain'. -/
def bracketPlainUptoCard : Claim7 := { stood := { row := bracketPlainUptoRow, standIns := [], harness := (true, "3294c951462b3cfab3be0d1ca5c91e1df0397218d152b1e23ccb139b60b81116"), looks := true }, kinds := [], alts := [], laidByText := true, laidKinds := [.data, .data, .data], laidTests := true, laidLooks := .later }
def BracketPlainUptoCardSaid : Prop := Claim7.holds Tryz.pinned (.plain (OpenSpec.upto bracketPlainSpec)) bracketPlainUptoCard

/-- THE SECOND FORM's CARD OF 'tactuslaw34.BracketChecks'. -/
def bracketChecksUptoCard : Claim7 := { stood := { row := bracketChecksUptoRow, standIns := [], harness := (true, "3294c951462b3cfab3be0d1ca5c91e1df0397218d152b1e23ccb139b60b81116"), looks := true }, kinds := [], alts := [], laidByText := true, laidKinds := [.data, .data, .data], laidTests := true, laidLooks := .later }
def BracketChecksUptoCardSaid : Prop := Claim7.holds Tryz.pinned (.plain (OpenSpec.upto bracketChecksSpec)) bracketChecksUptoCard

/-- THE SECOND FORM's CARD OF 'tactuslaw34.BracketKnown'. -/
def bracketKnownUptoCard : Claim7 := { stood := { row := bracketKnownUptoRow, standIns := [], harness := (true, "3294c951462b3cfab3be0d1ca5c91e1df0397218d152b1e23ccb139b60b81116"), looks := true }, kinds := [], alts := [], laidByText := true, laidKinds := [.data, .data, .data], laidTests := true, laidLooks := .later }
def BracketKnownUptoCardSaid : Prop := Claim7.holds Tryz.pinned (.plain (OpenSpec.upto bracketKnownSpec)) bracketKnownUptoCard

/-- THE SECOND FORM's CARD OF 'tactuslaw34.BracketPassed'. -/
def bracketPassedUptoCard : Claim7 := { stood := { row := bracketPassedUptoRow, standIns := [], harness := (true, "3294c951462b3cfab3be0d1ca5c91e1df0397218d152b1e23ccb139b60b81116"), looks := true }, kinds := [], alts := [], laidByText := true, laidKinds := [.data, .data, .data], laidTests := true, laidLooks := .later }
def BracketPassedUptoCardSaid : Prop := Claim7.holds Tryz.pinned (.plain (OpenSpec.upto bracketPassedSpec)) bracketPassedUptoCard

/-- THE SECOND FORM's CARD OF 'tactuslaw34.BracketValid'. -/
def bracketValidUptoCard : Claim7 := { stood := { row := bracketValidUptoRow, standIns := [], harness := (true, "3294c951462b3cfab3be0d1ca5c91e1df0397218d152b1e23ccb139b60b81116"), looks := true }, kinds := [], alts := [], laidByText := true, laidKinds := [.data, .data, .data], laidTests := true, laidLooks := .later }
def BracketValidUptoCardSaid : Prop := Claim7.holds Tryz.pinned (.plain (OpenSpec.upto bracketValidSpec)) bracketValidUptoCard
end Rows
end Go.Proofs.YtfoonohjjeofhaaGreatDoor

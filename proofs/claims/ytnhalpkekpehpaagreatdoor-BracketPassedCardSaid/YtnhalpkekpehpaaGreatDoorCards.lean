/-
  DERIVED. GIVEN WITH THE SEED: THE CARDS: each row of YtnhalpkekpehpaaGreatDoorRows.lean that lists a variable, with what it lists TIED to the program's text (the seventh form; the later family's looks); each row that meets fmt, with fmt's text TOLD by the authors' own Lean function (tested against real Go, not proved from fmt's source: count such statements apart). THE CARD IS WHAT COUNTS. Prove the row's statement (the work); the ties are given (YtnhalpkekpehpaaGreatDoorTie.lean); close each card by the builder's one call (the guide's Derived/Test/ToyasCard.lean, 'card_holds'). Laid BY PROGRAM, IN A SANDBOX (cutbox-door.mjs). By AI agents, Wed Nov 11 2026. No macro, syntax, notation, axiom, sorry.
-/
import Derived.Test.YtnhalpkekpehpaaGreatDoorRows
import GoSem.ClaimSeven
namespace Go.Proofs.YtnhalpkekpehpaaGreatDoor
namespace Rows

/-- THE TIED CARD OF 'tactuslaw34.BracketPassed'. -/
def bracketPassedCard : Claim7 := { stood := { row := bracketPassedRow, standIns := [], harness := (true, "f1e298373b790985b12e6fafbe663a6de96b12e278627e57fc70ce333f75069a"), looks := true }, kinds := [], alts := [], laidByText := true, laidKinds := [.data, .data, .data], laidTests := true, laidLooks := .later }
def BracketPassedCardSaid : Prop := Claim7.holds Tryz.pinned (.plain (OpenSpec.ofChange bracketPassedSpec)) bracketPassedCard

/-- THE TIED CARD OF 'tactuslaw34.BracketValid'. -/
def bracketValidCard : Claim7 := { stood := { row := bracketValidRow, standIns := [], harness := (true, "f1e298373b790985b12e6fafbe663a6de96b12e278627e57fc70ce333f75069a"), looks := true }, kinds := [], alts := [], laidByText := true, laidKinds := [.data, .data, .data], laidTests := true, laidLooks := .later }
def BracketValidCardSaid : Prop := Claim7.holds Tryz.pinned (.plain (OpenSpec.ofChange bracketValidSpec)) bracketValidCard

/-- THE SECOND FORM's CARD OF 'tactuslaw34.BracketPassed'. -/
def bracketPassedUptoCard : Claim7 := { stood := { row := bracketPassedUptoRow, standIns := [], harness := (true, "f1e298373b790985b12e6fafbe663a6de96b12e278627e57fc70ce333f75069a"), looks := true }, kinds := [], alts := [], laidByText := true, laidKinds := [.data, .data, .data], laidTests := true, laidLooks := .later }
def BracketPassedUptoCardSaid : Prop := Claim7.holds Tryz.pinned (.plain (OpenSpec.upto bracketPassedSpec)) bracketPassedUptoCard

/-- THE SECOND FORM's CARD OF 'tactuslaw34.BracketValid'. -/
def bracketValidUptoCard : Claim7 := { stood := { row := bracketValidUptoRow, standIns := [], harness := (true, "f1e298373b790985b12e6fafbe663a6de96b12e278627e57fc70ce333f75069a"), looks := true }, kinds := [], alts := [], laidByText := true, laidKinds := [.data, .data, .data], laidTests := true, laidLooks := .later }
def BracketValidUptoCardSaid : Prop := Claim7.holds Tryz.pinned (.plain (OpenSpec.upto bracketValidSpec)) bracketValidUptoCard
end Rows
end Go.Proofs.YtnhalpkekpehpaaGreatDoor

/-
  DERIVED. GIVEN WITH THE SEED: THE CARDS: each row of YteclhllliigapaaGreatDoorRows.lean that lists a variable, with what it lists TIED to the program's text (the seventh form; the later family's looks); each row that meets fmt, with fmt's text TOLD by the authors' own Lean function (tested against real Go, not proved from fmt's source: count such statements apart). THE CARD IS WHAT COUNTS. Prove the row's statement (the work); the ties are given (YteclhllliigapaaGreatDoorTie.lean); close each card by the builder's one call (the guide's Derived/Test/ToyasCard.lean, 'card_holds'). Laid BY PROGRAM, IN A SANDBOX (cutbox-door.mjs). By AI agents, Wed Nov 11 2026. No macro, syntax, notation, axiom, sorry.
-/
import Derived.Test.YteclhllliigapaaGreatDoorRows
import GoSem.ClaimSeven
namespace Go.Proofs.YteclhllliigapaaGreatDoor
namespace Rows

/-- THE TIED CARD OF 'tactuslaw20.ReadingsKnown'. -/
def readingsKnownCard : Claim7 := { stood := { row := readingsKnownRow, standIns := [], harness := (true, "aac8772f6fd999d93b8717c6f6c0fa78a5246188d67233290391f36432e6aece"), looks := true }, kinds := [], alts := [], laidByText := true, laidKinds := [.data, .data, .data], laidTests := true, laidLooks := .later }
def ReadingsKnownCardSaid : Prop := Claim7.holds Tryz.pinned (.plain (OpenSpec.ofChange readingsKnownSpec)) readingsKnownCard

/-- THE SECOND FORM's CARD OF 'tactuslaw20.ReadingsKnown'. -/
def readingsKnownUptoCard : Claim7 := { stood := { row := readingsKnownUptoRow, standIns := [], harness := (true, "aac8772f6fd999d93b8717c6f6c0fa78a5246188d67233290391f36432e6aece"), looks := true }, kinds := [], alts := [], laidByText := true, laidKinds := [.data, .data, .data], laidTests := true, laidLooks := .later }
def ReadingsKnownUptoCardSaid : Prop := Claim7.holds Tryz.pinned (.plain (OpenSpec.upto readingsKnownSpec)) readingsKnownUptoCard
end Rows
end Go.Proofs.YteclhllliigapaaGreatDoor

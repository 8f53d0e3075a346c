/-
  DERIVED. GIVEN WITH THE SEED: THE CARDS: each row of YtkmhecihkckcmaaGreatDoorRows.lean that lists a variable, with what it lists TIED to the program's text (the seventh form; the later family's looks); each row that meets fmt, with fmt's text TOLD by the authors' own Lean function (tested against real Go, not proved from fmt's source: count such statements apart). THE CARD IS WHAT COUNTS. Prove the row's statement (the work); the ties are given (YtkmhecihkckcmaaGreatDoorTie.lean); close each card by the builder's one call (the guide's Derived/Test/ToyasCard.lean, 'card_holds'). Laid BY PROGRAM, IN A SANDBOX (cutbox-door.mjs). By AI agents, Wed Nov 11 2026. No macro, syntax, notation, axiom, sorry.
-/
import Derived.Test.YtkmhecihkckcmaaGreatDoorRows
import GoSem.ClaimSeven
namespace Go.Proofs.YtkmhecihkckcmaaGreatDoor
namespace Rows

/-- THE TIED CARD OF 'tactuslaw34.BracketChecks'. -/
def bracketChecksCard : Claim7 := { stood := { row := bracketChecksRow, standIns := [], harness := (true, "587fdaefa97c694c1e1ff057533198831f288da85aff91aa94cf6baa34f7d9d9"), looks := true }, kinds := [], alts := [], laidByText := true, laidKinds := [.data, .data, .data], laidTests := true, laidLooks := .later }
def BracketChecksCardSaid : Prop := Claim7.holds Tryz.pinned (.plain (OpenSpec.ofChange bracketChecksSpec)) bracketChecksCard

/-- THE SECOND FORM's CARD OF 'tactuslaw34.BracketChecks'. -/
def bracketChecksUptoCard : Claim7 := { stood := { row := bracketChecksUptoRow, standIns := [], harness := (true, "587fdaefa97c694c1e1ff057533198831f288da85aff91aa94cf6baa34f7d9d9"), looks := true }, kinds := [], alts := [], laidByText := true, laidKinds := [.data, .data, .data], laidTests := true, laidLooks := .later }
def BracketChecksUptoCardSaid : Prop := Claim7.holds Tryz.pinned (.plain (OpenSpec.upto bracketChecksSpec)) bracketChecksUptoCard
end Rows
end Go.Proofs.YtkmhecihkckcmaaGreatDoor

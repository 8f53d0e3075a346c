/-
  DERIVED. GIVEN WITH THE SEED: THE CARDS: each row of YtgmmomlgklmedaaGreatDoorRows.lean that lists a variable, with what it lists TIED to the program's text (the seventh form; the later family's looks); each row that meets fmt, with fmt's text TOLD by the authors' own Lean function (tested against real Go, not proved from fmt's source: count such statements apart). THE CARD IS WHAT COUNTS. Prove the row's statement (the work); the ties are given (YtgmmomlgklmedaaGreatDoorTie.lean); close each card by the builder's one call (the guide's Derived/Test/ToyasCard.lean, 'card_holds'). Laid BY PROGRAM, IN A SANDBOX (cutbox-door.mjs). By AI agents, Wed Nov 11 2026. No macro, syntax, notation, axiom, sorry.
-/
import Derived.Test.YtgmmomlgklmedaaGreatDoorRows
import GoSem.ClaimSeven
namespace Go.Proofs.YtgmmomlgklmedaaGreatDoor
namespace Rows

/-- THE TIED CARD OF 'tactuslaw36.SourceMerges'. -/
def sourceMergesCard : Claim7 := { stood := { row := sourceMergesRow, standIns := [], harness := (true, "ecf5c233502b778348d0e0176e66f94f882bf7ac93d48475aa5dcfdb59bf4e72"), looks := true }, kinds := [], alts := [], laidByText := true, laidKinds := [.data, .data, .data], laidTests := true, laidLooks := .later }
def SourceMergesCardSaid : Prop := Claim7.holds Tryz.pinned (.plain (OpenSpec.ofChange sourceMergesSpec)) sourceMergesCard

/-- THE SECOND FORM's CARD OF 'tactuslaw36.SourceMerges'. -/
def sourceMergesUptoCard : Claim7 := { stood := { row := sourceMergesUptoRow, standIns := [], harness := (true, "ecf5c233502b778348d0e0176e66f94f882bf7ac93d48475aa5dcfdb59bf4e72"), looks := true }, kinds := [], alts := [], laidByText := true, laidKinds := [.data, .data, .data], laidTests := true, laidLooks := .later }
def SourceMergesUptoCardSaid : Prop := Claim7.holds Tryz.pinned (.plain (OpenSpec.upto sourceMergesSpec)) sourceMergesUptoCard
end Rows
end Go.Proofs.YtgmmomlgklmedaaGreatDoor

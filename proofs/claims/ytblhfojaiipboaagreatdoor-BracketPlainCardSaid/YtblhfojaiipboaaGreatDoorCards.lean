/-
  DERIVED. GIVEN WITH THE SEED: THE CARDS: each row of YtblhfojaiipboaaGreatDoorRows.lean that lists a variable, with what it lists TIED to the program's text (the seventh form; the later family's looks); each row that meets fmt, with fmt's text TOLD by the authors' own Lean function (tested against real Go, not proved from fmt's source: count such statements apart). THE CARD IS WHAT COUNTS. Prove the row's statement (the work); the ties are given (YtblhfojaiipboaaGreatDoorTie.lean); close each card by the builder's one call (the guide's Derived/Test/ToyasCard.lean, 'card_holds'). Laid BY PROGRAM, IN A SANDBOX (cutbox-door.mjs). By AI agents, Wed Nov 11 2026. No macro, syntax, notation, axiom, sorry.
-/
import Derived.Test.YtblhfojaiipboaaGreatDoorRows
import GoSem.ClaimSeven
namespace Go.Proofs.YtblhfojaiipboaaGreatDoor
namespace Rows

/-- THE TIED CARD OF 'tactuslaw34.BracketPlain'. -/
def bracketPlainCard : Claim7 := { stood := { row := bracketPlainRow, standIns := [], harness := (true, "b413cbbb8086118bce6f047fc41c7d364b4f8749cace0befc3d7c480b6c770a0"), looks := true }, kinds := [], alts := [], laidByText := true, laidKinds := [.data, .data, .data], laidTests := true, laidLooks := .later }
def BracketPlainCardSaid : Prop := Claim7.holds Tryz.pinned (.plain (OpenSpec.ofChange bracketPlainSpec)) bracketPlainCard

/-- THE SECOND FORM's CARD OF 'tactuslaw34.BracketPlain'. -/
def bracketPlainUptoCard : Claim7 := { stood := { row := bracketPlainUptoRow, standIns := [], harness := (true, "b413cbbb8086118bce6f047fc41c7d364b4f8749cace0befc3d7c480b6c770a0"), looks := true }, kinds := [], alts := [], laidByText := true, laidKinds := [.data, .data, .data], laidTests := true, laidLooks := .later }
def BracketPlainUptoCardSaid : Prop := Claim7.holds Tryz.pinned (.plain (OpenSpec.upto bracketPlainSpec)) bracketPlainUptoCard
end Rows
end Go.Proofs.YtblhfojaiipboaaGreatDoor

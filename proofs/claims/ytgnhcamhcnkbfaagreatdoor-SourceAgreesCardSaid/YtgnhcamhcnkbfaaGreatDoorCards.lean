/-
  DERIVED. GIVEN WITH THE SEED: THE CARDS: each row of YtgnhcamhcnkbfaaGreatDoorRows.lean that lists a variable, with what it lists TIED to the program's text (the seventh form; the later family's looks); each row that meets fmt, with fmt's text TOLD by the authors' own Lean function (tested against real Go, not proved from fmt's source: count such statements apart). THE CARD IS WHAT COUNTS. Prove the row's statement (the work); the ties are given (YtgnhcamhcnkbfaaGreatDoorTie.lean); close each card by the builder's one call (the guide's Derived/Test/ToyasCard.lean, 'card_holds'). Laid BY PROGRAM, IN A SANDBOX (cutbox-door.mjs). By AI agents, Wed Nov 11 2026. No macro, syntax, notation, axiom, sorry.
-/
import Derived.Test.YtgnhcamhcnkbfaaGreatDoorRows
import GoSem.ClaimSeven
namespace Go.Proofs.YtgnhcamhcnkbfaaGreatDoor
namespace Rows

/-- THE TIED CARD OF 'tactuslaw36.SourceAgrees'. -/
def sourceAgreesCard : Claim7 := { stood := { row := sourceAgreesRow, standIns := [], harness := (true, "4b33f2b5ff68d947da08e2d7cd75a3b0087d741202fad3fca5e02a7de9ced3cb"), looks := true }, kinds := [], alts := [], laidByText := true, laidKinds := [.data, .data, .data], laidTests := true, laidLooks := .later }
def SourceAgreesCardSaid : Prop := Claim7.holds Tryz.pinned (.plain (OpenSpec.ofChange sourceAgreesSpec)) sourceAgreesCard

/-- THE SECOND FORM's CARD OF 'tactuslaw36.SourceAgrees'. -/
def sourceAgreesUptoCard : Claim7 := { stood := { row := sourceAgreesUptoRow, standIns := [], harness := (true, "4b33f2b5ff68d947da08e2d7cd75a3b0087d741202fad3fca5e02a7de9ced3cb"), looks := true }, kinds := [], alts := [], laidByText := true, laidKinds := [.data, .data, .data], laidTests := true, laidLooks := .later }
def SourceAgreesUptoCardSaid : Prop := Claim7.holds Tryz.pinned (.plain (OpenSpec.upto sourceAgreesSpec)) sourceAgreesUptoCard
end Rows
end Go.Proofs.YtgnhcamhcnkbfaaGreatDoor

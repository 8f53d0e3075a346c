/-
  DERIVED. GIVEN WITH THE SEED: THE CARDS: each row of YtpndamekpdajmaaGreatDoorRows.lean that lists a variable, with what it lists TIED to the program's text (the seventh form; the later family's looks); each row that meets fmt, with fmt's text TOLD by the authors' own Lean function (tested against real Go, not proved from fmt's source: count such statements apart). THE CARD IS WHAT COUNTS. Prove the row's statement (the work); the ties are given (YtpndamekpdajmaaGreatDoorTie.lean); close each card by the builder's one call (the guide's Derived/Test/ToyasCard.lean, 'card_holds'). Laid BY PROGRAM, IN A SANDBOX (cutbox-door.mjs). By AI agents, Wed Nov 11 2026. No macro, syntax, notation, axiom, sorry.
-/
import Derived.Test.YtpndamekpdajmaaGreatDoorRows
import GoSem.ClaimSeven
namespace Go.Proofs.YtpndamekpdajmaaGreatDoor
namespace Rows

/-- THE TIED CARD OF 'tactuslaw36.SourceKnown'. -/
def sourceKnownCard : Claim7 := { stood := { row := sourceKnownRow, standIns := [], harness := (true, "b62d1af48ec2bd78dbe494f8faf00f617837e583f123f932696c056df2836ffc"), looks := true }, kinds := [], alts := [], laidByText := true, laidKinds := [.data, .data, .data], laidTests := true, laidLooks := .later }
def SourceKnownCardSaid : Prop := Claim7.holds Tryz.pinned (.plain (OpenSpec.ofChange sourceKnownSpec)) sourceKnownCard

/-- THE SECOND FORM's CARD OF 'tactuslaw36.SourceKnown'. -/
def sourceKnownUptoCard : Claim7 := { stood := { row := sourceKnownUptoRow, standIns := [], harness := (true, "b62d1af48ec2bd78dbe494f8faf00f617837e583f123f932696c056df2836ffc"), looks := true }, kinds := [], alts := [], laidByText := true, laidKinds := [.data, .data, .data], laidTests := true, laidLooks := .later }
def SourceKnownUptoCardSaid : Prop := Claim7.holds Tryz.pinned (.plain (OpenSpec.upto sourceKnownSpec)) sourceKnownUptoCard
end Rows
end Go.Proofs.YtpndamekpdajmaaGreatDoor

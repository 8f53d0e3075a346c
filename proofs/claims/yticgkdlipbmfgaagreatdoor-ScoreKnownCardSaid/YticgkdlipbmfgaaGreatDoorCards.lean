/-
  DERIVED. GIVEN WITH THE SEED: THE CARDS: each row of YticgkdlipbmfgaaGreatDoorRows.lean that lists a variable, with what it lists TIED to the program's text (the seventh form; the later family's looks); each row that meets fmt, with fmt's text TOLD by the authors' own Lean function (tested against real Go, not proved from fmt's source: count such statements apart). THE CARD IS WHAT COUNTS. Prove the row's statement (the work); the ties are given (YticgkdlipbmfgaaGreatDoorTie.lean); close each card by the builder's one call (the guide's Derived/Test/ToyasCard.lean, 'card_holds'). Laid BY PROGRAM, IN A SANDBOX (cutbox-door.mjs). By AI agents, Wed Nov 11 2026. No macro, syntax, notation, axiom, sorry.
-/
import Derived.Test.YticgkdlipbmfgaaGreatDoorRows
import GoSem.ClaimSeven
namespace Go.Proofs.YticgkdlipbmfgaaGreatDoor
namespace Rows

/-- THE TIED CARD OF 'tactuslaw35.ScoreKnown'. -/
def scoreKnownCard : Claim7 := { stood := { row := scoreKnownRow, standIns := [], harness := (true, "497b0af9ef7ca05dd2d5eb386bd32ad3aedc3b76943f04173146e4aa5075e2f0"), looks := false }, kinds := [], alts := [], laidByText := true, laidKinds := [.data, .data, .data, .data, .data], laidTests := true, laidLooks := .later }
def ScoreKnownCardSaid : Prop := Claim7.holds Tryz.pinned (.plain (OpenSpec.ofChange scoreKnownSpec)) scoreKnownCard

/-- THE SECOND FORM's CARD OF 'tactuslaw35.ScoreKnown'. -/
def scoreKnownUptoCard : Claim7 := { stood := { row := scoreKnownUptoRow, standIns := [], harness := (true, "497b0af9ef7ca05dd2d5eb386bd32ad3aedc3b76943f04173146e4aa5075e2f0"), looks := false }, kinds := [], alts := [], laidByText := true, laidKinds := [.data, .data, .data, .data, .data], laidTests := true, laidLooks := .later }
def ScoreKnownUptoCardSaid : Prop := Claim7.holds Tryz.pinned (.plain (OpenSpec.upto scoreKnownSpec)) scoreKnownUptoCard
end Rows
end Go.Proofs.YticgkdlipbmfgaaGreatDoor

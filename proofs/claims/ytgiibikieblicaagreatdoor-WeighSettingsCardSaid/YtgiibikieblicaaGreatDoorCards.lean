/-
  DERIVED. GIVEN WITH THE SEED: THE CARDS: each row of YtgiibikieblicaaGreatDoorRows.lean that lists a variable, with what it lists TIED to the program's text (the seventh form; the later family's looks); each row that meets fmt, with fmt's text TOLD by the authors' own Lean function (tested against real Go, not proved from fmt's source: count such statements apart). THE CARD IS WHAT COUNTS. Prove the row's statement (the work); the ties are given (YtgiibikieblicaaGreatDoorTie.lean); close each card by the builder's one call (the guide's Derived/Test/ToyasCard.lean, 'card_holds'). Laid BY PROGRAM, IN A SANDBOX (cutbox-door.mjs). By AI agents, Wed Nov 11 2026. No macro, syntax, notation, axiom, sorry.
-/
import Derived.Test.YtgiibikieblicaaGreatDoorRows
import GoSem.ClaimSeven
namespace Go.Proofs.YtgiibikieblicaaGreatDoor
namespace Rows

/-- THE TIED CARD OF 'tactuslaw38.WeighSettings'. -/
def weighSettingsCard : Claim7 := { stood := { row := weighSettingsRow, standIns := [], harness := (true, "0451322d219ba43b71d0496a3b0c52e77597b3dcf3c0f2018a8507c4acda32c4"), looks := false }, kinds := [], alts := [], laidByText := true, laidKinds := [.data, .data], laidTests := true, laidLooks := .later }
def WeighSettingsCardSaid : Prop := Claim7.holds Tryz.pinned (.plain (OpenSpec.ofChange weighSettingsSpec)) weighSettingsCard

/-- THE SECOND FORM's CARD OF 'tactuslaw38.WeighSettings'. -/
def weighSettingsUptoCard : Claim7 := { stood := { row := weighSettingsUptoRow, standIns := [], harness := (true, "0451322d219ba43b71d0496a3b0c52e77597b3dcf3c0f2018a8507c4acda32c4"), looks := false }, kinds := [], alts := [], laidByText := true, laidKinds := [.data, .data], laidTests := true, laidLooks := .later }
def WeighSettingsUptoCardSaid : Prop := Claim7.holds Tryz.pinned (.plain (OpenSpec.upto weighSettingsSpec)) weighSettingsUptoCard
end Rows
end Go.Proofs.YtgiibikieblicaaGreatDoor

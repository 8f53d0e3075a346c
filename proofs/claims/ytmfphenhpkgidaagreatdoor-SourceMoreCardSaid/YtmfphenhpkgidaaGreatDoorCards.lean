/-
  DERIVED. GIVEN WITH THE SEED: THE CARDS: each row of YtmfphenhpkgidaaGreatDoorRows.lean that lists a variable, with what it lists TIED to the program's text (the seventh form; the later family's looks); each row that meets fmt, with fmt's text TOLD by the authors' own Lean function (tested against real Go, not proved from fmt's source: count such statements apart). THE CARD IS WHAT COUNTS. Prove the row's statement (the work); the ties are given (YtmfphenhpkgidaaGreatDoorTie.lean); close each card by the builder's one call (the guide's Derived/Test/ToyasCard.lean, 'card_holds'). Laid BY PROGRAM, IN A SANDBOX (cutbox-door.mjs). By AI agents, Wed Nov 11 2026. No macro, syntax, notation, axiom, sorry.
-/
import Derived.Test.YtmfphenhpkgidaaGreatDoorRows
import GoSem.ClaimSeven
namespace Go.Proofs.YtmfphenhpkgidaaGreatDoor
namespace Rows

/-- THE TIED CARD OF 'tactuslaw36.SourceParts'. -/
def sourcePartsCard : Claim7 := { stood := { row := sourcePartsRow, standIns := [], harness := (true, "3bcf59335a0da9aa352234ab64428f1729174ab9d29a156500d8b6a37e05f908"), looks := true }, kinds := [], alts := [], laidByText := true, laidKinds := [.data, .data, .data], laidTests := true, laidLooks := .later }
def SourcePartsCardSaid : Prop := Claim7.holds Tryz.pinned (.plain (OpenSpec.ofChange sourcePartsSpec)) sourcePartsCard

/-- THE TIED CARD OF 'tactuslaw36.SourceExact'. -/
def sourceExactCard : Claim7 := { stood := { row := sourceExactRow, standIns := [], harness := (true, "3bcf59335a0da9aa352234ab64428f1729174ab9d29a156500d8b6a37e05f908"), looks := true }, kinds := [], alts := [], laidByText := true, laidKinds := [.data, .data, .data], laidTests := true, laidLooks := .later }
def SourceExactCardSaid : Prop := Claim7.holds Tryz.pinned (.plain (OpenSpec.ofChange sourceExactSpec)) sourceExactCard

/-- THE TIED CARD OF 'tactuslaw36.SourceMore'. -/
def sourceMoreCard : Claim7 := { stood := { row := sourceMoreRow, standIns := [], harness := (true, "3bcf59335a0da9aa352234ab64428f1729174ab9d29a156500d8b6a37e05f908"), looks := true }, kinds := [], alts := [], laidByText := true, laidKinds := [.data, .data, .data], laidTests := true, laidLooks := .later }
def SourceMoreCardSaid : Prop := Claim7.holds Tryz.pinned (.plain (OpenSpec.ofChange sourceMoreSpec)) sourceMoreCard

/-- THE SECOND FORM's CARD OF 'tactuslaw36.SourceParts'. -/
def sourcePartsUptoCard : Claim7 := { stood := { row := sourcePartsUptoRow, standIns := [], harness := (true, "3bcf59335a0da9aa352234ab64428f1729174ab9d29a156500d8b6a37e05f908"), looks := true }, kinds := [], alts := [], laidByText := true, laidKinds := [.data, .data, .data], laidTests := true, laidLooks := .later }
def SourcePartsUptoCardSaid : Prop := Claim7.holds Tryz.pinned (.plain (OpenSpec.upto sourcePartsSpec)) sourcePartsUptoCard

/-- THE SECOND FORM's CARD OF 'tactuslaw36.SourceExact'. -/
def sourceExactUptoCard : Claim7 := { stood := { row := sourceExactUptoRow, standIns := [], harness := (true, "3bcf59335a0da9aa352234ab64428f1729174ab9d29a156500d8b6a37e05f908"), looks := true }, kinds := [], alts := [], laidByText := true, laidKinds := [.data, .data, .data], laidTests := true, laidLooks := .later }
def SourceExactUptoCardSaid : Prop := Claim7.holds Tryz.pinned (.plain (OpenSpec.upto sourceExactSpec)) sourceExactUptoCard

/-- THE SECOND FORM's CARD OF 'tactuslaw36.SourceMore'. -/
def sourceMoreUptoCard : Claim7 := { stood := { row := sourceMoreUptoRow, standIns := [], harness := (true, "3bcf59335a0da9aa352234ab64428f1729174ab9d29a156500d8b6a37e05f908"), looks := true }, kinds := [], alts := [], laidByText := true, laidKinds := [.data, .data, .data], laidTests := true, laidLooks := .later }
def SourceMoreUptoCardSaid : Prop := Claim7.holds Tryz.pinned (.plain (OpenSpec.upto sourceMoreSpec)) sourceMoreUptoCard
end Rows
end Go.Proofs.YtmfphenhpkgidaaGreatDoor

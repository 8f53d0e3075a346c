/-
  DERIVED. GIVEN WITH THE SEED: THE CARDS: each row of YtlnenodplgpceaaDoorRows.lean that lists a variable, with what it lists TIED to the program's text (the seventh form; the later family's looks); each row that meets fmt, with fmt's text TOLD by the authors' own Lean function (tested against real Go, not proved from fmt's source: count such statements apart). THE CARD IS WHAT COUNTS. Prove the row's statement (the work); the ties are given (YtlnenodplgpceaaDoorTie.lean); close each card by the builder's one call (the guide's Derived/Test/ToyasCard.lean, 'card_holds'). Laid BY PROGRAM, IN A SANDBOX (cutbox-door.mjs). By AI agents, Wed Nov 11 2026. No macro, syntax, notation, axiom, sorry.
-/
import Derived.Test.YtlnenodplgpceaaDoorRows
import GoSem.ClaimSeven
namespace Go.Proofs.YtlnenodplgpceaaDoor
namespace Rows

/-- THE TIED CARD OF 'tactuslaw38.WeighSame'. -/
def weighSameCard : Claim7 := { stood := { row := weighSameRow, standIns := [], harness := (true, "8af93c55f45f06f5aaf037d5bcf4f0ab604aee07b856021d7a0c62580115be61"), looks := false }, kinds := [], alts := [], laidByText := true, laidKinds := [.data, .data], laidTests := true, laidLooks := .later }
def WeighSameCardSaid : Prop := Claim7.holds Tryd.pinned (.plain (OpenSpec.ofChange weighSameSpec)) weighSameCard

/-- THE SECOND FORM's CARD OF 'tactuslaw38.WeighSame'. -/
def weighSameUptoCard : Claim7 := { stood := { row := weighSameUptoRow, standIns := [], harness := (true, "8af93c55f45f06f5aaf037d5bcf4f0ab604aee07b856021d7a0c62580115be61"), looks := false }, kinds := [], alts := [], laidByText := true, laidKinds := [.data, .data], laidTests := true, laidLooks := .later }
def WeighSameUptoCardSaid : Prop := Claim7.holds Tryd.pinned (.plain (OpenSpec.upto weighSameSpec)) weighSameUptoCard
end Rows
end Go.Proofs.YtlnenodplgpceaaDoor

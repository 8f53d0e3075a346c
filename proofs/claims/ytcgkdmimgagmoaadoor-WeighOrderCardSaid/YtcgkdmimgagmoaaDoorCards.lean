/-
  DERIVED. GIVEN WITH THE SEED: THE CARDS: each row of YtcgkdmimgagmoaaDoorRows.lean that lists a variable, with what it lists TIED to the program's text (the seventh form; the later family's looks); each row that meets fmt, with fmt's text TOLD by the authors' own Lean function (tested against real Go, not proved from fmt's source: count such statements apart). THE CARD IS WHAT COUNTS. Prove the row's statement (the work); the ties are given (YtcgkdmimgagmoaaDoorTie.lean); close each card by the builder's one call (the guide's Derived/Test/ToyasCard.lean, 'card_holds'). Laid BY PROGRAM, IN A SANDBOX (cutbox-door.mjs). By AI agents, Wed Nov 11 2026. No macro, syntax, notation, axiom, sorry.
-/
import Derived.Test.YtcgkdmimgagmoaaDoorRows
import GoSem.ClaimSeven
namespace Go.Proofs.YtcgkdmimgagmoaaDoor
namespace Rows

/-- THE TIED CARD OF 'tactuslaw38.WeighOrder'. -/
def weighOrderCard : Claim7 := { stood := { row := weighOrderRow, standIns := [], harness := (true, "cb779e0af158415faa735387cf530dcd1872dd891927f48a753d69c52635244e"), looks := false }, kinds := [], alts := [], laidByText := true, laidKinds := [.data, .data], laidTests := true, laidLooks := .later }
def WeighOrderCardSaid : Prop := Claim7.holds Tryd.pinned (.plain (OpenSpec.ofChange weighOrderSpec)) weighOrderCard

/-- THE TIED CARD OF 'tactuslaw38.WeighSame'. -/
def weighSameCard : Claim7 := { stood := { row := weighSameRow, standIns := [], harness := (true, "cb779e0af158415faa735387cf530dcd1872dd891927f48a753d69c52635244e"), looks := false }, kinds := [], alts := [], laidByText := true, laidKinds := [.data, .data], laidTests := true, laidLooks := .later }
def WeighSameCardSaid : Prop := Claim7.holds Tryd.pinned (.plain (OpenSpec.ofChange weighSameSpec)) weighSameCard

/-- THE SECOND FORM's CARD OF 'tactuslaw38.WeighOrder'. -/
def weighOrderUptoCard : Claim7 := { stood := { row := weighOrderUptoRow, standIns := [], harness := (true, "cb779e0af158415faa735387cf530dcd1872dd891927f48a753d69c52635244e"), looks := false }, kinds := [], alts := [], laidByText := true, laidKinds := [.data, .data], laidTests := true, laidLooks := .later }
def WeighOrderUptoCardSaid : Prop := Claim7.holds Tryd.pinned (.plain (OpenSpec.upto weighOrderSpec)) weighOrderUptoCard

/-- THE SECOND FORM's CARD OF 'tactuslaw38.WeighSame'. -/
def weighSameUptoCard : Claim7 := { stood := { row := weighSameUptoRow, standIns := [], harness := (true, "cb779e0af158415faa735387cf530dcd1872dd891927f48a753d69c52635244e"), looks := false }, kinds := [], alts := [], laidByText := true, laidKinds := [.data, .data], laidTests := true, laidLooks := .later }
def WeighSameUptoCardSaid : Prop := Claim7.holds Tryd.pinned (.plain (OpenSpec.upto weighSameSpec)) weighSameUptoCard
end Rows
end Go.Proofs.YtcgkdmimgagmoaaDoor

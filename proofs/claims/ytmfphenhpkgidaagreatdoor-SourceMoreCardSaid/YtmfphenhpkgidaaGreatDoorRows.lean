/-
  NARROWER THAN 'FOR EVERY INPUT', by the rows' own cells (each row's printed sentence says how): SourceParts: laid · SourceExact: laid · SourceMore: laid.
  DERIVED. THE GIVEN ROWS OF THIS SEAT. 3 by the template 'for every input the law returns true; each argument reads behind the call as it read before'; 0 by the template 'total and deterministic' (their statements: YtmfphenhpkgidaaGreatDoorTotals.lean).
  GIVEN WITH THE SEED: the statements are not yours to turn. If you find one false, say at which input.
  Laid BY PROGRAM, IN A SANDBOX (cutbox-rows.mjs): the forced cells as the released guide's own fill.sh prints them over the translation a6b173802c82c124… (all of the seat's roots in one cut). By AI agents, Wed Nov 11 2026. No macro, syntax, notation, axiom, sorry.
-/
import Derived.Test.YtmfphenhpkgidaaGreatDoorChecked
import GoSem.Claim
import GoSem.ClaimJoined
import GoSem.ClaimMapViews
import Derived.JoinedTies
import Derived.KernelRfl
namespace Go.Proofs.YtmfphenhpkgidaaGreatDoor
/- THE CELL 'sum', in the pinned program and in every row, IS THE sha256 OF THE DUMP (.gsa) THAT YtmfphenhpkgidaaGreatDoorProg.lean LOADS. Nothing in Lean hashes anything: it is a label: what it is worth is what the hold of that sum in a sandbox is worth. -/
noncomputable def Tryz.pinned : Pinned := { name := "ytmfphenhpkgidaagreatdoor", sum := "a6b173802c82c124ace34f7fdd9b3c9e0ada551cd8376f00753e4f74652c916e", checked := Tryz.checked }
namespace Rows
def none {H : Type} : Left H := { results := [], args := [] }

/- WHAT THE LISTED PACKAGE-LEVEL VARIABLES READ AS WHEN THE CALL BEGINS. Each datum BY PROGRAM (the guide's laid-datum.mjs) off the statement by which the dump's own 'gosem.cut.vars' lays the variable. In a bare row this is a premise. The card (YtmfphenhpkgidaaGreatDoorCards.lean) ties it to the program's text. -/
def laid_tactus_item_half {H : Type} : DataW H := .agg [.lit (.int .i64 3), .lit (.int .i64 2)]
def laid_tactus_sign_uses {H : Type} : DataW H := .agg [.agg [.lit (.bool false), .lit (.bool false), .lit (.bool false), .lit (.bool false), .lit (.bool false), .lit (.bool false), .lit (.bool false), .lit (.bool false), .lit (.bool false), .lit (.bool false), .lit (.bool false), .lit (.bool false)], .agg [.lit (.bool true), .lit (.bool true), .lit (.bool true), .lit (.bool true), .lit (.bool false), .lit (.bool false), .lit (.bool false), .lit (.bool false), .lit (.bool false), .lit (.bool false), .lit (.bool false), .lit (.bool false)], .agg [.lit (.bool true), .lit (.bool false), .lit (.bool false), .lit (.bool false), .lit (.bool false), .lit (.bool false), .lit (.bool false), .lit (.bool false), .lit (.bool false), .lit (.bool false), .lit (.bool false), .lit (.bool false)], .agg [.lit (.bool false), .lit (.bool false), .lit (.bool false), .lit (.bool false), .lit (.bool false), .lit (.bool false), .lit (.bool false), .lit (.bool false), .lit (.bool false), .lit (.bool false), .lit (.bool false), .lit (.bool false)], .agg [.lit (.bool false), .lit (.bool true), .lit (.bool true), .lit (.bool true), .lit (.bool true), .lit (.bool true), .lit (.bool true), .lit (.bool false), .lit (.bool false), .lit (.bool false), .lit (.bool false), .lit (.bool false)], .agg [.lit (.bool false), .lit (.bool false), .lit (.bool false), .lit (.bool false), .lit (.bool false), .lit (.bool false), .lit (.bool false), .lit (.bool true), .lit (.bool true), .lit (.bool false), .lit (.bool false), .lit (.bool false)], .agg [.lit (.bool false), .lit (.bool false), .lit (.bool false), .lit (.bool false), .lit (.bool false), .lit (.bool false), .lit (.bool false), .lit (.bool false), .lit (.bool false), .lit (.bool true), .lit (.bool true), .lit (.bool false)], .agg [.lit (.bool false), .lit (.bool false), .lit (.bool false), .lit (.bool false), .lit (.bool false), .lit (.bool false), .lit (.bool false), .lit (.bool false), .lit (.bool false), .lit (.bool false), .lit (.bool false), .lit (.bool true)], .agg [.lit (.bool false), .lit (.bool false), .lit (.bool false), .lit (.bool false), .lit (.bool false), .lit (.bool false), .lit (.bool false), .lit (.bool false), .lit (.bool false), .lit (.bool true), .lit (.bool false), .lit (.bool false)], .agg [.lit (.bool false), .lit (.bool false), .lit (.bool false), .lit (.bool false), .lit (.bool false), .lit (.bool false), .lit (.bool false), .lit (.bool false), .lit (.bool false), .lit (.bool false), .lit (.bool false), .lit (.bool false)], .agg [.lit (.bool false), .lit (.bool false), .lit (.bool false), .lit (.bool false), .lit (.bool false), .lit (.bool false), .lit (.bool false), .lit (.bool false), .lit (.bool false), .lit (.bool true), .lit (.bool false), .lit (.bool false)], .agg [.lit (.bool false), .lit (.bool false), .lit (.bool false), .lit (.bool false), .lit (.bool false), .lit (.bool false), .lit (.bool false), .lit (.bool false), .lit (.bool false), .lit (.bool false), .lit (.bool false), .lit (.bool false)], .agg [.lit (.bool false), .lit (.bool false), .lit (.bool false), .lit (.bool false), .lit (.bool false), .lit (.bool false), .lit (.bool false), .lit (.bool false), .lit (.bool false), .lit (.bool false), .lit (.bool false), .lit (.bool false)]]
def laid_tactus_sign_classes {H : Type} : DataW H := .agg [.lit (.int .i64 0), .lit (.int .i64 1), .lit (.int .i64 1), .lit (.int .i64 2), .lit (.int .i64 1), .lit (.int .i64 3), .lit (.int .i64 3), .lit (.int .i64 4), .lit (.int .i64 4), .lit (.int .i64 3), .lit (.int .i64 3), .lit (.int .i64 4), .lit (.int .i64 4)]

/-- 'tactuslaw36.SourceParts': WHATEVER THE INPUT: true; the input reads as it did. -/
def sourcePartsSpec : ChangeSpec := { name := "sourceParts", fn := fun _ => fun
  | [d] => { results := [.lit (.bool true)], args := [d] }
  | _ => none }
def sourcePartsRow : OpenClaim := { program := "ytmfphenhpkgidaagreatdoor", sum := "a6b173802c82c124ace34f7fdd9b3c9e0ada551cd8376f00753e4f74652c916e", func := "tactus/tactuslaw36.SourceParts", spec := "sourceParts", inPlace := ["internal/abi.NoEscape"], unfollowed := true, recurses := true, named := ["tactus/sign.uses", "tactus/sign.classes", "tactus/item.half"], plainKeys := false, apart := false, laid := [("tactus/item.half", laid_tactus_item_half), ("tactus/sign.uses", laid_tactus_sign_uses), ("tactus/sign.classes", laid_tactus_sign_classes)] }
def SourcePartsSaid : Prop := sourcePartsRow.holds Tryz.pinned (OpenSpec.ofChange sourcePartsSpec)

/-- ITS FALSE NEIGHBOUR: 'it returns false'. Refute it at one input. -/
def sourcePartsWrong : ChangeSpec := { name := "sourceParts", fn := fun _ => fun
  | [d] => { results := [.lit (.bool false)], args := [d] }
  | _ => none }
def SourcePartsWrongFalsely : Prop := sourcePartsRow.holds Tryz.pinned (OpenSpec.ofChange sourcePartsWrong)

/-- 'tactuslaw36.SourceExact': WHATEVER THE INPUT: true; the input reads as it did. -/
def sourceExactSpec : ChangeSpec := { name := "sourceExact", fn := fun _ => fun
  | [d] => { results := [.lit (.bool true)], args := [d] }
  | _ => none }
def sourceExactRow : OpenClaim := { program := "ytmfphenhpkgidaagreatdoor", sum := "a6b173802c82c124ace34f7fdd9b3c9e0ada551cd8376f00753e4f74652c916e", func := "tactus/tactuslaw36.SourceExact", spec := "sourceExact", inPlace := ["internal/abi.NoEscape"], unfollowed := true, recurses := true, named := ["tactus/sign.uses", "tactus/sign.classes", "tactus/item.half"], plainKeys := false, apart := false, laid := [("tactus/item.half", laid_tactus_item_half), ("tactus/sign.uses", laid_tactus_sign_uses), ("tactus/sign.classes", laid_tactus_sign_classes)] }
def SourceExactSaid : Prop := sourceExactRow.holds Tryz.pinned (OpenSpec.ofChange sourceExactSpec)

/-- ITS FALSE NEIGHBOUR: 'it returns false'. Refute it at one input. -/
def sourceExactWrong : ChangeSpec := { name := "sourceExact", fn := fun _ => fun
  | [d] => { results := [.lit (.bool false)], args := [d] }
  | _ => none }
def SourceExactWrongFalsely : Prop := sourceExactRow.holds Tryz.pinned (OpenSpec.ofChange sourceExactWrong)

/-- 'tactuslaw36.SourceMore': WHATEVER THE INPUT: true; the input reads as it did. -/
def sourceMoreSpec : ChangeSpec := { name := "sourceMore", fn := fun _ => fun
  | [d1, d2, d3] => { results := [.lit (.bool true)], args := [d1, d2, d3] }
  | _ => none }
def sourceMoreRow : OpenClaim := { program := "ytmfphenhpkgidaagreatdoor", sum := "a6b173802c82c124ace34f7fdd9b3c9e0ada551cd8376f00753e4f74652c916e", func := "tactus/tactuslaw36.SourceMore", spec := "sourceMore", inPlace := ["internal/abi.NoEscape"], unfollowed := true, recurses := true, named := ["tactus/sign.uses", "tactus/sign.classes", "tactus/item.half"], plainKeys := false, apart := false, laid := [("tactus/item.half", laid_tactus_item_half), ("tactus/sign.uses", laid_tactus_sign_uses), ("tactus/sign.classes", laid_tactus_sign_classes)] }
def SourceMoreSaid : Prop := sourceMoreRow.holds Tryz.pinned (OpenSpec.ofChange sourceMoreSpec)

/-- ITS FALSE NEIGHBOUR: 'it returns false'. Refute it at one input. -/
def sourceMoreWrong : ChangeSpec := { name := "sourceMore", fn := fun _ => fun
  | [d1, d2, d3] => { results := [.lit (.bool false)], args := [d1, d2, d3] }
  | _ => none }
def SourceMoreWrongFalsely : Prop := sourceMoreRow.holds Tryz.pinned (OpenSpec.ofChange sourceMoreWrong)

/- THE SECOND FORM. 'bulk': how many values and letters a reading holds, each counted each time it is reached (what is shared counts as often as it is met; a slice's spare places count too). A statement '..UptoSaid' is the law's where the arguments, and the package variables that the reading takes, are together of bulk at most 1048576: NARROWER than '..Said'. Prove '..Said' where nothing that the law and all that it calls make is longer than what came in: it says more and counts as full. Else prove '..UptoSaid'. A law counts once. -/
mutual
def uptoBulk {H : Type} : DataW H → Nat
  | .lit (.string bytes) => bytes.length + 1
  | .lit _ => 1
  | .nil => 1
  | .ptr d => uptoBulk d + 1
  | .slice elems spare => uptoBulkAll elems + uptoBulkAll spare + 1
  | .agg parts => uptoBulkAll parts + 1
  | .iface _ d => uptoBulk d + 1
  | .map entries => uptoBulkEntries entries + 1
  | .held _ => 1
def uptoBulkAll {H : Type} : List (DataW H) → Nat
  | [] => 0
  | d :: r => uptoBulk d + uptoBulkAll r
def uptoBulkEntries {H : Type} : List (Lit × DataW H) → Nat
  | [] => 0
  | x :: r => uptoBulkEntry x + uptoBulkEntries r
def uptoBulkEntry {H : Type} : Lit × DataW H → Nat
  | (.string bytes, d) => bytes.length + uptoBulk d + 1
  | (_, d) => uptoBulk d + 1
 end
def uptoSmall : (H : Type) → List (DataW H) → Bool := fun _ ds => decide (uptoBulkAll ds ≤ 1048576)
def OpenSpec.upto (s : _root_.Go.ChangeSpec) : _root_.Go.OpenSpec := { _root_.Go.OpenSpec.ofChange s with cond := some uptoSmall }

/-- 'tactuslaw36.SourceParts', WHERE WHAT IT READS IS OF BULK AT MOST 1048576: true; the input reads as it did. -/
def sourcePartsUptoRow : OpenClaim := { program := "ytmfphenhpkgidaagreatdoor", sum := "a6b173802c82c124ace34f7fdd9b3c9e0ada551cd8376f00753e4f74652c916e", func := "tactus/tactuslaw36.SourceParts", spec := "sourceParts", inPlace := ["internal/abi.NoEscape"], unfollowed := true, recurses := true, named := ["tactus/sign.uses", "tactus/sign.classes", "tactus/item.half"], plainKeys := false, apart := false, laid := [("tactus/item.half", laid_tactus_item_half), ("tactus/sign.uses", laid_tactus_sign_uses), ("tactus/sign.classes", laid_tactus_sign_classes)], narrowed := true }
def SourcePartsUptoSaid : Prop := sourcePartsUptoRow.holds Tryz.pinned (OpenSpec.upto sourcePartsSpec)

/-- 'tactuslaw36.SourceExact', WHERE WHAT IT READS IS OF BULK AT MOST 1048576: true; the input reads as it did. -/
def sourceExactUptoRow : OpenClaim := { program := "ytmfphenhpkgidaagreatdoor", sum := "a6b173802c82c124ace34f7fdd9b3c9e0ada551cd8376f00753e4f74652c916e", func := "tactus/tactuslaw36.SourceExact", spec := "sourceExact", inPlace := ["internal/abi.NoEscape"], unfollowed := true, recurses := true, named := ["tactus/sign.uses", "tactus/sign.classes", "tactus/item.half"], plainKeys := false, apart := false, laid := [("tactus/item.half", laid_tactus_item_half), ("tactus/sign.uses", laid_tactus_sign_uses), ("tactus/sign.classes", laid_tactus_sign_classes)], narrowed := true }
def SourceExactUptoSaid : Prop := sourceExactUptoRow.holds Tryz.pinned (OpenSpec.upto sourceExactSpec)

/-- 'tactuslaw36.SourceMore', WHERE WHAT IT READS IS OF BULK AT MOST 1048576: true; the input reads as it did. -/
def sourceMoreUptoRow : OpenClaim := { program := "ytmfphenhpkgidaagreatdoor", sum := "a6b173802c82c124ace34f7fdd9b3c9e0ada551cd8376f00753e4f74652c916e", func := "tactus/tactuslaw36.SourceMore", spec := "sourceMore", inPlace := ["internal/abi.NoEscape"], unfollowed := true, recurses := true, named := ["tactus/sign.uses", "tactus/sign.classes", "tactus/item.half"], plainKeys := false, apart := false, laid := [("tactus/item.half", laid_tactus_item_half), ("tactus/sign.uses", laid_tactus_sign_uses), ("tactus/sign.classes", laid_tactus_sign_classes)], narrowed := true }
def SourceMoreUptoSaid : Prop := sourceMoreUptoRow.holds Tryz.pinned (OpenSpec.upto sourceMoreSpec)

end Rows
end Go.Proofs.YtmfphenhpkgidaaGreatDoor

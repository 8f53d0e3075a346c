/-
  The chapter's examples, stages.
-/
import Derived.Test.YtblhfojaiipboaaGreatDoorBp1
namespace Go.Proofs.YtblhfojaiipboaaGreatDoor
open Go.Cm
set_option maxRecDepth 100000
theorem runA240 : litOk stA239 (runSeq iA.exec (List.replicate 1 pA64) stA237.act stA237.st) = true := by kernel_rfl
theorem runA50 : litOk stA49 (runSeq iA.exec (hds 2 cdA51) ({ n := 62, t := PT.ofList 0 (PT.nil 8) vsA48, defers := [] }) stA46.st) = true := by kernel_rfl
theorem runA223 : litOk stA222 (runSeq iA.exec (hds 7 cdA42) ({ n := 89, t := PT.ofList 0 (PT.nil 8) vsA221, defers := [] }) stA219.st) = true := by kernel_rfl
end Go.Proofs.YtblhfojaiipboaaGreatDoor

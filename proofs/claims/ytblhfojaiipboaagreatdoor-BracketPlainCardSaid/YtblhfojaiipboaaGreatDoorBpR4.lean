/-
  The chapter's examples, stages.
-/
import Derived.Test.YtblhfojaiipboaaGreatDoorBp1
namespace Go.Proofs.YtblhfojaiipboaaGreatDoor
open Go.Cm
set_option maxRecDepth 100000
theorem runA238 : litOk stA237 (runSeq iA.exec (List.replicate 2 pA64) stA235.act stA235.st) = true := by kernel_rfl
theorem runA54 : litOk stA53 (runSeq iA.exec (List.replicate 2 pA64) stA51.act stA51.st) = true := by kernel_rfl
end Go.Proofs.YtblhfojaiipboaaGreatDoor

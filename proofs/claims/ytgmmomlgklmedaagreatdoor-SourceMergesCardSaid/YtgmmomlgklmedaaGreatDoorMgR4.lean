/-
  The chapter's examples, stages.
-/
import Derived.Test.YtgmmomlgklmedaaGreatDoorMg1
namespace Go.Proofs.YtgmmomlgklmedaaGreatDoor
open Go.Cm

set_option maxRecDepth 100000
theorem runA737 : litOk stA736 (runSeq iA.exec (hds 4 cdA65) ({ n := 66, t := PT.ofList 0 (PT.nil 8) vsA735, defers := [] }) stA733.st) = true := by kernel_rfl

end Go.Proofs.YtgmmomlgklmedaaGreatDoor

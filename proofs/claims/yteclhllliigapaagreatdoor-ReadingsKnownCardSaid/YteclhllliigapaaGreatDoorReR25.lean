/-
  The chapter's examples, stages.
-/
import Derived.Test.YteclhllliigapaaGreatDoorRe1
namespace Go.Proofs.YteclhllliigapaaGreatDoor
open Go.Cm

set_option maxRecDepth 100000
theorem runM73 : litOk stM72 (runSeq iM.exec (hds 4 cdM6) ({ n := 66, t := PT.ofList 0 (PT.nil 8) vsM71, defers := [] }) stM69.st) = true := by kernel_rfl

end Go.Proofs.YteclhllliigapaaGreatDoor

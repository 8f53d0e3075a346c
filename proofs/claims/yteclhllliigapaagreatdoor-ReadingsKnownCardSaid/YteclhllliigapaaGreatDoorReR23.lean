/-
  The chapter's examples, stages.
-/
import Derived.Test.YteclhllliigapaaGreatDoorRe1
namespace Go.Proofs.YteclhllliigapaaGreatDoor
open Go.Cm

set_option maxRecDepth 100000
theorem runA155 : litOk stA154 (runSeq iA.exec (List.replicate 2 pA20) stA149.act stA149.st) = true := by kernel_rfl

end Go.Proofs.YteclhllliigapaaGreatDoor

/-
  The chapter's examples, stages.
-/
import Derived.Test.YteclhllliigapaaGreatDoorRe1
namespace Go.Proofs.YteclhllliigapaaGreatDoor
open Go.Cm

set_option maxRecDepth 100000
theorem runB135 : litOk stB134 (runSeq iB.exec (List.replicate 2 pB11) stB129.act stB129.st) = true := by kernel_rfl

end Go.Proofs.YteclhllliigapaaGreatDoor

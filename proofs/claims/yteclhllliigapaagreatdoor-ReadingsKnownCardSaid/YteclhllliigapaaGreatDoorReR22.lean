/-
  The chapter's examples, stages.
-/
import Derived.Test.YteclhllliigapaaGreatDoorRe1
namespace Go.Proofs.YteclhllliigapaaGreatDoor
open Go.Cm

set_option maxRecDepth 100000
theorem runB753 : litOk stB752 (runSeq iB.exec (List.replicate 2 pB153) stB747.act stB747.st) = true := by kernel_rfl

end Go.Proofs.YteclhllliigapaaGreatDoor

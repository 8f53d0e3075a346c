/-
  The chapter's examples, stages.
-/
import Derived.Test.YteclhllliigapaaGreatDoorRe1
namespace Go.Proofs.YteclhllliigapaaGreatDoor
open Go.Cm

set_option maxRecDepth 100000
theorem runA492 : litOk stA491 (runSeq iA.exec (List.replicate 2 pA20) stA486.act stA486.st) = true := by kernel_rfl

end Go.Proofs.YteclhllliigapaaGreatDoor

/-
  The chapter's examples, stages.
-/
import Derived.Test.YtgmmomlgklmedaaGreatDoorMg1
namespace Go.Proofs.YtgmmomlgklmedaaGreatDoor
open Go.Cm

set_option maxRecDepth 100000
theorem runA749 : litX .normal stA748 (iA.exec none pA264 stA745.act stA745.st) = true := by kernel_rfl

end Go.Proofs.YtgmmomlgklmedaaGreatDoor

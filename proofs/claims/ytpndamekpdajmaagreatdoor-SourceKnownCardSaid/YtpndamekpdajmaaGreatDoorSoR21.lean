/-
  The chapter's examples, stages.
-/
import Derived.Test.YtpndamekpdajmaaGreatDoorSo1
namespace Go.Proofs.YtpndamekpdajmaaGreatDoor
open Go.Cm

set_option maxRecDepth 100000
theorem runB663 : litOk stB662 (runSeq iB.exec (List.replicate 1 pB256) stB660.act stB660.st) = true := by kernel_rfl

end Go.Proofs.YtpndamekpdajmaaGreatDoor

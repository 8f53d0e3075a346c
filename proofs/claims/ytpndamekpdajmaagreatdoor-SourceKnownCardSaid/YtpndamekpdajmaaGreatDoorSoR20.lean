/-
  The chapter's examples, stages.
-/
import Derived.Test.YtpndamekpdajmaaGreatDoorSo1
namespace Go.Proofs.YtpndamekpdajmaaGreatDoor
open Go.Cm

set_option maxRecDepth 100000
theorem runB661 : litOk stB660 (runSeq iB.exec (List.replicate 1 pB256) stB658.act stB658.st) = true := by kernel_rfl

end Go.Proofs.YtpndamekpdajmaaGreatDoor

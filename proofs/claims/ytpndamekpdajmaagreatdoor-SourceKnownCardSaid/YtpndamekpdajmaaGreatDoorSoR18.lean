/-
  The chapter's examples, stages.
-/
import Derived.Test.YtpndamekpdajmaaGreatDoorSo1
namespace Go.Proofs.YtpndamekpdajmaaGreatDoor
open Go.Cm

set_option maxRecDepth 100000
theorem runB2105 : litOk stB2104 (runSeq iB.exec (hds 4 cdB44) ({ n := 66, t := PT.ofList 0 (PT.nil 8) vsB2103, defers := [] }) stB2101.st) = true := by kernel_rfl

end Go.Proofs.YtpndamekpdajmaaGreatDoor

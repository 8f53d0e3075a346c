/-
  The chapter's examples, stages.
-/
import Derived.Test.YtpndamekpdajmaaGreatDoorSo1
namespace Go.Proofs.YtpndamekpdajmaaGreatDoor
open Go.Cm

set_option maxRecDepth 100000
theorem runB565 : litOk stB564 (runSeq iB.exec (hds 3 cdB110) ({ n := 62, t := PT.ofList 0 (PT.nil 8) vsB563, defers := [] }) stB561.st) = true := by kernel_rfl
theorem runA2 : litOk stA1 (runSeq iA.exec (hds 3 cdA22) ({ n := 52, t := PT.ofList 0 (PT.nil 8) vsA0, defers := [] }) start0) = true := by kernel_rfl
theorem runB2 : litOk stB1 (runSeq iB.exec (hds 3 cdB3) ({ n := 238, t := PT.ofList 0 (PT.nil 8) vsB0, defers := [] }) start0) = true := by kernel_rfl

end Go.Proofs.YtpndamekpdajmaaGreatDoor

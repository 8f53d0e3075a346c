/-
  The chapter's examples, stages.
-/
import Derived.Test.YtpndamekpdajmaaGreatDoorSo1
namespace Go.Proofs.YtpndamekpdajmaaGreatDoor
open Go.Cm

set_option maxRecDepth 100000
theorem runB241 : litOk stB240 (runSeq iB.exec (hds 3 cdB110) ({ n := 62, t := PT.ofList 0 (PT.nil 8) vsB239, defers := [] }) stB237.st) = true := by kernel_rfl
theorem runB17 : litOk stB16 (runSeq iB.exec (hds 4 cdB21) ({ n := 79, t := PT.ofList 0 (PT.nil 8) vsB15, defers := [] }) stB13.st) = true := by kernel_rfl
theorem runB554 : litOk stB553 (runSeq iB.exec (hds 7 cdB88) ({ n := 89, t := PT.ofList 0 (PT.nil 8) vsB552, defers := [] }) stB550.st) = true := by kernel_rfl
theorem runB372 : litOk stB371 (runSeq iB.exec (hds 4 cdB82) ({ n := 52, t := PT.ofList 0 (PT.nil 8) vsB370, defers := [] }) stB368.st) = true := by kernel_rfl
theorem runB219 : litOk stB218 (runSeq iB.exec (hds 4 cdB62) ({ n := 46, t := PT.ofList 0 (PT.nil 8) vsB217, defers := [] }) stB215.st) = true := by kernel_rfl

end Go.Proofs.YtpndamekpdajmaaGreatDoor

/-
  The chapter's examples, stages.
-/
import Derived.Test.YtpndamekpdajmaaGreatDoorSo1
namespace Go.Proofs.YtpndamekpdajmaaGreatDoor
open Go.Cm

set_option maxRecDepth 100000
theorem runB1609 : litOk stB1608 (runSeq iB.exec (hds 3 cdB110) ({ n := 62, t := PT.ofList 0 (PT.nil 8) vsB1607, defers := [] }) stB1605.st) = true := by kernel_rfl
theorem runA75 : litOk stA74 (runSeq iA.exec (hds 7 cdA88) ({ n := 89, t := PT.ofList 0 (PT.nil 8) vsA73, defers := [] }) stA71.st) = true := by kernel_rfl
theorem runB735 : litOk stB734 (runSeq iB.exec (hds 7 cdB88) ({ n := 89, t := PT.ofList 0 (PT.nil 8) vsB733, defers := [] }) stB731.st) = true := by kernel_rfl
theorem runB1443 : litOk stB1442 (runSeq iB.exec (hds 7 cdB88) ({ n := 89, t := PT.ofList 0 (PT.nil 8) vsB1441, defers := [] }) stB1439.st) = true := by kernel_rfl
theorem runB1059 : litOk stB1058 (runSeq iB.exec (hds 7 cdB88) ({ n := 89, t := PT.ofList 0 (PT.nil 8) vsB1057, defers := [] }) stB1055.st) = true := by kernel_rfl
theorem runB48 : litOk stB47 (runSeq iB.exec (hds 4 cdB82) ({ n := 52, t := PT.ofList 0 (PT.nil 8) vsB46, defers := [] }) stB44.st) = true := by kernel_rfl
theorem runB388 : litOk stB387 (runSeq iB.exec (hds 4 cdB62) ({ n := 46, t := PT.ofList 0 (PT.nil 8) vsB386, defers := [] }) stB384.st) = true := by kernel_rfl
theorem runA281 : litX .normal stA280 (iA.exec none pA133 stA277.act stA277.st) = true := by kernel_rfl

end Go.Proofs.YtpndamekpdajmaaGreatDoor

/-
  The chapter's examples, stages.
-/
import Derived.Test.YtpndamekpdajmaaGreatDoorSo1
namespace Go.Proofs.YtpndamekpdajmaaGreatDoor
open Go.Cm

set_option maxRecDepth 100000
theorem runB1225 : litOk stB1224 (runSeq iB.exec (hds 3 cdB110) ({ n := 62, t := PT.ofList 0 (PT.nil 8) vsB1223, defers := [] }) stB1221.st) = true := by kernel_rfl
theorem runB399 : litOk stB398 (runSeq iB.exec (hds 7 cdB88) ({ n := 89, t := PT.ofList 0 (PT.nil 8) vsB397, defers := [] }) stB395.st) = true := by kernel_rfl
theorem runB890 : litOk stB889 (runSeq iB.exec (hds 7 cdB88) ({ n := 89, t := PT.ofList 0 (PT.nil 8) vsB888, defers := [] }) stB886.st) = true := by kernel_rfl
theorem runB1214 : litOk stB1213 (runSeq iB.exec (hds 7 cdB88) ({ n := 89, t := PT.ofList 0 (PT.nil 8) vsB1212, defers := [] }) stB1210.st) = true := by kernel_rfl
theorem runB1598 : litOk stB1597 (runSeq iB.exec (hds 7 cdB88) ({ n := 89, t := PT.ofList 0 (PT.nil 8) vsB1596, defers := [] }) stB1594.st) = true := by kernel_rfl
theorem runB708 : litOk stB707 (runSeq iB.exec (hds 4 cdB82) ({ n := 52, t := PT.ofList 0 (PT.nil 8) vsB706, defers := [] }) stB704.st) = true := by kernel_rfl
theorem runA126 : litX .normal stA125 (iA.exec none pA133 stA122.act stA122.st) = true := by kernel_rfl

end Go.Proofs.YtpndamekpdajmaaGreatDoor

/-
  The chapter's examples, stages.
-/
import Derived.Test.YtpndamekpdajmaaGreatDoorSo1
namespace Go.Proofs.YtpndamekpdajmaaGreatDoor
open Go.Cm

set_option maxRecDepth 100000
theorem runB901 : litOk stB900 (runSeq iB.exec (hds 3 cdB110) ({ n := 62, t := PT.ofList 0 (PT.nil 8) vsB899, defers := [] }) stB897.st) = true := by kernel_rfl
theorem runB1385 : litOk stB1384 (runSeq iB.exec (hds 4 cdB21) ({ n := 79, t := PT.ofList 0 (PT.nil 8) vsB1383, defers := [] }) stB1381.st) = true := by kernel_rfl
theorem runB1767 : litOk stB1766 (runSeq iB.exec (hds 7 cdB88) ({ n := 89, t := PT.ofList 0 (PT.nil 8) vsB1765, defers := [] }) stB1763.st) = true := by kernel_rfl
theorem runB1922 : litOk stB1921 (runSeq iB.exec (hds 7 cdB88) ({ n := 89, t := PT.ofList 0 (PT.nil 8) vsB1920, defers := [] }) stB1918.st) = true := by kernel_rfl
theorem runA17 : litOk stA16 (runSeq iA.exec (hds 4 cdA21) ({ n := 79, t := PT.ofList 0 (PT.nil 8) vsA15, defers := [] }) stA13.st) = true := by kernel_rfl
theorem runB532 : litOk stB531 (runSeq iB.exec (hds 2 pB135) stB527.act stB527.st) = true := by kernel_rfl
theorem runB54 : litOk stB53 (runSeq iB.exec (hds 2 pB56) stB51.act stB51.st) = true := by kernel_rfl

end Go.Proofs.YtpndamekpdajmaaGreatDoor

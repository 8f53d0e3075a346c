/-
  The chapter's examples, stages.
-/
import Derived.Test.YtpndamekpdajmaaGreatDoorSo1
namespace Go.Proofs.YtpndamekpdajmaaGreatDoor
open Go.Cm

set_option maxRecDepth 100000
theorem runB1778 : litOk stB1777 (runSeq iB.exec (hds 3 cdB110) ({ n := 62, t := PT.ofList 0 (PT.nil 8) vsB1776, defers := [] }) stB1774.st) = true := by kernel_rfl
theorem runB1740 : litOk stB1739 (runSeq iB.exec (hds 4 cdB82) ({ n := 52, t := PT.ofList 0 (PT.nil 8) vsB1738, defers := [] }) stB1736.st) = true := by kernel_rfl
theorem runA532 : litOk stA531 (runSeq iA.exec (hds 2 pA146) stA527.act stA527.st) = true := by kernel_rfl
theorem runB868 : litOk stB867 (runSeq iB.exec (hds 2 pB135) stB863.act stB863.st) = true := by kernel_rfl
theorem runB1032 : litOk stB1031 (runSeq iB.exec (hds 4 cdB82) ({ n := 52, t := PT.ofList 0 (PT.nil 8) vsB1030, defers := [] }) stB1028.st) = true := by kernel_rfl
theorem runB1416 : litOk stB1415 (runSeq iB.exec (hds 4 cdB82) ({ n := 52, t := PT.ofList 0 (PT.nil 8) vsB1414, defers := [] }) stB1412.st) = true := by kernel_rfl
theorem runA208 : litOk stA207 (runSeq iA.exec (hds 2 pA146) stA203.act stA203.st) = true := by kernel_rfl
theorem runB1576 : litOk stB1575 (runSeq iB.exec (hds 2 pB135) stB1571.act stB1571.st) = true := by kernel_rfl
theorem runB1900 : litOk stB1899 (runSeq iB.exec (hds 2 pB135) stB1895.act stB1895.st) = true := by kernel_rfl
theorem runA48 : litOk stA47 (runSeq iA.exec (hds 4 cdA82) ({ n := 52, t := PT.ofList 0 (PT.nil 8) vsA46, defers := [] }) stA44.st) = true := by kernel_rfl
theorem runB1358 : finOk Tryz.prog Tryz.f20.results.toList (vvB427) stB1357 (iB.exec none pB425 stB1354.act stB1354.st) = true := by kernel_rfl

end Go.Proofs.YtpndamekpdajmaaGreatDoor

/-
  The chapter's examples, stages.
-/
import Derived.Test.YteclhllliigapaaGreatDoorRe1
namespace Go.Proofs.YteclhllliigapaaGreatDoor
open Go.Cm

set_option maxRecDepth 100000
theorem runB873 : litOk stB872 (runSeq iB.exec (hds 3 cdB55) ({ n := 62, t := PT.ofList 0 (PT.nil 8) vsB871, defers := [] }) stB869.st) = true := by kernel_rfl
theorem runB815 : litOk stB814 (runSeq iB.exec (hds 3 cdB9) ({ n := 56, t := PT.ofList 0 (PT.nil 8) vsB813, defers := [] }) stB811.st) = true := by kernel_rfl
theorem runB167 : litOk stB166 (runSeq iB.exec (hds 4 cdB4) ({ n := 52, t := PT.ofList 0 (PT.nil 8) vsB165, defers := [] }) stB163.st) = true := by kernel_rfl
theorem runB1113 : finOk Tryz.prog Tryz.f6.results.toList (vvB445) stB1112 (iB.exec none pB200 stB1106.act stB1106.st) = true := by kernel_rfl
theorem runB460 : litOk stB459 (runOps Tryz.prog iB (rops pB229).toList (cutOps pB229 0 2) stB457.act stB457.st) = true := by kernel_rfl

end Go.Proofs.YteclhllliigapaaGreatDoor

/-
  The chapter's examples, stages.
-/
import Derived.Test.YteclhllliigapaaGreatDoorRe1
namespace Go.Proofs.YteclhllliigapaaGreatDoor
open Go.Cm

set_option maxRecDepth 100000
theorem runB678 : litOk stB677 (runSeq iB.exec (hds 3 cdB55) ({ n := 62, t := PT.ofList 0 (PT.nil 8) vsB676, defers := [] }) stB674.st) = true := by kernel_rfl
theorem runB194 : litOk stB193 (runSeq iB.exec (hds 7 cdB36) ({ n := 89, t := PT.ofList 0 (PT.nil 8) vsB192, defers := [] }) stB190.st) = true := by kernel_rfl
theorem runB463 : litOk stB462 (runSeq iB.exec (hds 3 cdB9) ({ n := 56, t := PT.ofList 0 (PT.nil 8) vsB461, defers := [] }) stB459.st) = true := by kernel_rfl
theorem runB761 : finOk Tryz.prog Tryz.f6.results.toList (vvB326) stB760 (iB.exec none pB200 stB754.act stB754.st) = true := by kernel_rfl
theorem runA442 : litX .normal stA441 (iA.exec none pA89 stA438.act stA438.st) = true := by kernel_rfl

end Go.Proofs.YteclhllliigapaaGreatDoor

/-
  The chapter's examples, stages.
-/
import Derived.Test.YteclhllliigapaaGreatDoorRe1
namespace Go.Proofs.YteclhllliigapaaGreatDoor
open Go.Cm

set_option maxRecDepth 100000
theorem runB45 : litOk stB44 (runSeq iB.exec (hds 3 cdB55) ({ n := 62, t := PT.ofList 0 (PT.nil 8) vsB43, defers := [] }) stB41.st) = true := by kernel_rfl
theorem runA211 : litOk stA210 (runSeq iA.exec (hds 7 cdA36) ({ n := 89, t := PT.ofList 0 (PT.nil 8) vsA209, defers := [] }) stA207.st) = true := by kernel_rfl
theorem runB1019 : litOk stB1018 (runSeq iB.exec (hds 7 cdB36) ({ n := 89, t := PT.ofList 0 (PT.nil 8) vsB1017, defers := [] }) stB1015.st) = true := by kernel_rfl
theorem runB173 : litOk stB172 (runSeq iB.exec (hds 2 pB14) stB170.act stB170.st) = true := by kernel_rfl
theorem runB85 : litX .normal stB84 (iB.exec none pB80 stB81.act stB81.st) = true := by kernel_rfl

end Go.Proofs.YteclhllliigapaaGreatDoor

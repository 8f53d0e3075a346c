/-
  The chapter's examples, stages.
-/
import Derived.Test.YteclhllliigapaaGreatDoorRe1
namespace Go.Proofs.YteclhllliigapaaGreatDoor
open Go.Cm

set_option maxRecDepth 100000
theorem runB205 : litOk stB204 (runSeq iB.exec (hds 3 cdB55) ({ n := 62, t := PT.ofList 0 (PT.nil 8) vsB203, defers := [] }) stB201.st) = true := by kernel_rfl
theorem runB510 : litOk stB509 (runSeq iB.exec (hds 7 cdB36) ({ n := 89, t := PT.ofList 0 (PT.nil 8) vsB508, defers := [] }) stB506.st) = true := by kernel_rfl
theorem runB329 : litOk stB328 (runSeq iB.exec (hds 2 pB145) stB324.act stB324.st) = true := by kernel_rfl
theorem runA305 : finOk Tryz.prog Tryz.f6.results.toList (vvA174) stA304 (iA.exec none pA164 stA298.act stA298.st) = true := by kernel_rfl

end Go.Proofs.YteclhllliigapaaGreatDoor

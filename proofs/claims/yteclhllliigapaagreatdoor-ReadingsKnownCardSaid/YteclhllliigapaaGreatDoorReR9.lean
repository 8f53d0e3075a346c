/-
  The chapter's examples, stages.
-/
import Derived.Test.YteclhllliigapaaGreatDoorRe1
namespace Go.Proofs.YteclhllliigapaaGreatDoor
open Go.Cm

set_option maxRecDepth 100000
theorem runA222 : litOk stA221 (runSeq iA.exec (hds 3 cdA55) ({ n := 62, t := PT.ofList 0 (PT.nil 8) vsA220, defers := [] }) stA218.st) = true := by kernel_rfl
theorem runB34 : litOk stB33 (runSeq iB.exec (hds 7 cdB36) ({ n := 89, t := PT.ofList 0 (PT.nil 8) vsB32, defers := [] }) stB30.st) = true := by kernel_rfl
theorem runB351 : litOk stB350 (runSeq iB.exec (hds 7 cdB36) ({ n := 89, t := PT.ofList 0 (PT.nil 8) vsB349, defers := [] }) stB347.st) = true := by kernel_rfl
theorem runA195 : litOk stA194 (runSeq iA.exec (hds 2 pA120) stA192.act stA192.st) = true := by kernel_rfl
theorem runA251 : finOk Tryz.prog Tryz.f36.results.toList (vvA147) stA250 (iA.exec none pA82 stA244.act stA244.st) = true := by kernel_rfl

end Go.Proofs.YteclhllliigapaaGreatDoor

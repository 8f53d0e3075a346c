/-
  The chapter's examples, stages.
-/
import Derived.Test.YteclhllliigapaaGreatDoorRe1
namespace Go.Proofs.YteclhllliigapaaGreatDoor
open Go.Cm

set_option maxRecDepth 100000
theorem runB1030 : litOk stB1029 (runSeq iB.exec (hds 3 cdB55) ({ n := 62, t := PT.ofList 0 (PT.nil 8) vsB1028, defers := [] }) stB1026.st) = true := by kernel_rfl
theorem runA189 : litOk stA188 (runSeq iA.exec (hds 2 pA109) stA184.act stA184.st) = true := by kernel_rfl
theorem runB667 : litOk stB666 (runSeq iB.exec (hds 7 cdB36) ({ n := 89, t := PT.ofList 0 (PT.nil 8) vsB665, defers := [] }) stB663.st) = true := by kernel_rfl
theorem runB458 : litOk stB457 (runSeq iB.exec (hds 4 pB211) stB454.act stB454.st) = true := by kernel_rfl
theorem runB902 : finOk Tryz.prog Tryz.f36.results.toList (vvB385) stB901 (iB.exec none pB73 stB895.act stB895.st) = true := by kernel_rfl
theorem runA2 : litOk stA1 (runSeq iA.exec (hds 1 cdA19) ({ n := 31, t := PT.ofList 0 (PT.nil 8) vsA0, defers := [] }) start0) = true := by kernel_rfl

end Go.Proofs.YteclhllliigapaaGreatDoor

/-
  The chapter's examples, stages.
-/
import Derived.Test.YteclhllliigapaaGreatDoorRe1
namespace Go.Proofs.YteclhllliigapaaGreatDoor
open Go.Cm

set_option maxRecDepth 100000
theorem runB521 : litOk stB520 (runSeq iB.exec (hds 3 cdB55) ({ n := 62, t := PT.ofList 0 (PT.nil 8) vsB519, defers := [] }) stB517.st) = true := by kernel_rfl
theorem runA54 : litOk stA53 (runSeq iA.exec (hds 7 cdA36) ({ n := 89, t := PT.ofList 0 (PT.nil 8) vsA52, defers := [] }) stA50.st) = true := by kernel_rfl
theorem runA391 : litOk stA390 (runSeq iA.exec (hds 7 cdA36) ({ n := 89, t := PT.ofList 0 (PT.nil 8) vsA389, defers := [] }) stA387.st) = true := by kernel_rfl
theorem runB445 : finOk Tryz.prog Tryz.f6.results.toList (vvB210) stB444 (iB.exec none pB200 stB438.act stB438.st) = true := by kernel_rfl

end Go.Proofs.YteclhllliigapaaGreatDoor

/-
  The chapter's examples, stages.
-/
import Derived.Test.YteclhllliigapaaGreatDoorRe1
namespace Go.Proofs.YteclhllliigapaaGreatDoor
open Go.Cm

set_option maxRecDepth 100000
theorem runA402 : litOk stA401 (runSeq iA.exec (hds 3 cdA55) ({ n := 62, t := PT.ofList 0 (PT.nil 8) vsA400, defers := [] }) stA398.st) = true := by kernel_rfl
theorem runB835 : litOk stB834 (runSeq iB.exec (hds 4 cdB4) ({ n := 52, t := PT.ofList 0 (PT.nil 8) vsB833, defers := [] }) stB831.st) = true := by kernel_rfl
theorem runB862 : litOk stB861 (runSeq iB.exec (hds 7 cdB36) ({ n := 89, t := PT.ofList 0 (PT.nil 8) vsB860, defers := [] }) stB858.st) = true := by kernel_rfl
theorem runM114 : finOk Tryz.prog Tryz.f12.results.toList (vt) stM113 (iM.exec none cdM12 ({ n := 20, t := PT.ofList 0 (PT.nil 8) vsM112, defers := [] }) (addAll start0 mbM2)) = true := by kernel_rfl
theorem runB391 : finOk Tryz.prog Tryz.f36.results.toList (vvB183) stB390 (iB.exec none pB73 stB384.act stB384.st) = true := by kernel_rfl

end Go.Proofs.YteclhllliigapaaGreatDoor

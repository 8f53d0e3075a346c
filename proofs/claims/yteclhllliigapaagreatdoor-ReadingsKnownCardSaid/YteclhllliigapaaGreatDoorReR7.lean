/-
  The chapter's examples, stages.
-/
import Derived.Test.YteclhllliigapaaGreatDoorRe1
namespace Go.Proofs.YteclhllliigapaaGreatDoor
open Go.Cm

set_option maxRecDepth 100000
theorem runB362 : litOk stB361 (runSeq iB.exec (hds 3 cdB55) ({ n := 62, t := PT.ofList 0 (PT.nil 8) vsB360, defers := [] }) stB358.st) = true := by kernel_rfl
theorem runB645 : litOk stB644 (runSeq iB.exec (hds 2 pB145) stB640.act stB640.st) = true := by kernel_rfl
theorem runB997 : litOk stB996 (runSeq iB.exec (hds 2 pB145) stB992.act stB992.st) = true := by kernel_rfl
theorem runA345 : finOk Tryz.prog Tryz.f28.results.toList (vvA199) stA344 (iA.exec none pA197 stA341.act stA341.st) = true := by kernel_rfl
theorem runA200 : litOk stA199 (runSeq iA.exec (hds 4 cdA23) ({ n := 46, t := PT.ofList 0 (PT.nil 8) vsA198, defers := [] }) stA196.st) = true := by kernel_rfl
theorem runM96 : finOk Tryz.prog Tryz.f28.results.toList (vvM38) stM95 (iM.exec none pM23 stM92.act stM92.st) = true := by kernel_rfl

end Go.Proofs.YteclhllliigapaaGreatDoor

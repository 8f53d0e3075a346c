/-
  The chapter's examples, stages.
-/
import Derived.Test.YteclhllliigapaaGreatDoorRe1
namespace Go.Proofs.YteclhllliigapaaGreatDoor
open Go.Cm

set_option maxRecDepth 100000
theorem runB611 : litOk stB610 (runSeq iB.exec (List.replicate 2 pB11) stB605.act stB605.st) = true := by kernel_rfl
theorem runB780 : litOk stB779 (runSeq iB.exec (List.replicate 1 pB332) stB777.act stB777.st) = true := by kernel_rfl
theorem runB1003 : litOk stB1002 (runSeq iB.exec (hds 2 pB156) stB1000.act stB1000.st) = true := by kernel_rfl
theorem runA33 : litOk stA32 (runSeq iA.exec (hds 2 pA23) stA30.act stA30.st) = true := by kernel_rfl
theorem runB851 : litOk stB850 (runSeq iB.exec (hds 4 cdB23) ({ n := 46, t := PT.ofList 0 (PT.nil 8) vsB849, defers := [] }) stB847.st) = true := by kernel_rfl
theorem runA43 : litOk stA42 (runSeq iA.exec (hds 4 cdA23) ({ n := 46, t := PT.ofList 0 (PT.nil 8) vsA41, defers := [] }) stA39.st) = true := by kernel_rfl
theorem runB801 : finOk Tryz.prog Tryz.f9.results.toList (vvB350) stB800 (iB.exec none pB348 stB797.act stB797.st) = true := by kernel_rfl

end Go.Proofs.YteclhllliigapaaGreatDoor

/-
  The chapter's examples, stages.
-/
import Derived.Test.YteclhllliigapaaGreatDoorRe1
namespace Go.Proofs.YteclhllliigapaaGreatDoor
open Go.Cm

set_option maxRecDepth 100000
theorem runB778 : litOk stB777 (runSeq iB.exec (List.replicate 3 pB332) stB775.act stB775.st) = true := by kernel_rfl
theorem runA370 : litOk stA369 (runSeq iA.exec (hds 2 pA23) stA367.act stA367.st) = true := by kernel_rfl
theorem runB335 : litOk stB334 (runSeq iB.exec (hds 2 pB156) stB332.act stB332.st) = true := by kernel_rfl
theorem runB489 : litOk stB488 (runSeq iB.exec (hds 2 pB14) stB486.act stB486.st) = true := by kernel_rfl
theorem runB651 : litOk stB650 (runSeq iB.exec (hds 2 pB156) stB648.act stB648.st) = true := by kernel_rfl
theorem runB841 : litOk stB840 (runSeq iB.exec (hds 2 pB14) stB838.act stB838.st) = true := by kernel_rfl
theorem runB340 : litOk stB339 (runSeq iB.exec (hds 4 cdB23) ({ n := 46, t := PT.ofList 0 (PT.nil 8) vsB338, defers := [] }) stB336.st) = true := by kernel_rfl
theorem runB499 : litOk stB498 (runSeq iB.exec (hds 4 cdB23) ({ n := 46, t := PT.ofList 0 (PT.nil 8) vsB497, defers := [] }) stB495.st) = true := by kernel_rfl
theorem runA431 : finOk Tryz.prog Tryz.f36.results.toList (vvA231) stA430 (iA.exec none pA82 stA424.act stA424.st) = true := by kernel_rfl

end Go.Proofs.YteclhllliigapaaGreatDoor

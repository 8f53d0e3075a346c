/-
  The chapter's examples, stages.
-/
import Derived.Test.YtpndamekpdajmaaGreatDoorSo1
namespace Go.Proofs.YtpndamekpdajmaaGreatDoor
open Go.Cm

set_option maxRecDepth 100000
theorem runB1070 : litOk stB1069 (runSeq iB.exec (hds 3 cdB110) ({ n := 62, t := PT.ofList 0 (PT.nil 8) vsB1068, defers := [] }) stB1066.st) = true := by kernel_rfl
theorem runB1703 : finOk Tryz.prog Tryz.f57.results.toList (vvB503) stB1702 (iB.exec none pB182 stB1699.act stB1699.st) = true := by kernel_rfl
theorem runA399 : litOk stA398 (runSeq iA.exec (hds 7 cdA88) ({ n := 89, t := PT.ofList 0 (PT.nil 8) vsA397, defers := [] }) stA395.st) = true := by kernel_rfl
theorem runA115 : finOk Tryz.prog Tryz.f88.results.toList (vvA132) stA114 (iA.exec none pA126 stA108.act stA108.st) = true := by kernel_rfl

end Go.Proofs.YtpndamekpdajmaaGreatDoor

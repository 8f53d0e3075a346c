/-
  The chapter's examples, stages.
-/
import Derived.Test.YtpndamekpdajmaaGreatDoorSo1
namespace Go.Proofs.YtpndamekpdajmaaGreatDoor
open Go.Cm

set_option maxRecDepth 100000
theorem runA565 : litOk stA564 (runSeq iA.exec (hds 3 cdA110) ({ n := 62, t := PT.ofList 0 (PT.nil 8) vsA563, defers := [] }) stA561.st) = true := by kernel_rfl
theorem runB995 : finOk Tryz.prog Tryz.f57.results.toList (vvB346) stB994 (iB.exec none pB182 stB991.act stB991.st) = true := by kernel_rfl
theorem runA230 : litOk stA229 (runSeq iA.exec (hds 7 cdA88) ({ n := 89, t := PT.ofList 0 (PT.nil 8) vsA228, defers := [] }) stA226.st) = true := by kernel_rfl
theorem runA143 : finOk Tryz.prog Tryz.f62.results.toList (vvA137) stA142 (iA.exec none pA136 stA136.act stA136.st) = true := by kernel_rfl

end Go.Proofs.YtpndamekpdajmaaGreatDoor

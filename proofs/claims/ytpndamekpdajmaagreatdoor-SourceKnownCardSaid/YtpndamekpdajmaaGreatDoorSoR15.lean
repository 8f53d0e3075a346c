/-
  The chapter's examples, stages.
-/
import Derived.Test.YtpndamekpdajmaaGreatDoorSo1
namespace Go.Proofs.YtpndamekpdajmaaGreatDoor
open Go.Cm

set_option maxRecDepth 100000
theorem runA86 : litOk stA85 (runSeq iA.exec (hds 3 cdA110) ({ n := 62, t := PT.ofList 0 (PT.nil 8) vsA84, defers := [] }) stA82.st) = true := by kernel_rfl
theorem runB2162 : finOk Tryz.prog Tryz.f3.results.toList (vt) stB2161 (iB.exec none pB600 stB2157.act stB2157.st) = true := by kernel_rfl
theorem runB50 : litOk stB49 (runSeq iB.exec (hds 1 pB50) stB47.act stB47.st) = true := by kernel_rfl
theorem runB56 : litOk stB55 (runOps Tryz.prog iB (rops pB63).toList (cutOps pB63 0 3) stB53.act stB53.st) = true := by kernel_rfl
theorem runB59 : litOk stB58 (runSeq iB.exec (hds 1 cdB100) ({ n := 17, t := PT.ofList 0 (PT.nil 8) vsB57, defers := [] }) stB55.st) = true := by kernel_rfl
theorem runB72 : litOk stB71 (runOps Tryz.prog iB (rops pB77).toList (cutOps pB77 0 3) stB69.act stB69.st) = true := by kernel_rfl

end Go.Proofs.YtpndamekpdajmaaGreatDoor

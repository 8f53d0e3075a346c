/-
  The chapter's examples, stages.
-/
import Derived.Test.YtpndamekpdajmaaGreatDoorSo1
namespace Go.Proofs.YtpndamekpdajmaaGreatDoor
open Go.Cm

set_option maxRecDepth 100000
theorem runB410 : litOk stB409 (runSeq iB.exec (hds 3 cdB110) ({ n := 62, t := PT.ofList 0 (PT.nil 8) vsB408, defers := [] }) stB406.st) = true := by kernel_rfl
theorem runB230 : litOk stB229 (runSeq iB.exec (hds 7 cdB88) ({ n := 89, t := PT.ofList 0 (PT.nil 8) vsB228, defers := [] }) stB226.st) = true := by kernel_rfl
theorem runB75 : litOk stB74 (runSeq iB.exec (hds 7 cdB88) ({ n := 89, t := PT.ofList 0 (PT.nil 8) vsB73, defers := [] }) stB71.st) = true := by kernel_rfl
theorem runB208 : litOk stB207 (runSeq iB.exec (hds 2 pB135) stB203.act stB203.st) = true := by kernel_rfl
theorem runB2147 : finOk Tryz.prog Tryz.f12.results.toList (vt) stB2146 (iB.exec none pB598 stB2143.act stB2143.st) = true := by kernel_rfl
theorem runA721 : finOk Tryz.prog Tryz.f43.results.toList (vvA291) stA720 (iA.exec none pA196 stA717.act stA717.st) = true := by kernel_rfl

end Go.Proofs.YtpndamekpdajmaaGreatDoor

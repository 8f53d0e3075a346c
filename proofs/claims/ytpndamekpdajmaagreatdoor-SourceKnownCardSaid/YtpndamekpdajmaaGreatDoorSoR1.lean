/-
  The chapter's examples, stages.
-/
import Derived.Test.YtpndamekpdajmaaGreatDoorSo1
namespace Go.Proofs.YtpndamekpdajmaaGreatDoor
open Go.Cm

set_option maxRecDepth 100000
theorem runB86 : litOk stB85 (runSeq iB.exec (hds 3 cdB110) ({ n := 62, t := PT.ofList 0 (PT.nil 8) vsB84, defers := [] }) stB82.st) = true := by kernel_rfl
theorem runA710 : finOk Tryz.prog Tryz.f57.results.toList (vvA290) stA709 (iA.exec none pA193 stA706.act stA706.st) = true := by kernel_rfl
theorem runB2078 : finOk Tryz.prog Tryz.f57.results.toList (vvB586) stB2077 (iB.exec none pB182 stB2074.act stB2074.st) = true := by kernel_rfl
theorem runB1192 : litOk stB1191 (runSeq iB.exec (hds 2 pB135) stB1187.act stB1187.st) = true := by kernel_rfl
theorem runB450 : litX .normal stB449 (iB.exec none pB122 stB446.act stB446.st) = true := by kernel_rfl

end Go.Proofs.YtpndamekpdajmaaGreatDoor

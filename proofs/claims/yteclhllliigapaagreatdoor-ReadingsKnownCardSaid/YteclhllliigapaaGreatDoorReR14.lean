/-
  The chapter's examples, stages.
-/
import Derived.Test.YteclhllliigapaaGreatDoorRe1
namespace Go.Proofs.YteclhllliigapaaGreatDoor
open Go.Cm

set_option maxRecDepth 100000
theorem runA297 : litOk stA296 (runSeq iA.exec (List.replicate 2 pA117) stA291.act stA291.st) = true := by kernel_rfl
theorem runB1164 : finOk Tryz.prog Tryz.f3.results.toList (vt) stB1163 (iB.exec none pB455 stB1160.act stB1160.st) = true := by kernel_rfl
theorem runB656 : litOk stB655 (runSeq iB.exec (hds 4 cdB23) ({ n := 46, t := PT.ofList 0 (PT.nil 8) vsB654, defers := [] }) stB652.st) = true := by kernel_rfl
theorem runB74 : finOk Tryz.prog Tryz.f36.results.toList (vvB79) stB73 (iB.exec none pB73 stB67.act stB67.st) = true := by kernel_rfl
theorem runB812 : litOk stB811 (runOps Tryz.prog iB (rops pB352).toList (cutOps pB352 0 2) stB808.act stB808.st) = true := by kernel_rfl
theorem runB245 : litX .normal stB244 (iB.exec none pB80 stB241.act stB241.st) = true := by kernel_rfl

end Go.Proofs.YteclhllliigapaaGreatDoor

/-
  The chapter's examples, stages.
-/
import Derived.Test.YteclhllliigapaaGreatDoorRe1
namespace Go.Proofs.YteclhllliigapaaGreatDoor
open Go.Cm

set_option maxRecDepth 100000
theorem runB295 : litOk stB294 (runSeq iB.exec (List.replicate 2 pB11) stB289.act stB289.st) = true := by kernel_rfl
theorem runB1132 : litOk stB1131 (runSeq iB.exec (List.replicate 1 pB332) stB1129.act stB1129.st) = true := by kernel_rfl
theorem runB13 : litOk stB12 (runSeq iB.exec (hds 2 pB14) stB10.act stB10.st) = true := by kernel_rfl
theorem runB23 : litOk stB22 (runSeq iB.exec (hds 4 cdB23) ({ n := 46, t := PT.ofList 0 (PT.nil 8) vsB21, defers := [] }) stB19.st) = true := by kernel_rfl
theorem runB1008 : litOk stB1007 (runSeq iB.exec (hds 4 cdB23) ({ n := 46, t := PT.ofList 0 (PT.nil 8) vsB1006, defers := [] }) stB1004.st) = true := by kernel_rfl
theorem runB234 : finOk Tryz.prog Tryz.f36.results.toList (vvB134) stB233 (iB.exec none pB73 stB227.act stB227.st) = true := by kernel_rfl
theorem runB707 : finOk Tryz.prog Tryz.f36.results.toList (vvB302) stB706 (iB.exec none pB73 stB700.act stB700.st) = true := by kernel_rfl
theorem runB1059 : finOk Tryz.prog Tryz.f36.results.toList (vvB421) stB1058 (iB.exec none pB73 stB1052.act stB1052.st) = true := by kernel_rfl
theorem runB550 : finOk Tryz.prog Tryz.f36.results.toList (vvB266) stB549 (iB.exec none pB73 stB543.act stB543.st) = true := by kernel_rfl
theorem runM107 : finOk Tryz.prog Tryz.f12.results.toList (vt) stM106 (iM.exec none pM26 stM103.act stM103.st) = true := by kernel_rfl
theorem runA4 : litOk stA3 (runOps Tryz.prog iA (rops pA1).toList (cutOps pA1 0 1) stA1.act stA1.st) = true := by kernel_rfl
theorem runA356 : litOk stA355 (runOps Tryz.prog iA (rops pA201).toList (cutOps pA201 0 1) stA352.act stA352.st) = true := by kernel_rfl
theorem runB4 : litOk stB3 (runOps Tryz.prog iB (rops pB1).toList (cutOps pB1 0 1) stB1.act stB1.st) = true := by kernel_rfl
theorem runB154 : litOk stB153 (runOps Tryz.prog iB (rops pB99).toList (cutOps pB99 0 1) stB150.act stB150.st) = true := by kernel_rfl
theorem runB1153 : finOk Tryz.prog Tryz.f9.results.toList (.tuple #[.slice none 0 0, .int .i64 0]) stB1152 (iB.exec none pB348 stB1149.act stB1149.st) = true := by kernel_rfl
theorem runA174 : finOk Tryz.prog Tryz.f17.results.toList (.tuple #[.int .i64 4, .int .i64 0]) stA173 (iA.exec none pA107 stA170.act stA170.st) = true := by kernel_rfl
theorem runA511 : finOk Tryz.prog Tryz.f17.results.toList (.tuple #[.int .i64 4, .int .i64 0]) stA510 (iA.exec none pA107 stA507.act stA507.st) = true := by kernel_rfl
theorem runB314 : finOk Tryz.prog Tryz.f17.results.toList (.tuple #[.int .i64 4, .int .i64 0]) stB313 (iB.exec none pB143 stB310.act stB310.st) = true := by kernel_rfl
theorem runB630 : finOk Tryz.prog Tryz.f17.results.toList (.tuple #[.int .i64 4, .int .i64 0]) stB629 (iB.exec none pB143 stB626.act stB626.st) = true := by kernel_rfl
theorem runB982 : finOk Tryz.prog Tryz.f17.results.toList (.tuple #[.int .i64 4, .int .i64 0]) stB981 (iB.exec none pB143 stB978.act stB978.st) = true := by kernel_rfl
theorem runA144 : litX .normal stA143 (iA.exec none pA95 stA140.act stA140.st) = true := by kernel_rfl
theorem runB402 : litX .normal stB401 (iB.exec none pB80 stB398.act stB398.st) = true := by kernel_rfl
theorem runB561 : litX .normal stB560 (iB.exec none pB80 stB557.act stB557.st) = true := by kernel_rfl
theorem runB718 : litX .normal stB717 (iB.exec none pB80 stB714.act stB714.st) = true := by kernel_rfl
theorem runB913 : litX .normal stB912 (iB.exec none pB80 stB909.act stB909.st) = true := by kernel_rfl
theorem runB1070 : litX .normal stB1069 (iB.exec none pB80 stB1066.act stB1066.st) = true := by kernel_rfl
theorem runA122 : finOk Tryz.prog Tryz.f23.results.toList (vvA93) stA121 (iA.exec none pA92 stA115.act stA115.st) = true := by kernel_rfl
theorem runA279 : finOk Tryz.prog Tryz.f23.results.toList (vvA149) stA278 (iA.exec none pA92 stA272.act stA272.st) = true := by kernel_rfl

end Go.Proofs.YteclhllliigapaaGreatDoor

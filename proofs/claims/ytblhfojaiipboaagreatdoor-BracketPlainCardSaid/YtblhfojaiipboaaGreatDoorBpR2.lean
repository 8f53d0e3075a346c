/-
  The chapter's examples, stages.
-/
import Derived.Test.YtblhfojaiipboaaGreatDoorBp1
namespace Go.Proofs.YtblhfojaiipboaaGreatDoor
open Go.Cm
set_option maxRecDepth 100000
theorem runA64 : finOk Tryz.prog Tryz.f51.results.toList (vvA84) stA63 (iA.exec none pA78 stA57.act stA57.st) = true := by kernel_rfl
theorem runA39 : litOk stA38 (runSeq iA.exec (hds 7 cdA42) ({ n := 89, t := PT.ofList 0 (PT.nil 8) vsA37, defers := [] }) stA35.st) = true := by kernel_rfl
theorem runA202 : litOk stA201 (runSeq iA.exec (hds 3 pA16) stA199.act stA199.st) = true := by kernel_rfl
theorem runA196 : litOk stA195 (runSeq iA.exec (hds 5 cdA10) ({ n := 82, t := PT.ofList 0 (PT.nil 8) vsA194, defers := [] }) stA192.st) = true := by kernel_rfl
theorem runA18 : litOk stA17 (runSeq iA.exec (hds 3 pA16) stA15.act stA15.st) = true := by kernel_rfl
theorem runA315 : finOk Tryz.prog Tryz.f23.results.toList (vvA173) stA314 (iA.exec none pA99 stA311.act stA311.st) = true := by kernel_rfl
theorem runA12 : litOk stA11 (runSeq iA.exec (hds 5 cdA10) ({ n := 82, t := PT.ofList 0 (PT.nil 8) vsA10, defers := [] }) stA8.st) = true := by kernel_rfl
theorem runA131 : finOk Tryz.prog Tryz.f23.results.toList (vvA101) stA130 (iA.exec none pA99 stA127.act stA127.st) = true := by kernel_rfl
theorem runA212 : litOk stA211 (runSeq iA.exec (hds 4 cdA33) ({ n := 46, t := PT.ofList 0 (PT.nil 8) vsA210, defers := [] }) stA208.st) = true := by kernel_rfl
theorem runA354 : finOk Tryz.prog Tryz.f5.results.toList (vvA183) stA353 (iA.exec none pA181 stA350.act stA350.st) = true := by kernel_rfl
theorem runA183 : litOk stA182 (runOps Tryz.prog iA (rops pA118).toList (cutOps pA118 0 22) stA180.act stA180.st) = true := by kernel_rfl
theorem runA103 : litX .normal stA102 (iA.exec none pA94 stA99.act stA99.st) = true := by kernel_rfl
end Go.Proofs.YtblhfojaiipboaaGreatDoor

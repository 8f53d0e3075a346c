/-
  The chapter's examples, stages.
-/
import Derived.Test.YtkmhecihkckcmaaGreatDoorBc1
namespace Go.Proofs.YtkmhecihkckcmaaGreatDoor
open Go.Cm
set_option maxRecDepth 100000
theorem runA221 : litOk stA220 (runSeq iA.exec (hds 3 cdA78) ({ n := 62, t := PT.ofList 0 (PT.nil 8) vsA219, defers := [] }) stA217.st) = true := by kernel_rfl
theorem runA210 : litOk stA209 (runSeq iA.exec (hds 7 cdA64) ({ n := 89, t := PT.ofList 0 (PT.nil 8) vsA208, defers := [] }) stA206.st) = true := by kernel_rfl
theorem runA39 : litOk stA38 (runSeq iA.exec (hds 7 cdA64) ({ n := 89, t := PT.ofList 0 (PT.nil 8) vsA37, defers := [] }) stA35.st) = true := by kernel_rfl
theorem runA168 : litOk stA167 (runSeq iA.exec (hds 1 pA103) stA164.act stA164.st) = true := by kernel_rfl
theorem runA189 : litOk stA188 (runSeq iA.exec (hds 3 pA16) stA186.act stA186.st) = true := by kernel_rfl
theorem runA18 : litOk stA17 (runSeq iA.exec (hds 3 pA16) stA15.act stA15.st) = true := by kernel_rfl
theorem runA183 : litOk stA182 (runSeq iA.exec (hds 5 cdA27) ({ n := 82, t := PT.ofList 0 (PT.nil 8) vsA181, defers := [] }) stA179.st) = true := by kernel_rfl
theorem runA289 : finOk Tryz.prog Tryz.f40.results.toList (vvA161) stA288 (iA.exec none pA90 stA285.act stA285.st) = true := by kernel_rfl
theorem runA12 : litOk stA11 (runSeq iA.exec (hds 5 cdA27) ({ n := 82, t := PT.ofList 0 (PT.nil 8) vsA10, defers := [] }) stA8.st) = true := by kernel_rfl
theorem runA118 : finOk Tryz.prog Tryz.f40.results.toList (vvA92) stA117 (iA.exec none pA90 stA114.act stA114.st) = true := by kernel_rfl
theorem runA199 : litOk stA198 (runSeq iA.exec (hds 4 cdA52) ({ n := 46, t := PT.ofList 0 (PT.nil 8) vsA197, defers := [] }) stA195.st) = true := by kernel_rfl
theorem runA28 : litOk stA27 (runSeq iA.exec (hds 4 cdA52) ({ n := 46, t := PT.ofList 0 (PT.nil 8) vsA26, defers := [] }) stA24.st) = true := by kernel_rfl
theorem runA328 : finOk Tryz.prog Tryz.f33.results.toList (vvA171) stA327 (iA.exec none pA169 stA324.act stA324.st) = true := by kernel_rfl
theorem runA250 : finOk Tryz.prog Tryz.f64.results.toList (vvA157) stA249 (iA.exec none pA78 stA243.act stA243.st) = true := by kernel_rfl
theorem runA79 : finOk Tryz.prog Tryz.f64.results.toList (vvA84) stA78 (iA.exec none pA78 stA72.act stA72.st) = true := by kernel_rfl
theorem runA170 : litOk stA169 (runOps Tryz.prog iA (rops pA109).toList (cutOps pA109 0 22) stA167.act stA167.st) = true := by kernel_rfl
theorem runA175 : litOk stA174 (runOps Tryz.prog iA (rops pA117).toList (cutOps pA117 0 2) stA172.act stA172.st) = true := by kernel_rfl
theorem runA157 : finOk Tryz.prog Tryz.f13.results.toList (vvA102) stA156 (iA.exec none pA101 stA153.act stA153.st) = true := by kernel_rfl
theorem runA300 : litX .normal stA299 (iA.exec none pA93 stA296.act stA296.st) = true := by kernel_rfl
end Go.Proofs.YtkmhecihkckcmaaGreatDoor

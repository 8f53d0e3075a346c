/-
  The chapter's examples, stages.
-/
import Derived.Test.YtgnhcamhcnkbfaaGreatDoorSa1
namespace Go.Proofs.YtgnhcamhcnkbfaaGreatDoor
open Go.Cm

set_option maxRecDepth 100000
theorem runA86 : litOk stA85 (runSeq iA.exec (hds 3 cdA128) ({ n := 62, t := PT.ofList 0 (PT.nil 8) vsA84, defers := [] }) stA82.st) = true := by kernel_rfl
theorem runA2 : litOk stA1 (runSeq iA.exec (hds 3 cdA6) ({ n := 52, t := PT.ofList 0 (PT.nil 8) vsA0, defers := [] }) start0) = true := by kernel_rfl
theorem runA710 : finOk Tryz.prog Tryz.f80.results.toList (vvA290) stA709 (iA.exec none pA193 stA706.act stA706.st) = true := by kernel_rfl
theorem runA399 : litOk stA398 (runSeq iA.exec (hds 7 cdA106) ({ n := 89, t := PT.ofList 0 (PT.nil 8) vsA397, defers := [] }) stA395.st) = true := by kernel_rfl
theorem runA64 : litOk stA63 (runSeq iA.exec (hds 4 cdA85) ({ n := 46, t := PT.ofList 0 (PT.nil 8) vsA62, defers := [] }) stA60.st) = true := by kernel_rfl

end Go.Proofs.YtgnhcamhcnkbfaaGreatDoor

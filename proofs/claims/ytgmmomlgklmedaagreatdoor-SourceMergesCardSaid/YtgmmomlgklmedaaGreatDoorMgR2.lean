/-
  The chapter's examples, stages.
-/
import Derived.Test.YtgmmomlgklmedaaGreatDoorMg1
namespace Go.Proofs.YtgmmomlgklmedaaGreatDoor
open Go.Cm

set_option maxRecDepth 100000
theorem runA410 : litOk stA409 (runSeq iA.exec (hds 3 cdA124) ({ n := 62, t := PT.ofList 0 (PT.nil 8) vsA408, defers := [] }) stA406.st) = true := by kernel_rfl
theorem runA75 : litOk stA74 (runSeq iA.exec (hds 7 cdA102) ({ n := 89, t := PT.ofList 0 (PT.nil 8) vsA73, defers := [] }) stA71.st) = true := by kernel_rfl
theorem runA230 : litOk stA229 (runSeq iA.exec (hds 7 cdA102) ({ n := 89, t := PT.ofList 0 (PT.nil 8) vsA228, defers := [] }) stA226.st) = true := by kernel_rfl
theorem runA17 : litOk stA16 (runSeq iA.exec (hds 4 cdA50) ({ n := 79, t := PT.ofList 0 (PT.nil 8) vsA15, defers := [] }) stA13.st) = true := by kernel_rfl
theorem runA532 : litOk stA531 (runSeq iA.exec (hds 2 pA146) stA527.act stA527.st) = true := by kernel_rfl
theorem runA48 : litOk stA47 (runSeq iA.exec (hds 4 cdA96) ({ n := 52, t := PT.ofList 0 (PT.nil 8) vsA46, defers := [] }) stA44.st) = true := by kernel_rfl
theorem runA372 : litOk stA371 (runSeq iA.exec (hds 4 cdA96) ({ n := 52, t := PT.ofList 0 (PT.nil 8) vsA370, defers := [] }) stA368.st) = true := by kernel_rfl
theorem runA538 : litOk stA537 (runSeq iA.exec (hds 2 pA156) stA535.act stA535.st) = true := by kernel_rfl
theorem runA64 : litOk stA63 (runSeq iA.exec (hds 4 cdA80) ({ n := 46, t := PT.ofList 0 (PT.nil 8) vsA62, defers := [] }) stA60.st) = true := by kernel_rfl
theorem runA126 : litX .normal stA125 (iA.exec none pA133 stA122.act stA122.st) = true := by kernel_rfl

end Go.Proofs.YtgmmomlgklmedaaGreatDoor

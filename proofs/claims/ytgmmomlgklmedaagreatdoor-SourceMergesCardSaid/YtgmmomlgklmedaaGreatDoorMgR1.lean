/-
  The chapter's examples, stages.
-/
import Derived.Test.YtgmmomlgklmedaaGreatDoorMg1
namespace Go.Proofs.YtgmmomlgklmedaaGreatDoor
open Go.Cm

set_option maxRecDepth 100000
theorem runA241 : litOk stA240 (runSeq iA.exec (hds 3 cdA124) ({ n := 62, t := PT.ofList 0 (PT.nil 8) vsA239, defers := [] }) stA237.st) = true := by kernel_rfl
theorem runA2 : litOk stA1 (runSeq iA.exec (hds 3 cdA5) ({ n := 52, t := PT.ofList 0 (PT.nil 8) vsA0, defers := [] }) start0) = true := by kernel_rfl
theorem runA399 : litOk stA398 (runSeq iA.exec (hds 7 cdA102) ({ n := 89, t := PT.ofList 0 (PT.nil 8) vsA397, defers := [] }) stA395.st) = true := by kernel_rfl
theorem runA554 : litOk stA553 (runSeq iA.exec (hds 7 cdA102) ({ n := 89, t := PT.ofList 0 (PT.nil 8) vsA552, defers := [] }) stA550.st) = true := by kernel_rfl
theorem runA208 : litOk stA207 (runSeq iA.exec (hds 2 pA146) stA203.act stA203.st) = true := by kernel_rfl
theorem runA115 : finOk Tryz.prog Tryz.f102.results.toList (vvA132) stA114 (iA.exec none pA126 stA108.act stA108.st) = true := by kernel_rfl
theorem runA193 : finOk Tryz.prog Tryz.f77.results.toList (.tuple #[.int .i64 2, .int .i64 0]) stA192 (iA.exec none pA144 stA189.act stA189.st) = true := by kernel_rfl

end Go.Proofs.YtgmmomlgklmedaaGreatDoor

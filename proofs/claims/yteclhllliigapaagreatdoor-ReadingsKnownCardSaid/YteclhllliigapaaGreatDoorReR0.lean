/-
  The chapter's examples, stages.
-/
import Derived.Test.YteclhllliigapaaGreatDoorRe1
namespace Go.Proofs.YteclhllliigapaaGreatDoor
open Go.Cm

set_option maxRecDepth 100000
theorem runF2 : litOk stF1 (runSeq iF.exec (hds 6 cdF18) ({ n := 94, t := PT.ofList 0 (PT.nil 8) vsF0, defers := [] }) start0) = true := by kernel_rfl
theorem runA27 : litOk stA26 (runSeq iA.exec (hds 4 cdA4) ({ n := 52, t := PT.ofList 0 (PT.nil 8) vsA25, defers := [] }) stA23.st) = true := by kernel_rfl
theorem runA522 : finOk Tryz.prog Tryz.f19.results.toList (vt) stA521 (iA.exec none pA240 stA518.act stA518.st) = true := by kernel_rfl
theorem runA105 : litX .normal stA104 (iA.exec none pA89 stA101.act stA101.st) = true := by kernel_rfl

end Go.Proofs.YteclhllliigapaaGreatDoor

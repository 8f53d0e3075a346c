/-
  The chapter's examples, stages.
-/
import Derived.Test.YteclhllliigapaaGreatDoorRe1
namespace Go.Proofs.YteclhllliigapaaGreatDoor
open Go.Cm

set_option maxRecDepth 100000
theorem runA65 : litOk stA64 (runSeq iA.exec (hds 3 cdA55) ({ n := 62, t := PT.ofList 0 (PT.nil 8) vsA63, defers := [] }) stA61.st) = true := by kernel_rfl
theorem runM85 : finOk Tryz.prog Tryz.f26.results.toList (vvM36) stM84 (iM.exec none pM20 stM81.act stM81.st) = true := by kernel_rfl
theorem runM40 : finOk Tryz.prog Tryz.f28.results.toList (vvM25) stM39 (iM.exec none pM23 stM36.act stM36.st) = true := by kernel_rfl
theorem runA262 : litX .normal stA261 (iA.exec none pA89 stA258.act stA258.st) = true := by kernel_rfl

end Go.Proofs.YteclhllliigapaaGreatDoor

/-
  The chapter's examples, stages.
-/
import Derived.Test.YtgmmomlgklmedaaGreatDoorMg1
namespace Go.Proofs.YtgmmomlgklmedaaGreatDoor
open Go.Cm

set_option maxRecDepth 100000
theorem runA565 : litOk stA564 (runSeq iA.exec (hds 3 cdA124) ({ n := 62, t := PT.ofList 0 (PT.nil 8) vsA563, defers := [] }) stA561.st) = true := by kernel_rfl
theorem runA335 : finOk Tryz.prog Tryz.f75.results.toList (vvA195) stA334 (iA.exec none pA193 stA331.act stA331.st) = true := by kernel_rfl
theorem runA710 : finOk Tryz.prog Tryz.f75.results.toList (vvA290) stA709 (iA.exec none pA193 stA706.act stA706.st) = true := by kernel_rfl
theorem runA219 : litOk stA218 (runSeq iA.exec (hds 4 cdA80) ({ n := 46, t := PT.ofList 0 (PT.nil 8) vsA217, defers := [] }) stA215.st) = true := by kernel_rfl

end Go.Proofs.YtgmmomlgklmedaaGreatDoor

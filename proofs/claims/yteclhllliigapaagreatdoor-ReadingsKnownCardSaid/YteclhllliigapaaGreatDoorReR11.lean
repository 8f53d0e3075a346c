/-
  The chapter's examples, stages.
-/
import Derived.Test.YteclhllliigapaaGreatDoorRe1
namespace Go.Proofs.YteclhllliigapaaGreatDoor
open Go.Cm

set_option maxRecDepth 100000
theorem runA322 : litOk stA321 (runSeq iA.exec (List.replicate 3 pA180) stA319.act stA319.st) = true := by kernel_rfl
theorem runB7 : litOk stB6 (runSeq iB.exec (hds 4 cdB4) ({ n := 52, t := PT.ofList 0 (PT.nil 8) vsB5, defers := [] }) stB3.st) = true := by kernel_rfl
theorem runB483 : litOk stB482 (runSeq iB.exec (hds 4 cdB4) ({ n := 52, t := PT.ofList 0 (PT.nil 8) vsB481, defers := [] }) stB479.st) = true := by kernel_rfl
theorem runA364 : litOk stA363 (runSeq iA.exec (hds 4 cdA4) ({ n := 52, t := PT.ofList 0 (PT.nil 8) vsA362, defers := [] }) stA360.st) = true := by kernel_rfl
theorem runA380 : litOk stA379 (runSeq iA.exec (hds 4 cdA23) ({ n := 46, t := PT.ofList 0 (PT.nil 8) vsA378, defers := [] }) stA376.st) = true := by kernel_rfl
theorem runB183 : litOk stB182 (runSeq iB.exec (hds 4 cdB23) ({ n := 46, t := PT.ofList 0 (PT.nil 8) vsB181, defers := [] }) stB179.st) = true := by kernel_rfl
theorem runA94 : finOk Tryz.prog Tryz.f36.results.toList (vvA88) stA93 (iA.exec none pA82 stA87.act stA87.st) = true := by kernel_rfl
theorem runM51 : finOk Tryz.prog Tryz.f12.results.toList (vt) stM50 (iM.exec none pM26 stM47.act stM47.st) = true := by kernel_rfl

end Go.Proofs.YteclhllliigapaaGreatDoor

/-
  The chapter's examples, stages.
-/
import Derived.Test.YtblhfojaiipboaaGreatDoorBp1
namespace Go.Proofs.YtblhfojaiipboaaGreatDoor
open Go.Cm
set_option maxRecDepth 100000
theorem runA248 : finOk Tryz.prog Tryz.f51.results.toList (vvA163) stA247 (iA.exec none pA78 stA241.act stA241.st) = true := by kernel_rfl
theorem runA234 : litOk stA233 (runSeq iA.exec (hds 2 cdA51) ({ n := 62, t := PT.ofList 0 (PT.nil 8) vsA232, defers := [] }) stA230.st) = true := by kernel_rfl
theorem runA181 : litOk stA180 (runSeq iA.exec (hds 1 pA112) stA177.act stA177.st) = true := by kernel_rfl
theorem runA207 : litOk stA206 (runSeq iA.exec (hds 4 cdA23) ({ n := 94, t := PT.ofList 0 (PT.nil 8) vsA205, defers := [] }) stA203.st) = true := by kernel_rfl
end Go.Proofs.YtblhfojaiipboaaGreatDoor

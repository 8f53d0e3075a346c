/-
  The chapter's examples, stages.
-/
import Derived.Test.YtgiibikieblicaaGreatDoorWt1
namespace Go.Proofs.YtgiibikieblicaaGreatDoor
open Go.Cm
set_option maxRecDepth 100000
theorem runA2 : finOk Tryz.prog Tryz.f5.results.toList (vt) stA1 (iA.exec none cdA5 ({ n := 37, t := PT.ofList 0 (PT.nil 8) vsA0, defers := [] }) start0) = true := by kernel_rfl
end Go.Proofs.YtgiibikieblicaaGreatDoor

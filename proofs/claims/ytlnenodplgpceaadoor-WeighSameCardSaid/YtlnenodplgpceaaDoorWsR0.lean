/-
  The chapter's examples, stages.
-/
import Derived.Test.YtlnenodplgpceaaDoorWs1
namespace Go.Proofs.YtlnenodplgpceaaDoor
open Go.Cm
set_option maxRecDepth 100000
theorem runA2 : finOk Tryd.prog Tryd.f6.results.toList (vt) stA1 (iA.exec none cdA6 ({ n := 37, t := PT.ofList 0 (PT.nil 8) vsA0, defers := [] }) start0) = true := by kernel_rfl
end Go.Proofs.YtlnenodplgpceaaDoor

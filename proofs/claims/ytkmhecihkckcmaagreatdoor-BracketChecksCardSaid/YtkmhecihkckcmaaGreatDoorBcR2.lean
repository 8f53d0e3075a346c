/-
  The chapter's examples, stages.
-/
import Derived.Test.YtkmhecihkckcmaaGreatDoorBc1
namespace Go.Proofs.YtkmhecihkckcmaaGreatDoor
open Go.Cm
set_option maxRecDepth 100000
theorem runA223 : finOk Tryz.prog Tryz.f78.results.toList (vvA151) stA222 (iA.exec none pA69 stA220.act stA220.st) = true := by kernel_rfl
theorem runA52 : finOk Tryz.prog Tryz.f78.results.toList (vvA75) stA51 (iA.exec none pA69 stA49.act stA49.st) = true := by kernel_rfl
end Go.Proofs.YtkmhecihkckcmaaGreatDoor

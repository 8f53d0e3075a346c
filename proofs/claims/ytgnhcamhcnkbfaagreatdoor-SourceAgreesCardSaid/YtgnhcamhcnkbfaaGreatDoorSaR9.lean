/-
  The chapter's examples, stages.
-/
import Derived.Test.YtgnhcamhcnkbfaaGreatDoorSa1
namespace Go.Proofs.YtgnhcamhcnkbfaaGreatDoor
open Go.Cm

set_option maxRecDepth 100000
theorem runA663 : litOk stA662 (runSeq iA.exec (List.replicate 1 pA267) stA660.act stA660.st) = true := by kernel_rfl
theorem runA412 : finOk Tryz.prog Tryz.f128.results.toList (vvA222) stA411 (iA.exec none pA117 stA409.act stA409.st) = true := by kernel_rfl

end Go.Proofs.YtgnhcamhcnkbfaaGreatDoor

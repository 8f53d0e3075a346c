/-
  The chapter's examples, stages.
-/
import Derived.Test.YtgnhcamhcnkbfaaGreatDoorSa1
namespace Go.Proofs.YtgnhcamhcnkbfaaGreatDoor
open Go.Cm

set_option maxRecDepth 100000
theorem runA700 : finOk Tryz.prog Tryz.f72.results.toList (vvA289) stA699 (iA.exec none pA285 stA697.act stA697.st) = true := by kernel_rfl

end Go.Proofs.YtgnhcamhcnkbfaaGreatDoor

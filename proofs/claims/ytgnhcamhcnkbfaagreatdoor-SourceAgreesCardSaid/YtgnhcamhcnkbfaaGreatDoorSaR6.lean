/-
  The chapter's examples, stages.
-/
import Derived.Test.YtgnhcamhcnkbfaaGreatDoorSa1
namespace Go.Proofs.YtgnhcamhcnkbfaaGreatDoor
open Go.Cm

set_option maxRecDepth 100000
theorem runA739 : finOk Tryz.prog Tryz.f72.results.toList (vvA294) stA738 (iA.exec none pA285 stA736.act stA736.st) = true := by kernel_rfl

end Go.Proofs.YtgnhcamhcnkbfaaGreatDoor

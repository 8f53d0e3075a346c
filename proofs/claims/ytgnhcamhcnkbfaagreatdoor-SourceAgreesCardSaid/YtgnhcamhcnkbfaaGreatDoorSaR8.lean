/-
  The chapter's examples, stages.
-/
import Derived.Test.YtgnhcamhcnkbfaaGreatDoorSa1
namespace Go.Proofs.YtgnhcamhcnkbfaaGreatDoor
open Go.Cm

set_option maxRecDepth 100000
theorem runA661 : litOk stA660 (runSeq iA.exec (List.replicate 1 pA267) stA658.act stA658.st) = true := by kernel_rfl
theorem runA88 : finOk Tryz.prog Tryz.f128.results.toList (vvA123) stA87 (iA.exec none pA117 stA85.act stA85.st) = true := by kernel_rfl

end Go.Proofs.YtgnhcamhcnkbfaaGreatDoor

/-
  The chapter's examples, stages.
-/
import Derived.Test.YtgnhcamhcnkbfaaGreatDoorSa1
namespace Go.Proofs.YtgnhcamhcnkbfaaGreatDoor
open Go.Cm

set_option maxRecDepth 100000
theorem runA749 : litX .normal stA748 (iA.exec none pA264 stA745.act stA745.st) = true := by kernel_rfl
theorem runA243 : finOk Tryz.prog Tryz.f128.results.toList (vvA177) stA242 (iA.exec none pA117 stA240.act stA240.st) = true := by kernel_rfl

end Go.Proofs.YtgnhcamhcnkbfaaGreatDoor

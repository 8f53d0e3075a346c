/-
  The chapter's examples, stages.
-/
import Derived.Test.YtgnhcamhcnkbfaaGreatDoorSa1
namespace Go.Proofs.YtgnhcamhcnkbfaaGreatDoor
open Go.Cm

set_option maxRecDepth 100000
theorem runA698 : litOk stA697 (runSeq iA.exec (hds 4 cdA72) ({ n := 66, t := PT.ofList 0 (PT.nil 8) vsA696, defers := [] }) stA694.st) = true := by kernel_rfl

end Go.Proofs.YtgnhcamhcnkbfaaGreatDoor

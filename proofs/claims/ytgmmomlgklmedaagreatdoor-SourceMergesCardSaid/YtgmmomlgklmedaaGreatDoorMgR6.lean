/-
  The chapter's examples, stages.
-/
import Derived.Test.YtgmmomlgklmedaaGreatDoorMg1
namespace Go.Proofs.YtgmmomlgklmedaaGreatDoor
open Go.Cm

set_option maxRecDepth 100000
theorem runA739 : finOk Tryz.prog Tryz.f65.results.toList (vvA294) stA738 (iA.exec none pA285 stA736.act stA736.st) = true := by kernel_rfl

end Go.Proofs.YtgmmomlgklmedaaGreatDoor

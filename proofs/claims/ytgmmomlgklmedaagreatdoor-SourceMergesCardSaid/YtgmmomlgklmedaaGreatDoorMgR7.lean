/-
  The chapter's examples, stages.
-/
import Derived.Test.YtgmmomlgklmedaaGreatDoorMg1
namespace Go.Proofs.YtgmmomlgklmedaaGreatDoor
open Go.Cm

set_option maxRecDepth 100000
theorem runA700 : finOk Tryz.prog Tryz.f65.results.toList (vvA289) stA699 (iA.exec none pA285 stA697.act stA697.st) = true := by kernel_rfl

end Go.Proofs.YtgmmomlgklmedaaGreatDoor

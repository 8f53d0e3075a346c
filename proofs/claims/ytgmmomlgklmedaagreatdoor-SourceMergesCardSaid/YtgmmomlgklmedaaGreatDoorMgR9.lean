/-
  The chapter's examples, stages.
-/
import Derived.Test.YtgmmomlgklmedaaGreatDoorMg1
namespace Go.Proofs.YtgmmomlgklmedaaGreatDoor
open Go.Cm

set_option maxRecDepth 100000
theorem runA663 : litOk stA662 (runSeq iA.exec (List.replicate 1 pA267) stA660.act stA660.st) = true := by kernel_rfl
theorem runA567 : finOk Tryz.prog Tryz.f124.results.toList (vvA252) stA566 (iA.exec none pA117 stA564.act stA564.st) = true := by kernel_rfl

end Go.Proofs.YtgmmomlgklmedaaGreatDoor

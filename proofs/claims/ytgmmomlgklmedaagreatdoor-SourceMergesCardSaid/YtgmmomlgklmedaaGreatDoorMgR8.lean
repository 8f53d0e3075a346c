/-
  The chapter's examples, stages.
-/
import Derived.Test.YtgmmomlgklmedaaGreatDoorMg1
namespace Go.Proofs.YtgmmomlgklmedaaGreatDoor
open Go.Cm

set_option maxRecDepth 100000
theorem runA661 : litOk stA660 (runSeq iA.exec (List.replicate 1 pA267) stA658.act stA658.st) = true := by kernel_rfl
theorem runA243 : finOk Tryz.prog Tryz.f124.results.toList (vvA177) stA242 (iA.exec none pA117 stA240.act stA240.st) = true := by kernel_rfl

end Go.Proofs.YtgmmomlgklmedaaGreatDoor

/-
  The chapter's examples, stages.
-/
import Derived.Test.YtgmmomlgklmedaaGreatDoorMg1
namespace Go.Proofs.YtgmmomlgklmedaaGreatDoor
open Go.Cm

set_option maxRecDepth 100000
theorem runA88 : finOk Tryz.prog Tryz.f124.results.toList (vvA123) stA87 (iA.exec none pA117 stA85.act stA85.st) = true := by kernel_rfl
theorem runA412 : finOk Tryz.prog Tryz.f124.results.toList (vvA222) stA411 (iA.exec none pA117 stA409.act stA409.st) = true := by kernel_rfl

end Go.Proofs.YtgmmomlgklmedaaGreatDoor

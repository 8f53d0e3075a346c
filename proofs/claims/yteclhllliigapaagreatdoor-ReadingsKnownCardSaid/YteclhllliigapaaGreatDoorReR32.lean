/-
  The chapter's examples, stages.
-/
import Derived.Test.YteclhllliigapaaGreatDoorRe1
namespace Go.Proofs.YteclhllliigapaaGreatDoor
open Go.Cm

set_option maxRecDepth 100000
theorem runB523 : finOk Tryz.prog Tryz.f55.results.toList (vvB260) stB522 (iB.exec none pB64 stB520.act stB520.st) = true := by kernel_rfl
theorem runA404 : finOk Tryz.prog Tryz.f55.results.toList (vvA225) stA403 (iA.exec none pA73 stA401.act stA401.st) = true := by kernel_rfl

end Go.Proofs.YteclhllliigapaaGreatDoor

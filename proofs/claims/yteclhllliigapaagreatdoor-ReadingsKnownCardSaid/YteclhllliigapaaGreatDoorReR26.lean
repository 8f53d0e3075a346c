/-
  The chapter's examples, stages.
-/
import Derived.Test.YteclhllliigapaaGreatDoorRe1
namespace Go.Proofs.YteclhllliigapaaGreatDoor
open Go.Cm

set_option maxRecDepth 100000
theorem runM75 : finOk Tryz.prog Tryz.f6.results.toList (vvM34) stM74 (iM.exec none pM13 stM72.act stM72.st) = true := by kernel_rfl

end Go.Proofs.YteclhllliigapaaGreatDoor

/-
  The chapter's examples, stages.
-/
import Derived.Test.YteclhllliigapaaGreatDoorRe1
namespace Go.Proofs.YteclhllliigapaaGreatDoor
open Go.Cm

set_option maxRecDepth 100000
theorem runM19 : finOk Tryz.prog Tryz.f6.results.toList (vvM19) stM18 (iM.exec none pM13 stM16.act stM16.st) = true := by kernel_rfl

end Go.Proofs.YteclhllliigapaaGreatDoor

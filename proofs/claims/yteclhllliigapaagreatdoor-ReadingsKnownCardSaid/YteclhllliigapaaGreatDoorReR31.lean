/-
  The chapter's examples, stages.
-/
import Derived.Test.YteclhllliigapaaGreatDoorRe1
namespace Go.Proofs.YteclhllliigapaaGreatDoor
open Go.Cm

set_option maxRecDepth 100000
theorem runB47 : finOk Tryz.prog Tryz.f55.results.toList (vvB70) stB46 (iB.exec none pB64 stB44.act stB44.st) = true := by kernel_rfl
theorem runB680 : finOk Tryz.prog Tryz.f55.results.toList (vvB296) stB679 (iB.exec none pB64 stB677.act stB677.st) = true := by kernel_rfl

end Go.Proofs.YteclhllliigapaaGreatDoor

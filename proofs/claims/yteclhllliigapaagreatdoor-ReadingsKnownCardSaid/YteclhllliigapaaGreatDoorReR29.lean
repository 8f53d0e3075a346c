/-
  The chapter's examples, stages.
-/
import Derived.Test.YteclhllliigapaaGreatDoorRe1
namespace Go.Proofs.YteclhllliigapaaGreatDoor
open Go.Cm

set_option maxRecDepth 100000
theorem runB207 : finOk Tryz.prog Tryz.f55.results.toList (vvB128) stB206 (iB.exec none pB64 stB204.act stB204.st) = true := by kernel_rfl
theorem runA224 : finOk Tryz.prog Tryz.f55.results.toList (vvA141) stA223 (iA.exec none pA73 stA221.act stA221.st) = true := by kernel_rfl

end Go.Proofs.YteclhllliigapaaGreatDoor

/-
  The chapter's examples, stages.
-/
import Derived.Test.YteclhllliigapaaGreatDoorRe1
namespace Go.Proofs.YteclhllliigapaaGreatDoor
open Go.Cm

set_option maxRecDepth 100000
theorem runA67 : finOk Tryz.prog Tryz.f55.results.toList (vvA79) stA66 (iA.exec none pA73 stA64.act stA64.st) = true := by kernel_rfl
theorem runB364 : finOk Tryz.prog Tryz.f55.results.toList (vvB177) stB363 (iB.exec none pB64 stB361.act stB361.st) = true := by kernel_rfl

end Go.Proofs.YteclhllliigapaaGreatDoor

/-
  The chapter's examples, stages.
-/
import Derived.Test.YtpndamekpdajmaaGreatDoorSo1
namespace Go.Proofs.YtpndamekpdajmaaGreatDoor
open Go.Cm

set_option maxRecDepth 100000
theorem runA243 : finOk Tryz.prog Tryz.f110.results.toList (vvA177) stA242 (iA.exec none pA117 stA240.act stA240.st) = true := by kernel_rfl
theorem runA412 : finOk Tryz.prog Tryz.f110.results.toList (vvA222) stA411 (iA.exec none pA117 stA409.act stA409.st) = true := by kernel_rfl

end Go.Proofs.YtpndamekpdajmaaGreatDoor

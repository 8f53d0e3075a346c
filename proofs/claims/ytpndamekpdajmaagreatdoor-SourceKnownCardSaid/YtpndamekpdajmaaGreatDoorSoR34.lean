/-
  The chapter's examples, stages.
-/
import Derived.Test.YtpndamekpdajmaaGreatDoorSo1
namespace Go.Proofs.YtpndamekpdajmaaGreatDoor
open Go.Cm

set_option maxRecDepth 100000
theorem runB1611 : finOk Tryz.prog Tryz.f110.results.toList (vvB490) stB1610 (iB.exec none pB106 stB1608.act stB1608.st) = true := by kernel_rfl
theorem runB903 : finOk Tryz.prog Tryz.f110.results.toList (vvB331) stB902 (iB.exec none pB106 stB900.act stB900.st) = true := by kernel_rfl

end Go.Proofs.YtpndamekpdajmaaGreatDoor

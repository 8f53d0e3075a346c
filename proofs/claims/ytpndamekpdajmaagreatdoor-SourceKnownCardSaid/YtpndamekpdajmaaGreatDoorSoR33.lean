/-
  The chapter's examples, stages.
-/
import Derived.Test.YtpndamekpdajmaaGreatDoorSo1
namespace Go.Proofs.YtpndamekpdajmaaGreatDoor
open Go.Cm

set_option maxRecDepth 100000
theorem runB243 : finOk Tryz.prog Tryz.f110.results.toList (vvB166) stB242 (iB.exec none pB106 stB240.act stB240.st) = true := by kernel_rfl
theorem runB88 : finOk Tryz.prog Tryz.f110.results.toList (vvB112) stB87 (iB.exec none pB106 stB85.act stB85.st) = true := by kernel_rfl

end Go.Proofs.YtpndamekpdajmaaGreatDoor

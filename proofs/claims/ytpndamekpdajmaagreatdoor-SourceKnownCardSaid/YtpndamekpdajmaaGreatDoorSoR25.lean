/-
  The chapter's examples, stages.
-/
import Derived.Test.YtpndamekpdajmaaGreatDoorSo1
namespace Go.Proofs.YtpndamekpdajmaaGreatDoor
open Go.Cm

set_option maxRecDepth 100000
theorem runB2107 : finOk Tryz.prog Tryz.f44.results.toList (vvB590) stB2106 (iB.exec none pB581 stB2104.act stB2104.st) = true := by kernel_rfl

end Go.Proofs.YtpndamekpdajmaaGreatDoor

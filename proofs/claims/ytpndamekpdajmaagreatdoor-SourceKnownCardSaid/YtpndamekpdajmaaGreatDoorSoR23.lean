/-
  The chapter's examples, stages.
-/
import Derived.Test.YtpndamekpdajmaaGreatDoorSo1
namespace Go.Proofs.YtpndamekpdajmaaGreatDoor
open Go.Cm

set_option maxRecDepth 100000
theorem runB2068 : finOk Tryz.prog Tryz.f44.results.toList (vvB585) stB2067 (iB.exec none pB581 stB2065.act stB2065.st) = true := by kernel_rfl

end Go.Proofs.YtpndamekpdajmaaGreatDoor

/-
  The chapter's examples, stages.
-/
import Derived.Test.YtpndamekpdajmaaGreatDoorSo1
namespace Go.Proofs.YtpndamekpdajmaaGreatDoor
open Go.Cm

set_option maxRecDepth 100000
theorem runB1935 : finOk Tryz.prog Tryz.f110.results.toList (vvB555) stB1934 (iB.exec none pB106 stB1932.act stB1932.st) = true := by kernel_rfl
theorem runA749 : litX .normal stA748 (iA.exec none pA264 stA745.act stA745.st) = true := by kernel_rfl

end Go.Proofs.YtpndamekpdajmaaGreatDoor

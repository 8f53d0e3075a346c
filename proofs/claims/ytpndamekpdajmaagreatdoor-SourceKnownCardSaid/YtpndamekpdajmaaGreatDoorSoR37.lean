/-
  The chapter's examples, stages.
-/
import Derived.Test.YtpndamekpdajmaaGreatDoorSo1
namespace Go.Proofs.YtpndamekpdajmaaGreatDoor
open Go.Cm

set_option maxRecDepth 100000
theorem runB1780 : finOk Tryz.prog Tryz.f110.results.toList (vvB525) stB1779 (iB.exec none pB106 stB1777.act stB1777.st) = true := by kernel_rfl
theorem runB2117 : litX .normal stB2116 (iB.exec none pB253 stB2113.act stB2113.st) = true := by kernel_rfl

end Go.Proofs.YtpndamekpdajmaaGreatDoor

/-
  The chapter's examples, stages.
-/
import Derived.Test.YtpndamekpdajmaaGreatDoorSo1
namespace Go.Proofs.YtpndamekpdajmaaGreatDoor
open Go.Cm

set_option maxRecDepth 100000
theorem runB567 : finOk Tryz.prog Tryz.f110.results.toList (vvB241) stB566 (iB.exec none pB106 stB564.act stB564.st) = true := by kernel_rfl
theorem runB412 : finOk Tryz.prog Tryz.f110.results.toList (vvB211) stB411 (iB.exec none pB106 stB409.act stB409.st) = true := by kernel_rfl

end Go.Proofs.YtpndamekpdajmaaGreatDoor

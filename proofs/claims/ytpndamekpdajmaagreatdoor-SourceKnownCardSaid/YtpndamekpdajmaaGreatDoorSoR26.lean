/-
  The chapter's examples, stages.
-/
import Derived.Test.YtpndamekpdajmaaGreatDoorSo1
namespace Go.Proofs.YtpndamekpdajmaaGreatDoor
open Go.Cm

set_option maxRecDepth 100000
theorem runB1321 : litOk stB1320 (runSeq iB.exec (List.replicate 1 pB256) stB1318.act stB1318.st) = true := by kernel_rfl
theorem runB1456 : finOk Tryz.prog Tryz.f110.results.toList (vvB460) stB1455 (iB.exec none pB106 stB1453.act stB1453.st) = true := by kernel_rfl

end Go.Proofs.YtpndamekpdajmaaGreatDoor

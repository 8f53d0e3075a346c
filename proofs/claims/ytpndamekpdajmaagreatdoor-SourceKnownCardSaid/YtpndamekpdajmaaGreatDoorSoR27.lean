/-
  The chapter's examples, stages.
-/
import Derived.Test.YtpndamekpdajmaaGreatDoorSo1
namespace Go.Proofs.YtpndamekpdajmaaGreatDoor
open Go.Cm

set_option maxRecDepth 100000
theorem runA661 : litOk stA660 (runSeq iA.exec (List.replicate 1 pA267) stA658.act stA658.st) = true := by kernel_rfl
theorem runB1227 : finOk Tryz.prog Tryz.f110.results.toList (vvB399) stB1226 (iB.exec none pB106 stB1224.act stB1224.st) = true := by kernel_rfl

end Go.Proofs.YtpndamekpdajmaaGreatDoor

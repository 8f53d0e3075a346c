/-
  The chapter's examples, stages.
-/
import Derived.Test.YtpndamekpdajmaaGreatDoorSo1
namespace Go.Proofs.YtpndamekpdajmaaGreatDoor
open Go.Cm

set_option maxRecDepth 100000
theorem runB2029 : litOk stB2028 (runSeq iB.exec (List.replicate 1 pB256) stB2026.act stB2026.st) = true := by kernel_rfl
theorem runA88 : finOk Tryz.prog Tryz.f110.results.toList (vvA123) stA87 (iA.exec none pA117 stA85.act stA85.st) = true := by kernel_rfl

end Go.Proofs.YtpndamekpdajmaaGreatDoor

/-
  The chapter's examples, stages.
-/
import Derived.Test.YtpndamekpdajmaaGreatDoorSo1
namespace Go.Proofs.YtpndamekpdajmaaGreatDoor
open Go.Cm

set_option maxRecDepth 100000
theorem runB2031 : litOk stB2030 (runSeq iB.exec (List.replicate 1 pB256) stB2028.act stB2028.st) = true := by kernel_rfl
theorem runB1072 : finOk Tryz.prog Tryz.f110.results.toList (vvB369) stB1071 (iB.exec none pB106 stB1069.act stB1069.st) = true := by kernel_rfl

end Go.Proofs.YtpndamekpdajmaaGreatDoor

/-
  The chapter's examples, stages.
-/
import Derived.Test.YtpndamekpdajmaaGreatDoorSo1
namespace Go.Proofs.YtpndamekpdajmaaGreatDoor
open Go.Cm

set_option maxRecDepth 100000
theorem runB1323 : litOk stB1322 (runSeq iB.exec (List.replicate 1 pB256) stB1320.act stB1320.st) = true := by kernel_rfl
theorem runB748 : finOk Tryz.prog Tryz.f110.results.toList (vvB301) stB747 (iB.exec none pB106 stB745.act stB745.st) = true := by kernel_rfl

end Go.Proofs.YtpndamekpdajmaaGreatDoor

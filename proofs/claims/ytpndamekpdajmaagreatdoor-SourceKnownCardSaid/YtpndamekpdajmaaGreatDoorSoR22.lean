/-
  The chapter's examples, stages.
-/
import Derived.Test.YtpndamekpdajmaaGreatDoorSo1
namespace Go.Proofs.YtpndamekpdajmaaGreatDoor
open Go.Cm

set_option maxRecDepth 100000
theorem runA739 : finOk Tryz.prog Tryz.f44.results.toList (vvA294) stA738 (iA.exec none pA285 stA736.act stA736.st) = true := by kernel_rfl

end Go.Proofs.YtpndamekpdajmaaGreatDoor

/-
  The chapter's examples, stages.
-/
import Derived.Test.YteclhllliigapaaGreatDoorRe1
namespace Go.Proofs.YteclhllliigapaaGreatDoor
open Go.Cm

set_option maxRecDepth 100000
theorem runB1130 : litOk stB1129 (runSeq iB.exec (List.replicate 3 pB332) stB1127.act stB1127.st) = true := by kernel_rfl
theorem runF4 : finOk Tryz.prog Tryz.f18.results.toList (vt) stF3 (iF.exec none pF20 stF1.act stF1.st) = true := by kernel_rfl

end Go.Proofs.YteclhllliigapaaGreatDoor

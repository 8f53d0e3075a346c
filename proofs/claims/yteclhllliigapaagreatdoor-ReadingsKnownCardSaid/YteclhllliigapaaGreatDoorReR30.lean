/-
  The chapter's examples, stages.
-/
import Derived.Test.YteclhllliigapaaGreatDoorRe1
namespace Go.Proofs.YteclhllliigapaaGreatDoor
open Go.Cm

set_option maxRecDepth 100000
theorem runB875 : finOk Tryz.prog Tryz.f55.results.toList (vvB379) stB874 (iB.exec none pB64 stB872.act stB872.st) = true := by kernel_rfl
theorem runB1032 : finOk Tryz.prog Tryz.f55.results.toList (vvB415) stB1031 (iB.exec none pB64 stB1029.act stB1029.st) = true := by kernel_rfl

end Go.Proofs.YteclhllliigapaaGreatDoor

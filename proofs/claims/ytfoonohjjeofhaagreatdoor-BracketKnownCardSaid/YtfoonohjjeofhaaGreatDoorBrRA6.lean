/-
  The chapter's examples, a stage.
-/
import Derived.Test.YtfoonohjjeofhaaGreatDoorBr1
namespace Go.Proofs.YtfoonohjjeofhaaGreatDoor
open Go.Cm

set_option maxRecDepth 100000 in
theorem runA6 : litOk stA5 (runOps Tryz.prog (fnsG Tryz.prog (kk noCall) 100000) (rops (hd (tlN 1 cA))).toList ((rops (hd (tlN 1 cA))).toList.drop 1) stA3.act stA3.st) = true := by kernel_rfl

end Go.Proofs.YtfoonohjjeofhaaGreatDoor

/-
  The chapter's examples, a stage.
-/
import Derived.Test.YtfoonohjjeofhaaGreatDoorBr1
namespace Go.Proofs.YtfoonohjjeofhaaGreatDoor
open Go.Cm

set_option maxRecDepth 100000 in
theorem runA4 : litOk stA3 (runOps Tryz.prog (fnsG Tryz.prog (kk noCall) 100000) (rops (hd (tlN 1 cA))).toList (cutOps (hd (tlN 1 cA)) 0 1) stA0.act stA0.st) = true := by kernel_rfl

end Go.Proofs.YtfoonohjjeofhaaGreatDoor

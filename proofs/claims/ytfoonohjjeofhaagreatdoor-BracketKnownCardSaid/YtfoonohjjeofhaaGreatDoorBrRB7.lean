/-
  The chapter's examples, a stage.
-/
import Derived.Test.YtfoonohjjeofhaaGreatDoorBr1
namespace Go.Proofs.YtfoonohjjeofhaaGreatDoor
open Go.Cm

set_option maxRecDepth 100000 in
theorem runB7 : litOk stB6 (runOps Tryz.prog (fnsG Tryz.prog (kk callK10) 100000) (rops (hd (hd (tlN 3 cB)))).toList (cutOps (hd (hd (tlN 3 cB))) 17 18) stB4.act stB4.st) = true := by kernel_rfl

end Go.Proofs.YtfoonohjjeofhaaGreatDoor

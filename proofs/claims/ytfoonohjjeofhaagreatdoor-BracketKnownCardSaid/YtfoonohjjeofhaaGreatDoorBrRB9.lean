/-
  The chapter's examples, a stage.
-/
import Derived.Test.YtfoonohjjeofhaaGreatDoorBr1
namespace Go.Proofs.YtfoonohjjeofhaaGreatDoor
open Go.Cm

set_option maxRecDepth 100000 in
theorem runB9 : litOk stB8 (runOps Tryz.prog (fnsG Tryz.prog (kk callK10) 100000) (rops (hd (hd (tlN 3 cB)))).toList ((rops (hd (hd (tlN 3 cB)))).toList.drop 18) stB6.act stB6.st) = true := by kernel_rfl

end Go.Proofs.YtfoonohjjeofhaaGreatDoor

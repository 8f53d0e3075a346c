/-
  The chapter's examples, a stage.
-/
import Derived.Test.YtfoonohjjeofhaaGreatDoorBr1
namespace Go.Proofs.YtfoonohjjeofhaaGreatDoor
open Go.Cm

set_option maxRecDepth 100000 in
theorem runA8 : litOk stA7 (runSeq (fnsG Tryz.prog (kk noCall) 100000).exec (hds 1 (tl (tlN 1 cA))) stA5.act stA5.st) = true := by kernel_rfl

end Go.Proofs.YtfoonohjjeofhaaGreatDoor

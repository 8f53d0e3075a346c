/-
  The chapter's examples, a stage.
-/
import Derived.Test.YtfoonohjjeofhaaGreatDoorBr1
namespace Go.Proofs.YtfoonohjjeofhaaGreatDoor
open Go.Cm

set_option maxRecDepth 100000 in
theorem runB11 : litOk stB10 ((fnsG Tryz.prog (kk callK10) 100000).exec none (tl (hd (tlN 3 cB))) stB8.act stB8.st) = true := by kernel_rfl

end Go.Proofs.YtfoonohjjeofhaaGreatDoor

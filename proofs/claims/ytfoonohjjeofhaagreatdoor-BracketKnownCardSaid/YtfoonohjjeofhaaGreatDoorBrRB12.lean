/-
  The chapter's examples, a stage.
-/
import Derived.Test.YtfoonohjjeofhaaGreatDoorBr1
namespace Go.Proofs.YtfoonohjjeofhaaGreatDoor
open Go.Cm

set_option maxRecDepth 100000 in
theorem runB12 : endTrue Tryz.prog Tryz.f5.results.toList ((fnsG Tryz.prog (kk callK10) 100000).exec none (tl (tlN 3 cB)) stB10.act stB10.st) = true := by kernel_rfl

end Go.Proofs.YtfoonohjjeofhaaGreatDoor

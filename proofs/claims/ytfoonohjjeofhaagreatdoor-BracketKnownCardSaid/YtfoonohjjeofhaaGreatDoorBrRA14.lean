/-
  The chapter's examples, a stage.
-/
import Derived.Test.YtfoonohjjeofhaaGreatDoorBr1
namespace Go.Proofs.YtfoonohjjeofhaaGreatDoor
open Go.Cm

set_option maxRecDepth 100000 in
theorem runA14 : endTrue Tryz.prog Tryz.f10.results.toList ((fnsG Tryz.prog (kk noCall) 100000).exec none (tl (tlN 1 (tl (tlN 1 cA)))) stA12.act stA12.st) = true := by kernel_rfl

end Go.Proofs.YtfoonohjjeofhaaGreatDoor

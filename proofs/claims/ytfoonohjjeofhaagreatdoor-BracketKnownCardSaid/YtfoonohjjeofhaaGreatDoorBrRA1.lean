/-
  The chapter's examples, a stage.
-/
import Derived.Test.YtfoonohjjeofhaaGreatDoorBr1
namespace Go.Proofs.YtfoonohjjeofhaaGreatDoor
open Go.Cm

set_option maxRecDepth 100000 in
theorem runA1 : litOk stA0 (runSeq (fnsG Tryz.prog (kk noCall) 100000).exec (hds 1 cA) { n := maxN Tryz.f10.ntmps 0, t := PT.nil 8, defers := [] } (startS listed Tryz.prog.globals.size)) = true := by kernel_rfl

end Go.Proofs.YtfoonohjjeofhaaGreatDoor

/-
  The chapter's examples, stages two and three.
-/
import Derived.Test.YticgkdlipbmfgaaGreatDoorTS2
namespace Go.Proofs.YticgkdlipbmfgaaGreatDoor
open Go.Cm

set_option maxRecDepth 100000 in
theorem stage2_runs : litOk stage2 (runSeq (fnsG Tryz.prog (scoreK noCall) 100000).exec [hd (tl (tl c7))] stage1.act stage1.st) = true := by kernel_rfl

end Go.Proofs.YticgkdlipbmfgaaGreatDoor

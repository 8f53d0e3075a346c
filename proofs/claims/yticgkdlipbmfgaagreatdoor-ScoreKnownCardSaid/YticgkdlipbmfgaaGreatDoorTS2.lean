/-
  The chapter's examples, stage one.
-/
import Derived.Test.YticgkdlipbmfgaaGreatDoorTS1
namespace Go.Proofs.YticgkdlipbmfgaaGreatDoor
open Go.Cm

def noCall : FuncId → List Value → Option Value := fun _ _ => none
set_option maxRecDepth 100000 in
theorem stage1_runs : litOk stage1 (runSeq (fnsG Tryz.prog (scoreK noCall) 100000).exec [hd c7, hd (tl c7)] { n := maxN Tryz.f7.ntmps 0, t := PT.nil 8, defers := [] } (startS listed Tryz.prog.globals.size)) = true := by kernel_rfl

end Go.Proofs.YticgkdlipbmfgaaGreatDoor

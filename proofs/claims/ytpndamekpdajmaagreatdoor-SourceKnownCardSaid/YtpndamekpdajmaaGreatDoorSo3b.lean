/-
  Facts about the program as a whole, one by one.
-/
import Derived.Test.YtpndamekpdajmaaGreatDoorSo3a
import Derived.Test.YtpndamekpdajmaaGreatDoorRows
import Derived.WalkKit
import Derived.ProofKit
import Derived.KernelRfl
import Derived.JoinedCond
namespace Go.Proofs.YtpndamekpdajmaaGreatDoor
open Go.ChangeShapes Go.WideShapes Go.ChangeAt Go.RowKit
set_option maxRecDepth 100000
theorem jf4 : (Rows.sourceKnownRow.recurses == Tryz.prog.recurses 3) = true := by kernel_rfl
theorem jf5 : (Rows.sourceKnownRow.named == Tryz.prog.varsNamed 3) = true := by kernel_rfl
theorem jf6 : Tryz.prog.stopsHeard = true := by kernel_rfl
end Go.Proofs.YtpndamekpdajmaaGreatDoor

/-
  Facts about the program as a whole, one by one.
-/
import Derived.Test.YtgiibikieblicaaGreatDoorWt3a
import Derived.Test.YtgiibikieblicaaGreatDoorRows
import Derived.WalkKit
import Derived.ProofKit
import Derived.KernelRfl
import Derived.JoinedCond
namespace Go.Proofs.YtgiibikieblicaaGreatDoor
open Go.ChangeShapes Go.WideShapes Go.ChangeAt Go.RowKit
set_option maxRecDepth 100000
theorem jf4 : (Rows.weighSettingsRow.recurses == Tryz.prog.recurses 3) = true := by kernel_rfl
theorem jf5 : (Rows.weighSettingsRow.named == Tryz.prog.varsNamed 3) = true := by kernel_rfl
theorem jf6 : Tryz.prog.stopsHeard = true := by kernel_rfl
end Go.Proofs.YtgiibikieblicaaGreatDoor

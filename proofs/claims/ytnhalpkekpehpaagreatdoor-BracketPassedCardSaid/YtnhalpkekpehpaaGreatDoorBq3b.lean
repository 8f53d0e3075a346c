/-
  Facts about the program as a whole, one by one.
-/
import Derived.Test.YtnhalpkekpehpaaGreatDoorBq3a
import Derived.Test.YtnhalpkekpehpaaGreatDoorRows
import Derived.WalkKit
import Derived.ProofKit
import Derived.KernelRfl
import Derived.JoinedCond
namespace Go.Proofs.YtnhalpkekpehpaaGreatDoor
open Go.ChangeShapes Go.WideShapes Go.ChangeAt Go.RowKit
set_option maxRecDepth 100000
theorem yp : (Rows.bracketPassedRow.recurses == Tryz.prog.recurses 3) = true := by kernel_rfl
theorem yq : (Rows.bracketPassedRow.named == Tryz.prog.varsNamed 3) = true := by kernel_rfl
theorem yr : Tryz.prog.stopsHeard = true := by kernel_rfl
end Go.Proofs.YtnhalpkekpehpaaGreatDoor

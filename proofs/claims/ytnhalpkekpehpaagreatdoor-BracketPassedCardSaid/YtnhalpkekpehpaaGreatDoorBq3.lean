/-
  Facts about the program as a whole, one by one.
-/
import Derived.Test.YtnhalpkekpehpaaGreatDoorBq3b
import Derived.Test.YtnhalpkekpehpaaGreatDoorRows
import Derived.WalkKit
import Derived.ProofKit
import Derived.KernelRfl
import Derived.JoinedCond
namespace Go.Proofs.YtnhalpkekpehpaaGreatDoor
open Go.ChangeShapes Go.WideShapes Go.ChangeAt Go.RowKit
set_option maxRecDepth 100000
theorem yu : Tryz.prog.mayEnter = true := by kernel_rfl
theorem yv : (Rows.bracketPassedRow.lifted == Tryz.prog.liftsFinal) = true := by kernel_rfl
theorem yw : (Rows.bracketPassedRow.plainKeys == Tryz.prog.plainKeys) = true := by kernel_rfl
theorem y0 : joinedFacts Tryz.prog 3 Tryz.f3 (OpenSpec.ofChange Rows.bracketPassedSpec).bare Rows.bracketPassedRow = true := by
 unfold joinedFacts
 rw [yx, yy, ym, yn, yp, yq, yr, yu, yv, yw]
 kernel_rfl
theorem y6 : joinedFacts Tryz.pinned.checked.prog 3 Tryz.f3 (OpenSpec.ofChange Rows.bracketPassedSpec).bare Rows.bracketPassedRow = true := y0
end Go.Proofs.YtnhalpkekpehpaaGreatDoor

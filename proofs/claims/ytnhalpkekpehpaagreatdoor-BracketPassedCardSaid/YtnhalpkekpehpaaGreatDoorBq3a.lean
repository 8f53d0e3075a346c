/-
  Facts about the program as a whole, one by one.
-/
import Derived.Test.YtnhalpkekpehpaaGreatDoorRows
import Derived.WalkKit
import Derived.ProofKit
import Derived.KernelRfl
import Derived.JoinedCond
namespace Go.Proofs.YtnhalpkekpehpaaGreatDoor
open Go.ChangeShapes Go.WideShapes Go.ChangeAt Go.RowKit
set_option maxRecDepth 100000
theorem yx : laidOutB Tryz.prog = true := by kernel_rfl
theorem yy : mapsRowed Tryz.prog = true := by kernel_rfl
theorem ym : (Rows.bracketPassedRow.inPlace == Tryz.prog.inPlace 3) = true := by kernel_rfl
theorem yn : (Rows.bracketPassedRow.unfollowed == Tryz.prog.unfollowed 3) = true := by kernel_rfl
end Go.Proofs.YtnhalpkekpehpaaGreatDoor

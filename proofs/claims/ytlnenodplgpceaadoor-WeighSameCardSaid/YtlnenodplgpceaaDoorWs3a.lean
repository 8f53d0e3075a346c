/-
  Facts about the program as a whole, one by one.
-/
import Derived.Test.YtlnenodplgpceaaDoorRows
import Derived.WalkKit
import Derived.ProofKit
import Derived.KernelRfl
import Derived.JoinedCond
namespace Go.Proofs.YtlnenodplgpceaaDoor
open Go.ChangeShapes Go.WideShapes Go.ChangeAt Go.RowKit
set_option maxRecDepth 100000
theorem jfl : laidOutB Tryd.prog = true := by kernel_rfl
theorem jfm : mapsRowed Tryd.prog = true := by kernel_rfl
theorem jf2 : (Rows.weighSameRow.inPlace == Tryd.prog.inPlace 3) = true := by kernel_rfl
theorem jf3 : (Rows.weighSameRow.unfollowed == Tryd.prog.unfollowed 3) = true := by kernel_rfl
end Go.Proofs.YtlnenodplgpceaaDoor

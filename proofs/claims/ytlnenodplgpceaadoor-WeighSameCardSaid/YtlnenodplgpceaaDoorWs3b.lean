/-
  Facts about the program as a whole, one by one.
-/
import Derived.Test.YtlnenodplgpceaaDoorWs3a
import Derived.Test.YtlnenodplgpceaaDoorRows
import Derived.WalkKit
import Derived.ProofKit
import Derived.KernelRfl
import Derived.JoinedCond
namespace Go.Proofs.YtlnenodplgpceaaDoor
open Go.ChangeShapes Go.WideShapes Go.ChangeAt Go.RowKit
set_option maxRecDepth 100000
theorem jf4 : (Rows.weighSameRow.recurses == Tryd.prog.recurses 3) = true := by kernel_rfl
theorem jf5 : (Rows.weighSameRow.named == Tryd.prog.varsNamed 3) = true := by kernel_rfl
theorem jf6 : Tryd.prog.stopsHeard = true := by kernel_rfl
end Go.Proofs.YtlnenodplgpceaaDoor

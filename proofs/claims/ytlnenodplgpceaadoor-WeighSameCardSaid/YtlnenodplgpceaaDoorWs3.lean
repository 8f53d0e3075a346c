/-
  Facts about the program as a whole, one by one.
-/
import Derived.Test.YtlnenodplgpceaaDoorWs3b
import Derived.Test.YtlnenodplgpceaaDoorRows
import Derived.WalkKit
import Derived.ProofKit
import Derived.KernelRfl
import Derived.JoinedCond
namespace Go.Proofs.YtlnenodplgpceaaDoor
open Go.ChangeShapes Go.WideShapes Go.ChangeAt Go.RowKit
set_option maxRecDepth 100000
theorem jf7 : Tryd.prog.mayEnter = true := by kernel_rfl
theorem jf8 : (Rows.weighSameRow.lifted == Tryd.prog.liftsFinal) = true := by kernel_rfl
theorem jf9 : (Rows.weighSameRow.plainKeys == Tryd.prog.plainKeys) = true := by kernel_rfl
theorem joined : joinedFacts Tryd.prog 3 Tryd.f3 (OpenSpec.ofChange Rows.weighSameSpec).bare Rows.weighSameRow = true := by
 unfold joinedFacts
 rw [jfl, jfm, jf2, jf3, jf4, jf5, jf6, jf7, jf8, jf9]
 kernel_rfl
theorem joined' : joinedFacts Tryd.pinned.checked.prog 3 Tryd.f3 (OpenSpec.ofChange Rows.weighSameSpec).bare Rows.weighSameRow = true := joined
end Go.Proofs.YtlnenodplgpceaaDoor

/-
  Facts about the program as a whole, one by one.
-/
import Derived.Test.YtblhfojaiipboaaGreatDoorBp3b
import Derived.Test.YtblhfojaiipboaaGreatDoorRows
import Derived.WalkKit
import Derived.ProofKit
import Derived.KernelRfl
import Derived.JoinedCond
namespace Go.Proofs.YtblhfojaiipboaaGreatDoor
open Go.ChangeShapes Go.WideShapes Go.ChangeAt Go.RowKit
set_option maxRecDepth 100000
theorem jf7 : Tryz.prog.mayEnter = true := by kernel_rfl
theorem jf8 : (Rows.bracketPlainRow.lifted == Tryz.prog.liftsFinal) = true := by kernel_rfl
theorem jf9 : (Rows.bracketPlainRow.plainKeys == Tryz.prog.plainKeys) = true := by kernel_rfl
theorem joined : joinedFacts Tryz.prog 3 Tryz.f3 (OpenSpec.ofChange Rows.bracketPlainSpec).bare Rows.bracketPlainRow = true := by
 unfold joinedFacts
 rw [jfl, jfm, jf2, jf3, jf4, jf5, jf6, jf7, jf8, jf9]
 kernel_rfl
theorem joined' : joinedFacts Tryz.pinned.checked.prog 3 Tryz.f3 (OpenSpec.ofChange Rows.bracketPlainSpec).bare Rows.bracketPlainRow = true := joined
end Go.Proofs.YtblhfojaiipboaaGreatDoor

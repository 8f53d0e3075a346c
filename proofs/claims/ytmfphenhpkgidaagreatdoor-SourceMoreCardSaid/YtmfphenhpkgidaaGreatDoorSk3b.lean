/-
  Facts about the program as a whole, one by one.
-/
import Derived.Test.YtmfphenhpkgidaaGreatDoorSk3a
import Derived.Test.YtmfphenhpkgidaaGreatDoorRows
import Derived.WalkKit
import Derived.ProofKit
import Derived.KernelRfl
import Derived.JoinedCond
namespace Go.Proofs.YtmfphenhpkgidaaGreatDoor
open Go.ChangeShapes Go.WideShapes Go.ChangeAt Go.RowKit
set_option maxRecDepth 100000
theorem jf4:(Rows.sourceMoreRow.recurses==Tryz.prog.recurses 5)=true:=by kernel_rfl
theorem jf5:(Rows.sourceMoreRow.named==Tryz.prog.varsNamed 5)=true:=by kernel_rfl
theorem jf6:Tryz.prog.stopsHeard=true:=by kernel_rfl
end Go.Proofs.YtmfphenhpkgidaaGreatDoor

/-
  Facts about the program as a whole, one by one.
-/
import Derived.Test.YtmfphenhpkgidaaGreatDoorRows
import Derived.WalkKit
import Derived.ProofKit
import Derived.KernelRfl
import Derived.JoinedCond
namespace Go.Proofs.YtmfphenhpkgidaaGreatDoor
open Go.ChangeShapes Go.WideShapes Go.ChangeAt Go.RowKit
set_option maxRecDepth 100000
theorem jfl:laidOutB Tryz.prog=true:=by kernel_rfl
theorem jfm:mapsRowed Tryz.prog=true:=by kernel_rfl
theorem jf2:(Rows.sourceMoreRow.inPlace==Tryz.prog.inPlace 5)=true:=by kernel_rfl
theorem jf3:(Rows.sourceMoreRow.unfollowed==Tryz.prog.unfollowed 5)=true:=by kernel_rfl
end Go.Proofs.YtmfphenhpkgidaaGreatDoor

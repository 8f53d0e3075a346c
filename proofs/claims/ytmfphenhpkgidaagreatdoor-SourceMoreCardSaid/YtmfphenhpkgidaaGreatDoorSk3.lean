/-
  Facts about the program as a whole, one by one.
-/
import Derived.Test.YtmfphenhpkgidaaGreatDoorSk3b
import Derived.Test.YtmfphenhpkgidaaGreatDoorRows
import Derived.WalkKit
import Derived.ProofKit
import Derived.KernelRfl
import Derived.JoinedCond
namespace Go.Proofs.YtmfphenhpkgidaaGreatDoor
open Go.ChangeShapes Go.WideShapes Go.ChangeAt Go.RowKit
set_option maxRecDepth 100000
theorem jf7:Tryz.prog.mayEnter=true:=by kernel_rfl
theorem jf8:(Rows.sourceMoreRow.lifted==Tryz.prog.liftsFinal)=true:=by kernel_rfl
theorem jf9:(Rows.sourceMoreRow.plainKeys==Tryz.prog.plainKeys)=true:=by kernel_rfl
theorem AHp:joinedFacts Tryz.prog 5 Tryz.f5 (OpenSpec.ofChange Rows.sourceMoreSpec).bare Rows.sourceMoreRow=true:=by
 unfold joinedFacts
 rw[jfl,jfm,jf2,jf3,jf4,jf5,jf6,jf7,jf8,jf9]
 kernel_rfl
theorem AHq:joinedFacts Tryz.pinned.checked.prog 5 Tryz.f5 (OpenSpec.ofChange Rows.sourceMoreSpec).bare Rows.sourceMoreRow=true:=AHp
end Go.Proofs.YtmfphenhpkgidaaGreatDoor

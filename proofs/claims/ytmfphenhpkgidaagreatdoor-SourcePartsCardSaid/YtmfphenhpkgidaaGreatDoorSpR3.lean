/-
  The chapter's examples, stages.
-/
import Derived.Test.YtmfphenhpkgidaaGreatDoorSp1
namespace Go.Proofs.YtmfphenhpkgidaaGreatDoor
open Go.Cm
set_option maxRecDepth 100000
theorem runA77:litOk stA76 (runSeq iA.exec (hds 2 cdA79) ({n:=66,t:=PT.ofList 0 (PT.nil 8) vsA75,defers:=[]}) stA73.st)=true:=by kernel_rfl
end Go.Proofs.YtmfphenhpkgidaaGreatDoor

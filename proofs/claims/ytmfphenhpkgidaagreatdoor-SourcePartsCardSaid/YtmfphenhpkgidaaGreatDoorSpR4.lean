/-
  The chapter's examples, stages.
-/
import Derived.Test.YtmfphenhpkgidaaGreatDoorSp1
namespace Go.Proofs.YtmfphenhpkgidaaGreatDoor
open Go.Cm
set_option maxRecDepth 100000
theorem runA89:litX .normal stA88 (iA.exec none pA71 stA85.act stA85.st)=true:=by kernel_rfl
theorem runA2:litOk stA1 (runSeq iA.exec (hds 3 cdA7) ({n:=52,t:=PT.ofList 0 (PT.nil 8) vsA0,defers:=[]}) start0)=true:=by kernel_rfl
end Go.Proofs.YtmfphenhpkgidaaGreatDoor

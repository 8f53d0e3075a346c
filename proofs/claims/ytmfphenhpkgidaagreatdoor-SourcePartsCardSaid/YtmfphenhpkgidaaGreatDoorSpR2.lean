/-
  The chapter's examples, stages.
-/
import Derived.Test.YtmfphenhpkgidaaGreatDoorSp1
namespace Go.Proofs.YtmfphenhpkgidaaGreatDoor
open Go.Cm
set_option maxRecDepth 100000
theorem runA79:finOk Tryz.prog Tryz.f79.results.toList (vvA70) stA78 (iA.exec none pA53 stA76.act stA76.st)=true:=by kernel_rfl
theorem runA17:litOk stA16 (runSeq iA.exec (hds 4 cdA56) ({n:=79,t:=PT.ofList 0 (PT.nil 8) vsA15,defers:=[]}) stA13.st)=true:=by kernel_rfl
end Go.Proofs.YtmfphenhpkgidaaGreatDoor

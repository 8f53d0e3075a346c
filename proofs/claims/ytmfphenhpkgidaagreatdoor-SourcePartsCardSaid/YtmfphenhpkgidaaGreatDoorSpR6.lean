/-
  The chapter's examples, stages.
-/
import Derived.Test.YtmfphenhpkgidaaGreatDoorSp1
namespace Go.Proofs.YtmfphenhpkgidaaGreatDoor
open Go.Cm
set_option maxRecDepth 100000
theorem runA158:litOk stA157 (runSeq iA.exec (hds 4 cdA79) ({n:=66,t:=PT.ofList 0 (PT.nil 8) vsA156,defers:=[]}) stA154.st)=true:=by kernel_rfl
theorem runA160:finOk Tryz.prog Tryz.f79.results.toList (vvA95) stA159 (iA.exec none pA86 stA157.act stA157.st)=true:=by kernel_rfl
end Go.Proofs.YtmfphenhpkgidaaGreatDoor

/-
  The chapter's examples, stages.
-/
import Derived.Test.YtmfphenhpkgidaaGreatDoorSp1
namespace Go.Proofs.YtmfphenhpkgidaaGreatDoor
open Go.Cm
set_option maxRecDepth 100000
theorem runA119:litOk stA118 (runSeq iA.exec (hds 4 cdA79) ({n:=66,t:=PT.ofList 0 (PT.nil 8) vsA117,defers:=[]}) stA115.st)=true:=by kernel_rfl
theorem runA170:litX .normal stA169 (iA.exec none pA71 stA166.act stA166.st)=true:=by kernel_rfl
theorem runA131:finOk Tryz.prog Tryz.f97.results.toList (vvA91) stA130 (iA.exec none pA60 stA127.act stA127.st)=true:=by kernel_rfl
end Go.Proofs.YtmfphenhpkgidaaGreatDoor

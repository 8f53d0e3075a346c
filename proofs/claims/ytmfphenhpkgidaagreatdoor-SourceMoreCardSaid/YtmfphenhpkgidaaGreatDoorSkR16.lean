/-
  The chapter's examples, stages.
-/
import Derived.Test.YtmfphenhpkgidaaGreatDoorSk1
namespace Go.Proofs.YtmfphenhpkgidaaGreatDoor
open Go.Cm
set_option maxRecDepth 100000
theorem AK9:Aj VS (CO iA.exec (By 4 T5) ({n:=66,t:=PT.ofList 0 (PT.nil 8) pD,defers:=[]}) SO.st)=true:=by kernel_rfl
theorem ALC:GM .normal La (iA.exec none yS SQ.act SQ.st)=true:=by kernel_rfl
end Go.Proofs.YtmfphenhpkgidaaGreatDoor

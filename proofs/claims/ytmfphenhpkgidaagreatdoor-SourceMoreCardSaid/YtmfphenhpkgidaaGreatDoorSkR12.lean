/-
  The chapter's examples, stages.
-/
import Derived.Test.YtmfphenhpkgidaaGreatDoorSk1
namespace Go.Proofs.YtmfphenhpkgidaaGreatDoor
open Go.Cm
set_option maxRecDepth 100000
theorem ALa:Aj VX (CO iB.exec (By 4 Il) ({n:=66,t:=PT.ofList 0 (PT.nil 8) pN,defers:=[]}) Sj.st)=true:=by kernel_rfl
end Go.Proofs.YtmfphenhpkgidaaGreatDoor

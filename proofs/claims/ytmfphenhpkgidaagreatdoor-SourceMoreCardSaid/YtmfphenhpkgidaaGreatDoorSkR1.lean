/-
  The chapter's examples, stages.
-/
import Derived.Test.YtmfphenhpkgidaaGreatDoorSk1
namespace Go.Proofs.YtmfphenhpkgidaaGreatDoor
open Go.Cm
set_option maxRecDepth 100000
theorem AKW:GM .normal Ps (iA.exec none yT VO.act VO.st)=true:=by kernel_rfl
theorem ALR:EJ Tryz.prog Tryz.f97.results.toList (M0) SY (iB.exec none U5 SV.act SV.st)=true:=by kernel_rfl
theorem ALe:Aj P8 (CO iB.exec (By 4 T6) ({n:=79,t:=PT.ofList 0 (PT.nil 8) pM,defers:=[]}) SX.st)=true:=by kernel_rfl
theorem AKl:Aj Pw (CO iA.exec (By 4 ZQ) ({n:=79,t:=PT.ofList 0 (PT.nil 8) o0,defers:=[]}) SA.st)=true:=by kernel_rfl
theorem AKh:EJ Tryz.prog Tryz.f34.results.toList (vt) SD (iA.exec none yM SC.act SC.st)=true:=by kernel_rfl
end Go.Proofs.YtmfphenhpkgidaaGreatDoor

/-
  The chapter's examples, stages.
-/
import Derived.Test.YtmfphenhpkgidaaGreatDoorSk1
namespace Go.Proofs.YtmfphenhpkgidaaGreatDoor
open Go.Cm
set_option maxRecDepth 100000
theorem AKW:GM .normal Ps (iA.exec none yT VO.act VO.st)=true:=by kernel_rfl
theorem AMk:EJ Tryz.prog Tryz.f97.results.toList (Mz) TU (iB.exec none U5 TT.act TT.st)=true:=by kernel_rfl
theorem AKl:Aj Pw (CO iA.exec (By 4 ZQ) ({n:=79,t:=PT.ofList 0 (PT.nil 8) o0,defers:=[]}) SA.st)=true:=by kernel_rfl
theorem ALv:Aj Sw (BT Tryz.prog iB (Ay Xr).toList (EI Xr 0 1) QA.act QA.st)=true:=by kernel_rfl
end Go.Proofs.YtmfphenhpkgidaaGreatDoor

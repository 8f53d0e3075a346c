/-
  The chapter's examples, stages.
-/
import Derived.Test.YtmfphenhpkgidaaGreatDoorSk1
namespace Go.Proofs.YtmfphenhpkgidaaGreatDoor
open Go.Cm
set_option maxRecDepth 100000
theorem AMu:EJ Tryz.prog Tryz.f79.results.toList (Ll) Vi (iB.exec none KX Vh.act Vh.st)=true:=by kernel_rfl
theorem AMe:EJ Tryz.prog Tryz.f17.results.toList (vt) YZ (iB.exec none yb TS.act TS.st)=true:=by kernel_rfl
theorem ALm:Aj Mg (CO iB.exec (By 3 ZU) ({n:=238,t:=PT.ofList 0 (PT.nil 8) pE,defers:=[]}) Vj)=true:=by kernel_rfl
theorem AKd:EJ Tryz.prog Tryz.f55.results.toList (Mq) SB (iA.exec none yL R'.act R'.st)=true:=by kernel_rfl
theorem ALv:Aj Sw (BT Tryz.prog iB (Ay Xr).toList (EI Xr 0 1) QA.act QA.st)=true:=by kernel_rfl
end Go.Proofs.YtmfphenhpkgidaaGreatDoor

/-
  The chapter's examples, stages.
-/
import Derived.Test.YtmfphenhpkgidaaGreatDoorSk1
namespace Go.Proofs.YtmfphenhpkgidaaGreatDoor
open Go.Cm
set_option maxRecDepth 100000
theorem AMt:Aj Vh (CO iB.exec (By 4 Il) ({n:=66,t:=PT.ofList 0 (PT.nil 8) pZ,defers:=[]}) TZ.st)=true:=by kernel_rfl
theorem ALR:EJ Tryz.prog Tryz.f97.results.toList (M0) SY (iB.exec none U5 SV.act SV.st)=true:=by kernel_rfl
theorem AKn:Aj Pq (CO iA.exec (By 3 ZR) ({n:=52,t:=PT.ofList 0 (PT.nil 8) ov,defers:=[]}) Vj)=true:=by kernel_rfl
theorem AK0:EJ Tryz.prog Tryz.f97.results.toList (Mr) SK (iA.exec none yQ SJ.act SJ.st)=true:=by kernel_rfl
theorem ALw:Aj QB (CO iB.exec (By 4 T6) ({n:=79,t:=PT.ofList 0 (PT.nil 8) pQ,defers:=[]}) Sw.st)=true:=by kernel_rfl
theorem AMn:EJ Tryz.prog Tryz.f78.results.toList (IY) TW (iB.exec none U6 TV.act TV.st)=true:=by kernel_rfl
theorem AMr:Aj QM (CO iB.exec (By 2 Rr) TY.act TY.st)=true:=by kernel_rfl
end Go.Proofs.YtmfphenhpkgidaaGreatDoor

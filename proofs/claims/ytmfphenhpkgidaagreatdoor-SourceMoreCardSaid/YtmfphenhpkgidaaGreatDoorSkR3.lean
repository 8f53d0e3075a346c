/-
  The chapter's examples, stages.
-/
import Derived.Test.YtmfphenhpkgidaaGreatDoorSk1
namespace Go.Proofs.YtmfphenhpkgidaaGreatDoor
open Go.Cm
set_option maxRecDepth 100000
theorem AMt:Aj Vh (CO iB.exec (By 4 Il) ({n:=66,t:=PT.ofList 0 (PT.nil 8) pZ,defers:=[]}) TZ.st)=true:=by kernel_rfl
theorem AKn:Aj Pq (CO iA.exec (By 3 ZR) ({n:=52,t:=PT.ofList 0 (PT.nil 8) ov,defers:=[]}) Vj)=true:=by kernel_rfl
theorem AMA:EJ Tryz.prog Tryz.f97.results.toList (Mw) TE (iB.exec none U5 TD.act TD.st)=true:=by kernel_rfl
theorem ALw:Aj QB (CO iB.exec (By 4 T6) ({n:=79,t:=PT.ofList 0 (PT.nil 8) pQ,defers:=[]}) Sw.st)=true:=by kernel_rfl
theorem ALn:EJ Tryz.prog Tryz.f55.results.toList (Mu) Sr (iB.exec none yV Sq.act Sq.st)=true:=by kernel_rfl
theorem AK7:Aj P1 (CO iA.exec (By 2 mJ) SN.act SN.st)=true:=by kernel_rfl
end Go.Proofs.YtmfphenhpkgidaaGreatDoor

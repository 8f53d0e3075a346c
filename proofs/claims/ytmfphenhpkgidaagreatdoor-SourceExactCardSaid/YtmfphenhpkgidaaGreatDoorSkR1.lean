/-
  The chapter's examples, stages.
-/
import Derived.Test.YtmfphenhpkgidaaGreatDoorSk1
namespace Go.Proofs.YtmfphenhpkgidaaGreatDoor
open Go.Cm
set_option maxRecDepth 100000
theorem AMS:GM .normal QI (iB.exec none yX Ve.act Ve.st)=true:=by kernel_rfl
theorem AMe:EJ Tryz.prog Tryz.f17.results.toList (vt) YZ (iB.exec none yb TS.act TS.st)=true:=by kernel_rfl
theorem ALe:Aj P8 (CO iB.exec (By 4 T6) ({n:=79,t:=PT.ofList 0 (PT.nil 8) pM,defers:=[]}) SX.st)=true:=by kernel_rfl
theorem ALm:Aj Mg (CO iB.exec (By 3 ZU) ({n:=238,t:=PT.ofList 0 (PT.nil 8) pE,defers:=[]}) Vj)=true:=by kernel_rfl
theorem ALn:EJ Tryz.prog Tryz.f55.results.toList (Mu) Sr (iB.exec none yV Sq.act Sq.st)=true:=by kernel_rfl
theorem AK7:Aj P1 (CO iA.exec (By 2 mJ) SN.act SN.st)=true:=by kernel_rfl
end Go.Proofs.YtmfphenhpkgidaaGreatDoor

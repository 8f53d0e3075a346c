/-
  The chapter's examples, stages.
-/
import Derived.Test.YtmfphenhpkgidaaGreatDoorSk1
namespace Go.Proofs.YtmfphenhpkgidaaGreatDoor
open Go.Cm
set_option maxRecDepth 100000
theorem AMS:GM .normal QI (iB.exec none yX Ve.act Ve.st)=true:=by kernel_rfl
theorem AMk:EJ Tryz.prog Tryz.f97.results.toList (Mz) TU (iB.exec none U5 TT.act TT.st)=true:=by kernel_rfl
end Go.Proofs.YtmfphenhpkgidaaGreatDoor

/-
  The chapter's examples, stages.
-/
import Derived.Test.YtmfphenhpkgidaaGreatDoorSk1
namespace Go.Proofs.YtmfphenhpkgidaaGreatDoor
open Go.Cm
set_option maxRecDepth 100000
theorem AK':EJ Tryz.prog Tryz.f79.results.toList (Ms) VU (iA.exec none b7 VS.act VS.st)=true:=by kernel_rfl
end Go.Proofs.YtmfphenhpkgidaaGreatDoor

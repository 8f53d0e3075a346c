/-
  The chapter's examples, stages.
-/
import Derived.Test.YtmfphenhpkgidaaGreatDoorSp1
namespace Go.Proofs.YtmfphenhpkgidaaGreatDoor
open Go.Cm
set_option maxRecDepth 100000
theorem runA121:finOk Tryz.prog Tryz.f79.results.toList (vvA90) stA120 (iA.exec none pA86 stA118.act stA118.st)=true:=by kernel_rfl
theorem runA50:finOk Tryz.prog Tryz.f97.results.toList (vvA62) stA49 (iA.exec none pA60 stA46.act stA46.st)=true:=by kernel_rfl
end Go.Proofs.YtmfphenhpkgidaaGreatDoor

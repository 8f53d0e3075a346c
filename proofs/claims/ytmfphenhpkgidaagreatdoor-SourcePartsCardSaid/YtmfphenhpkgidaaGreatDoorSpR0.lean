/-
  The chapter's examples, stages.
-/
import Derived.Test.YtmfphenhpkgidaaGreatDoorSp1
namespace Go.Proofs.YtmfphenhpkgidaaGreatDoor
open Go.Cm
set_option maxRecDepth 100000
theorem runA38:litOk stA37 (runSeq iA.exec (hds 2 cdA79) ({n:=66,t:=PT.ofList 0 (PT.nil 8) vsA36,defers:=[]}) stA34.st)=true:=by kernel_rfl
theorem runA4:litOk stA3 (runOps Tryz.prog iA (rops pA18).toList (cutOps pA18 0 30) stA1.act stA1.st)=true:=by kernel_rfl
theorem runA200:finOk Tryz.prog Tryz.f55.results.toList (vvA105) stA199 (iA.exec none pA104 stA196.act stA196.st)=true:=by kernel_rfl
theorem runA61:finOk Tryz.prog Tryz.f78.results.toList (vvA65) stA60 (iA.exec none pA63 stA57.act stA57.st)=true:=by kernel_rfl
theorem runA142:finOk Tryz.prog Tryz.f78.results.toList (vvA92) stA141 (iA.exec none pA63 stA138.act stA138.st)=true:=by kernel_rfl
theorem runA211:finOk Tryz.prog Tryz.f34.results.toList (vt) stA210 (iA.exec none pA106 stA207.act stA207.st)=true:=by kernel_rfl
theorem runA72:litOk stA71 (runSeq iA.exec (hds 2 pA66) stA68.act stA68.st)=true:=by kernel_rfl
theorem runA153:litOk stA152 (runSeq iA.exec (hds 2 pA66) stA149.act stA149.st)=true:=by kernel_rfl
theorem runA58:litOk stA57 (runOps Tryz.prog iA (rops pA50).toList ((rops pA50).toList.drop 2) stA55.act stA55.st)=true:=by kernel_rfl
theorem runA139:litOk stA138 (runOps Tryz.prog iA (rops pA50).toList ((rops pA50).toList.drop 2) stA136.act stA136.st)=true:=by kernel_rfl
theorem runA23:litOk stA22 (runSeq iA.exec (hds 1 pA44) stA20.act stA20.st)=true:=by kernel_rfl
theorem runA104:litOk stA103 (runSeq iA.exec (hds 1 pA44) stA101.act stA101.st)=true:=by kernel_rfl
theorem runA47:litOk stA46 (runOps Tryz.prog iA (rops pA52).toList ((rops pA52).toList.drop 2) stA44.act stA44.st)=true:=by kernel_rfl
theorem runA69:litOk stA68 (runOps Tryz.prog iA (rops pA48).toList ((rops pA48).toList.drop 2) stA66.act stA66.st)=true:=by kernel_rfl
theorem runA86:litOk stA85 (runOps Tryz.prog iA (rops pA68).toList ((rops pA68).toList.drop 2) stA83.act stA83.st)=true:=by kernel_rfl
theorem runA128:litOk stA127 (runOps Tryz.prog iA (rops pA52).toList ((rops pA52).toList.drop 2) stA125.act stA125.st)=true:=by kernel_rfl
theorem runA150:litOk stA149 (runOps Tryz.prog iA (rops pA48).toList ((rops pA48).toList.drop 2) stA147.act stA147.st)=true:=by kernel_rfl
theorem runA167:litOk stA166 (runOps Tryz.prog iA (rops pA68).toList ((rops pA68).toList.drop 2) stA164.act stA164.st)=true:=by kernel_rfl
theorem runA197:litOk stA196 (runOps Tryz.prog iA (rops pA32).toList ((rops pA32).toList.drop 2) stA194.act stA194.st)=true:=by kernel_rfl
theorem runA208:litOk stA207 (runOps Tryz.prog iA (rops pA30).toList ((rops pA30).toList.drop 2) stA205.act stA205.st)=true:=by kernel_rfl
theorem runA33:litOk stA32 (runSeq iA.exec (hds 1 cdA97) ({n:=42,t:=PT.ofList 0 (PT.nil 8) vsA31,defers:=[]}) stA29.st)=true:=by kernel_rfl
theorem runA114:litOk stA113 (runSeq iA.exec (hds 1 cdA97) ({n:=42,t:=PT.ofList 0 (PT.nil 8) vsA112,defers:=[]}) stA110.st)=true:=by kernel_rfl
end Go.Proofs.YtmfphenhpkgidaaGreatDoor

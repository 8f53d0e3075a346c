/-
  The chapter's examples, stages.
-/
import Derived.Test.YtmfphenhpkgidaaGreatDoorSp1
namespace Go.Proofs.YtmfphenhpkgidaaGreatDoor
open Go.Cm
set_option maxRecDepth 100000
theorem runA40:finOk Tryz.prog Tryz.f79.results.toList (vvA59) stA39 (iA.exec none pA53 stA37.act stA37.st)=true:=by kernel_rfl
theorem runA189:finOk Tryz.prog Tryz.f56.results.toList (vvA103) stA188 (iA.exec none pA102 stA182.act stA182.st)=true:=by kernel_rfl
theorem runA12:litOk stA11 (runSeq iA.exec (hds 1 cdA55) ({n:=41,t:=PT.ofList 0 (PT.nil 8) vsA10,defers:=[]}) stA8.st)=true:=by kernel_rfl
theorem runA19:litOk stA18 (runSeq iA.exec (hds 1 pA38) stA16.act stA16.st)=true:=by kernel_rfl
theorem runA28:litOk stA27 (runSeq iA.exec (hds 1 cdA78) ({n:=45,t:=PT.ofList 0 (PT.nil 8) vsA26,defers:=[]}) stA24.st)=true:=by kernel_rfl
theorem runA109:litOk stA108 (runSeq iA.exec (hds 1 cdA78) ({n:=45,t:=PT.ofList 0 (PT.nil 8) vsA107,defers:=[]}) stA105.st)=true:=by kernel_rfl
theorem runA7:litOk stA6 (runSeq iA.exec (hds 1 cdA34) ({n:=38,t:=PT.ofList 0 (PT.nil 8) vsA5,defers:=[]}) stA3.st)=true:=by kernel_rfl
theorem runA21:litOk stA20 (runSeq iA.exec (hds 2 pA41) stA18.act stA18.st)=true:=by kernel_rfl
theorem runA97:litX .normal stA96 (iA.exec none pA80 stA88.act stA88.st)=true:=by kernel_rfl
theorem runA102:litOk stA101 (runSeq iA.exec (hds 2 pA41) stA96.act stA96.st)=true:=by kernel_rfl
theorem runA178:litX .normal stA177 (iA.exec none pA80 stA169.act stA169.st)=true:=by kernel_rfl
theorem runA183:litX (.exit 0) stA182 (iA.exec none pA41 stA177.act stA177.st)=true:=by kernel_rfl
theorem runA219:litOk stA218 (runOps Tryz.prog iA (rops pA18).toList ((rops pA18).toList.drop 31) stA216.act stA216.st)=true:=by kernel_rfl
theorem runA9:litOk stA8 (runOps Tryz.prog iA (rops pA30).toList (cutOps pA30 0 1) stA6.act stA6.st)=true:=by kernel_rfl
theorem runA14:litOk stA13 (runOps Tryz.prog iA (rops pA32).toList (cutOps pA32 0 1) stA11.act stA11.st)=true:=by kernel_rfl
theorem runA25:litOk stA24 (runOps Tryz.prog iA (rops pA48).toList (cutOps pA48 0 1) stA22.act stA22.st)=true:=by kernel_rfl
theorem runA30:litOk stA29 (runOps Tryz.prog iA (rops pA50).toList (cutOps pA50 0 1) stA27.act stA27.st)=true:=by kernel_rfl
theorem runA35:litOk stA34 (runOps Tryz.prog iA (rops pA52).toList (cutOps pA52 0 1) stA32.act stA32.st)=true:=by kernel_rfl
theorem runA45:litOk stA44 (match stA34.act.put (some 14) (vvA59)with|some a=>some (.normal,a,stA39.st)|none=>none)=true:=by kernel_rfl
theorem runA56:litOk stA55 (match stA29.act.put (some 13) (vvA62)with|some a=>some (.normal,a,stA49.st)|none=>none)=true:=by kernel_rfl
theorem runA67:litOk stA66 (match stA24.act.put (some 34) (vvA65)with|some a=>some (.normal,a,stA60.st)|none=>none)=true:=by kernel_rfl
theorem runA74:litOk stA73 (runOps Tryz.prog iA (rops pA68).toList (cutOps pA68 0 1) stA71.act stA71.st)=true:=by kernel_rfl
theorem runA84:litOk stA83 (match stA73.act.put (some 48) (vvA70)with|some a=>some (.normal,a,stA78.st)|none=>none)=true:=by kernel_rfl
theorem runA106:litOk stA105 (runOps Tryz.prog iA (rops pA48).toList (cutOps pA48 0 1) stA103.act stA103.st)=true:=by kernel_rfl
theorem runA111:litOk stA110 (runOps Tryz.prog iA (rops pA50).toList (cutOps pA50 0 1) stA108.act stA108.st)=true:=by kernel_rfl
theorem runA116:litOk stA115 (runOps Tryz.prog iA (rops pA52).toList (cutOps pA52 0 1) stA113.act stA113.st)=true:=by kernel_rfl
theorem runA126:litOk stA125 (match stA115.act.put (some 14) (vvA90)with|some a=>some (.normal,a,stA120.st)|none=>none)=true:=by kernel_rfl
theorem runA137:litOk stA136 (match stA110.act.put (some 13) (vvA91)with|some a=>some (.normal,a,stA130.st)|none=>none)=true:=by kernel_rfl
theorem runA148:litOk stA147 (match stA105.act.put (some 34) (vvA92)with|some a=>some (.normal,a,stA141.st)|none=>none)=true:=by kernel_rfl
theorem runA155:litOk stA154 (runOps Tryz.prog iA (rops pA68).toList (cutOps pA68 0 1) stA152.act stA152.st)=true:=by kernel_rfl
theorem runA165:litOk stA164 (match stA154.act.put (some 48) (vvA95)with|some a=>some (.normal,a,stA159.st)|none=>none)=true:=by kernel_rfl
theorem runA195:litOk stA194 (match stA13.act.put (some 12) (vvA103)with|some a=>some (.normal,a,stA188.st)|none=>none)=true:=by kernel_rfl
theorem runA206:litOk stA205 (match stA8.act.put (some 10) (vvA105)with|some a=>some (.normal,a,stA199.st)|none=>none)=true:=by kernel_rfl
theorem runA217:litOk stA216 (match stA3.act.put (some 50) (vt)with|some a=>some (.normal,a,stA210.st)|none=>none)=true:=by kernel_rfl
theorem runA222:finOk Tryz.prog Tryz.f7.results.toList (vt) stA221 (iA.exec none pA107 stA218.act stA218.st)=true:=by kernel_rfl
end Go.Proofs.YtmfphenhpkgidaaGreatDoor

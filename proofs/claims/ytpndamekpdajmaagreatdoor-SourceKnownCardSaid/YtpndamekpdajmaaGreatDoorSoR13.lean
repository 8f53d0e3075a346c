/-
  The chapter's examples, stages.
-/
import Derived.Test.YtpndamekpdajmaaGreatDoorSo1
namespace Go.Proofs.YtpndamekpdajmaaGreatDoor
open Go.Cm

set_option maxRecDepth 100000
theorem runA410 : litOk stA409 (runSeq iA.exec (hds 3 cdA110) ({ n := 62, t := PT.ofList 0 (PT.nil 8) vsA408, defers := [] }) stA406.st) = true := by kernel_rfl
theorem runB714 : litOk stB713 (runSeq iB.exec (hds 2 pB56) stB711.act stB711.st) = true := by kernel_rfl
theorem runB874 : litOk stB873 (runSeq iB.exec (hds 2 pB145) stB871.act stB871.st) = true := by kernel_rfl
theorem runB1422 : litOk stB1421 (runSeq iB.exec (hds 2 pB56) stB1419.act stB1419.st) = true := by kernel_rfl
theorem runB1906 : litOk stB1905 (runSeq iB.exec (hds 2 pB145) stB1903.act stB1903.st) = true := by kernel_rfl
theorem runA4 : litOk stA3 (runOps Tryz.prog iA (rops pA18).toList (cutOps pA18 0 30) stA1.act stA1.st) = true := by kernel_rfl
theorem runA388 : litOk stA387 (runSeq iA.exec (hds 4 cdA62) ({ n := 46, t := PT.ofList 0 (PT.nil 8) vsA386, defers := [] }) stA384.st) = true := by kernel_rfl
theorem runA543 : litOk stA542 (runSeq iA.exec (hds 4 cdA62) ({ n := 46, t := PT.ofList 0 (PT.nil 8) vsA541, defers := [] }) stA539.st) = true := by kernel_rfl
theorem runB724 : litOk stB723 (runSeq iB.exec (hds 4 cdB62) ({ n := 46, t := PT.ofList 0 (PT.nil 8) vsB722, defers := [] }) stB720.st) = true := by kernel_rfl
theorem runB1048 : litOk stB1047 (runSeq iB.exec (hds 4 cdB62) ({ n := 46, t := PT.ofList 0 (PT.nil 8) vsB1046, defers := [] }) stB1044.st) = true := by kernel_rfl
theorem runB1203 : litOk stB1202 (runSeq iB.exec (hds 4 cdB62) ({ n := 46, t := PT.ofList 0 (PT.nil 8) vsB1201, defers := [] }) stB1199.st) = true := by kernel_rfl
theorem runB1432 : litOk stB1431 (runSeq iB.exec (hds 4 cdB62) ({ n := 46, t := PT.ofList 0 (PT.nil 8) vsB1430, defers := [] }) stB1428.st) = true := by kernel_rfl
theorem runB1587 : litOk stB1586 (runSeq iB.exec (hds 4 cdB62) ({ n := 46, t := PT.ofList 0 (PT.nil 8) vsB1585, defers := [] }) stB1583.st) = true := by kernel_rfl
theorem runB1756 : litOk stB1755 (runSeq iB.exec (hds 4 cdB62) ({ n := 46, t := PT.ofList 0 (PT.nil 8) vsB1754, defers := [] }) stB1752.st) = true := by kernel_rfl
theorem runB1911 : litOk stB1910 (runSeq iB.exec (hds 4 cdB62) ({ n := 46, t := PT.ofList 0 (PT.nil 8) vsB1909, defers := [] }) stB1907.st) = true := by kernel_rfl
theorem runA646 : finOk Tryz.prog Tryz.f44.results.toList (vvA263) stA645 (iA.exec none pA188 stA639.act stA639.st) = true := by kernel_rfl
theorem runB1306 : finOk Tryz.prog Tryz.f44.results.toList (vvB410) stB1305 (iB.exec none pB177 stB1299.act stB1299.st) = true := by kernel_rfl
theorem runB2014 : finOk Tryz.prog Tryz.f44.results.toList (vvB566) stB2013 (iB.exec none pB177 stB2007.act stB2007.st) = true := by kernel_rfl
theorem runA64 : litOk stA63 (runSeq iA.exec (hds 4 cdA62) ({ n := 46, t := PT.ofList 0 (PT.nil 8) vsA62, defers := [] }) stA60.st) = true := by kernel_rfl
theorem runA219 : litOk stA218 (runSeq iA.exec (hds 4 cdA62) ({ n := 46, t := PT.ofList 0 (PT.nil 8) vsA217, defers := [] }) stA215.st) = true := by kernel_rfl
theorem runB879 : litOk stB878 (runSeq iB.exec (hds 4 cdB62) ({ n := 46, t := PT.ofList 0 (PT.nil 8) vsB877, defers := [] }) stB875.st) = true := by kernel_rfl
theorem runA322 : finOk Tryz.prog Tryz.f44.results.toList (vvA192) stA321 (iA.exec none pA188 stA315.act stA315.st) = true := by kernel_rfl
theorem runB322 : finOk Tryz.prog Tryz.f44.results.toList (vvB181) stB321 (iB.exec none pB177 stB315.act stB315.st) = true := by kernel_rfl
theorem runB646 : finOk Tryz.prog Tryz.f44.results.toList (vvB252) stB645 (iB.exec none pB177 stB639.act stB639.st) = true := by kernel_rfl
theorem runB982 : finOk Tryz.prog Tryz.f44.results.toList (vvB344) stB981 (iB.exec none pB177 stB975.act stB975.st) = true := by kernel_rfl
theorem runB1690 : finOk Tryz.prog Tryz.f44.results.toList (vvB501) stB1689 (iB.exec none pB177 stB1683.act stB1683.st) = true := by kernel_rfl
theorem runA439 : finOk Tryz.prog Tryz.f88.results.toList (vvA228) stA438 (iA.exec none pA126 stA432.act stA432.st) = true := by kernel_rfl
theorem runB298 : finOk Tryz.prog Tryz.f62.results.toList (vvB174) stB297 (iB.exec none pB125 stB291.act stB291.st) = true := by kernel_rfl

end Go.Proofs.YtpndamekpdajmaaGreatDoor

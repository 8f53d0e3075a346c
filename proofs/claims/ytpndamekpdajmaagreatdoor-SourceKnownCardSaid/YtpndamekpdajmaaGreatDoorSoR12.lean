/-
  The chapter's examples, stages.
-/
import Derived.Test.YtpndamekpdajmaaGreatDoorSo1
namespace Go.Proofs.YtpndamekpdajmaaGreatDoor
open Go.Cm

set_option maxRecDepth 100000
theorem runA241 : litOk stA240 (runSeq iA.exec (hds 3 cdA110) ({ n := 62, t := PT.ofList 0 (PT.nil 8) vsA239, defers := [] }) stA237.st) = true := by kernel_rfl
theorem runA372 : litOk stA371 (runSeq iA.exec (hds 4 cdA82) ({ n := 52, t := PT.ofList 0 (PT.nil 8) vsA370, defers := [] }) stA368.st) = true := by kernel_rfl
theorem runB538 : litOk stB537 (runSeq iB.exec (hds 2 pB145) stB535.act stB535.st) = true := by kernel_rfl
theorem runB378 : litOk stB377 (runSeq iB.exec (hds 2 pB56) stB375.act stB375.st) = true := by kernel_rfl
theorem runB214 : litOk stB213 (runSeq iB.exec (hds 2 pB145) stB211.act stB211.st) = true := by kernel_rfl
theorem runB1198 : litOk stB1197 (runSeq iB.exec (hds 2 pB145) stB1195.act stB1195.st) = true := by kernel_rfl
theorem runA214 : litOk stA213 (runSeq iA.exec (hds 2 pA156) stA211.act stA211.st) = true := by kernel_rfl
theorem runB1746 : litOk stB1745 (runSeq iB.exec (hds 2 pB56) stB1743.act stB1743.st) = true := by kernel_rfl
theorem runA378 : litOk stA377 (runSeq iA.exec (hds 2 pA67) stA375.act stA375.st) = true := by kernel_rfl
theorem runA538 : litOk stA537 (runSeq iA.exec (hds 2 pA156) stA535.act stA535.st) = true := by kernel_rfl
theorem runB1038 : litOk stB1037 (runSeq iB.exec (hds 2 pB56) stB1035.act stB1035.st) = true := by kernel_rfl
theorem runB1582 : litOk stB1581 (runSeq iB.exec (hds 2 pB145) stB1579.act stB1579.st) = true := by kernel_rfl
theorem runA54 : litOk stA53 (runSeq iA.exec (hds 2 pA67) stA51.act stA51.st) = true := by kernel_rfl
theorem runB543 : litOk stB542 (runSeq iB.exec (hds 4 cdB62) ({ n := 46, t := PT.ofList 0 (PT.nil 8) vsB541, defers := [] }) stB539.st) = true := by kernel_rfl
theorem runA790 : finOk Tryz.prog Tryz.f11.results.toList (vt) stA789 (iA.exec none pA305 stA786.act stA786.st) = true := by kernel_rfl

end Go.Proofs.YtpndamekpdajmaaGreatDoor

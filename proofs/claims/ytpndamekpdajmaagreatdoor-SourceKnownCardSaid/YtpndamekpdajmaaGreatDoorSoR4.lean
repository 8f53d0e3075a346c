/-
  The chapter's examples, stages.
-/
import Derived.Test.YtpndamekpdajmaaGreatDoorSo1
namespace Go.Proofs.YtpndamekpdajmaaGreatDoor
open Go.Cm

set_option maxRecDepth 100000
theorem runB1454 : litOk stB1453 (runSeq iB.exec (hds 3 cdB110) ({ n := 62, t := PT.ofList 0 (PT.nil 8) vsB1452, defers := [] }) stB1450.st) = true := by kernel_rfl
theorem runB335 : finOk Tryz.prog Tryz.f57.results.toList (vvB184) stB334 (iB.exec none pB182 stB331.act stB331.st) = true := by kernel_rfl
theorem runB64 : litOk stB63 (runSeq iB.exec (hds 4 cdB62) ({ n := 46, t := PT.ofList 0 (PT.nil 8) vsB62, defers := [] }) stB60.st) = true := by kernel_rfl
theorem runB346 : finOk Tryz.prog Tryz.f43.results.toList (vvB187) stB345 (iB.exec none pB185 stB342.act stB342.st) = true := by kernel_rfl
theorem runA346 : finOk Tryz.prog Tryz.f43.results.toList (vvA198) stA345 (iA.exec none pA196 stA342.act stA342.st) = true := by kernel_rfl

end Go.Proofs.YtpndamekpdajmaaGreatDoor

/-
  The chapter's examples, stages.
-/
import Derived.Test.YtpndamekpdajmaaGreatDoorSo1
namespace Go.Proofs.YtpndamekpdajmaaGreatDoor
open Go.Cm

set_option maxRecDepth 100000
theorem runB1933 : litOk stB1932 (runSeq iB.exec (hds 3 cdB110) ({ n := 62, t := PT.ofList 0 (PT.nil 8) vsB1931, defers := [] }) stB1929.st) = true := by kernel_rfl
theorem runA335 : finOk Tryz.prog Tryz.f57.results.toList (vvA195) stA334 (iA.exec none pA193 stA331.act stA331.st) = true := by kernel_rfl
theorem runA554 : litOk stA553 (runSeq iA.exec (hds 7 cdA88) ({ n := 89, t := PT.ofList 0 (PT.nil 8) vsA552, defers := [] }) stA550.st) = true := by kernel_rfl
theorem runA779 : finOk Tryz.prog Tryz.f20.results.toList (vvA304) stA778 (iA.exec none pA303 stA775.act stA775.st) = true := by kernel_rfl
theorem runB2089 : finOk Tryz.prog Tryz.f43.results.toList (vvB587) stB2088 (iB.exec none pB185 stB2085.act stB2085.st) = true := by kernel_rfl

end Go.Proofs.YtpndamekpdajmaaGreatDoor

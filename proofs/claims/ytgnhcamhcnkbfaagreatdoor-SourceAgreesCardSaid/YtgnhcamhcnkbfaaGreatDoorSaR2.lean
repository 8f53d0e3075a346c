/-
  The chapter's examples, stages.
-/
import Derived.Test.YtgnhcamhcnkbfaaGreatDoorSa1
namespace Go.Proofs.YtgnhcamhcnkbfaaGreatDoor
open Go.Cm

set_option maxRecDepth 100000
theorem runA565 : litOk stA564 (runSeq iA.exec (hds 3 cdA128) ({ n := 62, t := PT.ofList 0 (PT.nil 8) vsA563, defers := [] }) stA561.st) = true := by kernel_rfl
theorem runA75 : litOk stA74 (runSeq iA.exec (hds 7 cdA106) ({ n := 89, t := PT.ofList 0 (PT.nil 8) vsA73, defers := [] }) stA71.st) = true := by kernel_rfl
theorem runA554 : litOk stA553 (runSeq iA.exec (hds 7 cdA106) ({ n := 89, t := PT.ofList 0 (PT.nil 8) vsA552, defers := [] }) stA550.st) = true := by kernel_rfl
theorem runA17 : litOk stA16 (runSeq iA.exec (hds 4 cdA52) ({ n := 79, t := PT.ofList 0 (PT.nil 8) vsA15, defers := [] }) stA13.st) = true := by kernel_rfl
theorem runA48 : litOk stA47 (runSeq iA.exec (hds 4 cdA100) ({ n := 52, t := PT.ofList 0 (PT.nil 8) vsA46, defers := [] }) stA44.st) = true := by kernel_rfl
theorem runA372 : litOk stA371 (runSeq iA.exec (hds 4 cdA100) ({ n := 52, t := PT.ofList 0 (PT.nil 8) vsA370, defers := [] }) stA368.st) = true := by kernel_rfl
theorem runA208 : litOk stA207 (runSeq iA.exec (hds 2 pA146) stA203.act stA203.st) = true := by kernel_rfl
theorem runA214 : litOk stA213 (runSeq iA.exec (hds 2 pA156) stA211.act stA211.st) = true := by kernel_rfl
theorem runA115 : finOk Tryz.prog Tryz.f106.results.toList (vvA132) stA114 (iA.exec none pA126 stA108.act stA108.st) = true := by kernel_rfl
theorem runA779 : finOk Tryz.prog Tryz.f39.results.toList (vvA304) stA778 (iA.exec none pA303 stA775.act stA775.st) = true := by kernel_rfl
theorem runA33 : litOk stA32 (runSeq iA.exec (hds 1 cdA80) ({ n := 42, t := PT.ofList 0 (PT.nil 8) vsA31, defers := [] }) stA29.st) = true := by kernel_rfl

end Go.Proofs.YtgnhcamhcnkbfaaGreatDoor

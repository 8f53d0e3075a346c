/-
  The chapter's examples, stages.
-/
import Derived.Test.YtgnhcamhcnkbfaaGreatDoorSa1
namespace Go.Proofs.YtgnhcamhcnkbfaaGreatDoor
open Go.Cm

set_option maxRecDepth 100000
theorem runA241 : litOk stA240 (runSeq iA.exec (hds 3 cdA128) ({ n := 62, t := PT.ofList 0 (PT.nil 8) vsA239, defers := [] }) stA237.st) = true := by kernel_rfl
theorem runA335 : finOk Tryz.prog Tryz.f80.results.toList (vvA195) stA334 (iA.exec none pA193 stA331.act stA331.st) = true := by kernel_rfl
theorem runA230 : litOk stA229 (runSeq iA.exec (hds 7 cdA106) ({ n := 89, t := PT.ofList 0 (PT.nil 8) vsA228, defers := [] }) stA226.st) = true := by kernel_rfl
theorem runA322 : finOk Tryz.prog Tryz.f72.results.toList (vvA192) stA321 (iA.exec none pA188 stA315.act stA315.st) = true := by kernel_rfl
theorem runA790 : finOk Tryz.prog Tryz.f22.results.toList (vt) stA789 (iA.exec none pA305 stA786.act stA786.st) = true := by kernel_rfl

end Go.Proofs.YtgnhcamhcnkbfaaGreatDoor

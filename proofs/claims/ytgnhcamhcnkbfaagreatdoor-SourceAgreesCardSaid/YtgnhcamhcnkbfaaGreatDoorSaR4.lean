/-
  The chapter's examples, stages.
-/
import Derived.Test.YtgnhcamhcnkbfaaGreatDoorSa1
namespace Go.Proofs.YtgnhcamhcnkbfaaGreatDoor
open Go.Cm

set_option maxRecDepth 100000
theorem runA737 : litOk stA736 (runSeq iA.exec (hds 4 cdA72) ({ n := 66, t := PT.ofList 0 (PT.nil 8) vsA735, defers := [] }) stA733.st) = true := by kernel_rfl
theorem runA276 : litOk stA275 (match stA226.act.put (some 29) (vvA183) with | some a => some (.normal, a, stA269.st) | none => none) = true := by kernel_rfl
theorem runA304 : litOk stA303 (match stA215.act.put (some 52) (vvA185) with | some a => some (.normal, a, stA297.st) | none => none) = true := by kernel_rfl
theorem runA330 : litOk stA329 (match stA34.act.put (some 14) (vvA192) with | some a => some (.normal, a, stA321.st) | none => none) = true := by kernel_rfl
theorem runA341 : litOk stA340 (match stA29.act.put (some 13) (vvA195) with | some a => some (.normal, a, stA334.st) | none => none) = true := by kernel_rfl
theorem runA352 : litOk stA351 (match stA24.act.put (some 34) (vvA198) with | some a => some (.normal, a, stA345.st) | none => none) = true := by kernel_rfl
theorem runA359 : litOk stA358 (runOps Tryz.prog iA (rops pA201).toList (cutOps pA201 0 1) stA356.act stA356.st) = true := by kernel_rfl
theorem runA364 : litOk stA363 (runOps Tryz.prog iA (rops pA55).toList (cutOps pA55 0 1) stA361.act stA361.st) = true := by kernel_rfl
theorem runA369 : litOk stA368 (runOps Tryz.prog iA (rops pA57).toList (cutOps pA57 0 1) stA366.act stA366.st) = true := by kernel_rfl
theorem runA417 : litOk stA416 (match stA406.act.put (some 60) (vvA222) with | some a => some (.normal, a, stA411.st) | none => none) = true := by kernel_rfl
theorem runA445 : litOk stA444 (match stA395.act.put (some 29) (vvA228) with | some a => some (.normal, a, stA438.st) | none => none) = true := by kernel_rfl
theorem runA473 : litOk stA472 (match stA384.act.put (some 11) (vvA230) with | some a => some (.normal, a, stA466.st) | none => none) = true := by kernel_rfl
theorem runA484 : litOk stA483 (match stA379.act.put (some 40) (.tuple #[.int .i64 2, .int .i64 0]) with | some a => some (.normal, a, stA477.st) | none => none) = true := by kernel_rfl
theorem runA512 : litOk stA511 (match stA368.act.put (some 11) (vvA231) with | some a => some (.normal, a, stA505.st) | none => none) = true := by kernel_rfl
theorem runA523 : litOk stA522 (match stA363.act.put (some 18) (.tuple #[.int .i64 2, .int .i64 0]) with | some a => some (.normal, a, stA516.st) | none => none) = true := by kernel_rfl
theorem runA572 : litOk stA571 (match stA561.act.put (some 60) (vvA252) with | some a => some (.normal, a, stA566.st) | none => none) = true := by kernel_rfl
theorem runA600 : litOk stA599 (match stA550.act.put (some 29) (vvA258) with | some a => some (.normal, a, stA593.st) | none => none) = true := by kernel_rfl
theorem runA628 : litOk stA627 (match stA539.act.put (some 52) (vvA260) with | some a => some (.normal, a, stA621.st) | none => none) = true := by kernel_rfl
theorem runA654 : litOk stA653 (match stA358.act.put (some 48) (vvA263) with | some a => some (.normal, a, stA645.st) | none => none) = true := by kernel_rfl
theorem runA685 : litOk stA684 (runOps Tryz.prog iA (rops pA48).toList (cutOps pA48 0 1) stA682.act stA682.st) = true := by kernel_rfl
theorem runA690 : litOk stA689 (runOps Tryz.prog iA (rops pA50).toList (cutOps pA50 0 1) stA687.act stA687.st) = true := by kernel_rfl
theorem runA695 : litOk stA694 (runOps Tryz.prog iA (rops pA52).toList (cutOps pA52 0 1) stA692.act stA692.st) = true := by kernel_rfl
theorem runA705 : litOk stA704 (match stA694.act.put (some 14) (vvA289) with | some a => some (.normal, a, stA699.st) | none => none) = true := by kernel_rfl
theorem runA716 : litOk stA715 (match stA689.act.put (some 13) (vvA290) with | some a => some (.normal, a, stA709.st) | none => none) = true := by kernel_rfl
theorem runA727 : litOk stA726 (match stA684.act.put (some 34) (vvA291) with | some a => some (.normal, a, stA720.st) | none => none) = true := by kernel_rfl
theorem runA734 : litOk stA733 (runOps Tryz.prog iA (rops pA201).toList (cutOps pA201 0 1) stA731.act stA731.st) = true := by kernel_rfl
theorem runA744 : litOk stA743 (match stA733.act.put (some 48) (vvA294) with | some a => some (.normal, a, stA738.st) | none => none) = true := by kernel_rfl
theorem runA774 : litOk stA773 (match stA13.act.put (some 12) (vvA302) with | some a => some (.normal, a, stA767.st) | none => none) = true := by kernel_rfl
theorem runA785 : litOk stA784 (match stA8.act.put (some 10) (vvA304) with | some a => some (.normal, a, stA778.st) | none => none) = true := by kernel_rfl
theorem runA796 : litOk stA795 (match stA3.act.put (some 50) (vt) with | some a => some (.normal, a, stA789.st) | none => none) = true := by kernel_rfl
theorem runA801 : finOk Tryz.prog Tryz.f6.results.toList (vt) stA800 (iA.exec none pA306 stA797.act stA797.st) = true := by kernel_rfl

end Go.Proofs.YtgnhcamhcnkbfaaGreatDoor

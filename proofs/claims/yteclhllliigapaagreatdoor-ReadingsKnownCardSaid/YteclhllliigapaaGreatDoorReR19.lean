/-
  The chapter's examples, stages.
-/
import Derived.Test.YteclhllliigapaaGreatDoorRe1
namespace Go.Proofs.YteclhllliigapaaGreatDoor
open Go.Cm

set_option maxRecDepth 100000
theorem runB437 : litOk stB436 (runSeq iB.exec (List.replicate 2 pB153) stB431.act stB431.st) = true := by kernel_rfl
theorem runB355 : litOk stB354 (runSeq iB.exec (hds 2 pB48) stB352.act stB352.st) = true := by kernel_rfl
theorem runB380 : litX .normal stB379 (iB.exec none pB72 stB373.act stB373.st) = true := by kernel_rfl
theorem runB385 : litX (.exit 0) stB384 (iB.exec none pB48 stB379.act stB379.st) = true := by kernel_rfl
theorem runB408 : litX .normal stB407 (iB.exec none pB82 stB401.act stB401.st) = true := by kernel_rfl
theorem runB413 : litX (.exit 0) stB412 (iB.exec none pB30 stB407.act stB407.st) = true := by kernel_rfl
theorem runB432 : litX .normal stB431 (iB.exec none pB187 stB426.act stB426.st) = true := by kernel_rfl
theorem runB439 : litX (.exit 0) stB438 (iB.exec none pB153 stB436.act stB436.st) = true := by kernel_rfl
theorem runB487 : litOk stB486 (runSeq iB.exec (hds 2 pB11) stB484.act stB484.st) = true := by kernel_rfl
theorem runB496 : litOk stB495 (runOps Tryz.prog iB (rops pB25).toList (cutOps pB25 0 2) stB493.act stB493.st) = true := by kernel_rfl
theorem runB501 : litOk stB500 (runSeq iB.exec (hds 1 pB27) stB498.act stB498.st) = true := by kernel_rfl
theorem runB503 : litOk stB502 (runSeq iB.exec (hds 2 pB30) stB500.act stB500.st) = true := by kernel_rfl
theorem runB505 : litOk stB504 (runSeq iB.exec (hds 1 pB33) stB502.act stB502.st) = true := by kernel_rfl
theorem runB514 : litOk stB513 (runSeq iB.exec (hds 2 pB48) stB511.act stB511.st) = true := by kernel_rfl
theorem runB539 : litX .normal stB538 (iB.exec none pB72 stB532.act stB532.st) = true := by kernel_rfl
theorem runB544 : litX (.exit 0) stB543 (iB.exec none pB48 stB538.act stB538.st) = true := by kernel_rfl
theorem runB567 : litX .normal stB566 (iB.exec none pB82 stB560.act stB560.st) = true := by kernel_rfl
theorem runB572 : litX (.exit 0) stB571 (iB.exec none pB30 stB566.act stB566.st) = true := by kernel_rfl
theorem runB606 : litX .normal stB605 (iB.exec none pB88 stB599.act stB599.st) = true := by kernel_rfl
theorem runB613 : litX (.exit 0) stB612 (iB.exec none pB11 stB610.act stB610.st) = true := by kernel_rfl
theorem runB649 : litOk stB648 (runSeq iB.exec (hds 2 pB153) stB646.act stB646.st) = true := by kernel_rfl
theorem runB658 : litOk stB657 (runSeq iB.exec (hds 1 pB27) stB655.act stB655.st) = true := by kernel_rfl
theorem runB660 : litOk stB659 (runSeq iB.exec (hds 2 pB30) stB657.act stB657.st) = true := by kernel_rfl
theorem runB662 : litOk stB661 (runSeq iB.exec (hds 1 pB33) stB659.act stB659.st) = true := by kernel_rfl
theorem runB671 : litOk stB670 (runSeq iB.exec (hds 2 pB48) stB668.act stB668.st) = true := by kernel_rfl
theorem runB696 : litX .normal stB695 (iB.exec none pB72 stB689.act stB689.st) = true := by kernel_rfl
theorem runB701 : litX (.exit 0) stB700 (iB.exec none pB48 stB695.act stB695.st) = true := by kernel_rfl
theorem runB724 : litX .normal stB723 (iB.exec none pB82 stB717.act stB717.st) = true := by kernel_rfl
theorem runB729 : litX (.exit 0) stB728 (iB.exec none pB30 stB723.act stB723.st) = true := by kernel_rfl
theorem runB748 : litX .normal stB747 (iB.exec none pB187 stB742.act stB742.st) = true := by kernel_rfl
theorem runB755 : litX (.exit 0) stB754 (iB.exec none pB153 stB752.act stB752.st) = true := by kernel_rfl
theorem runB782 : litX (.exit 0) stB781 (iB.exec none pB332 stB779.act stB779.st) = true := by kernel_rfl
theorem runB839 : litOk stB838 (runSeq iB.exec (hds 2 pB11) stB836.act stB836.st) = true := by kernel_rfl
theorem runB848 : litOk stB847 (runOps Tryz.prog iB (rops pB25).toList (cutOps pB25 0 2) stB845.act stB845.st) = true := by kernel_rfl
theorem runB853 : litOk stB852 (runSeq iB.exec (hds 1 pB27) stB850.act stB850.st) = true := by kernel_rfl
theorem runB855 : litOk stB854 (runSeq iB.exec (hds 2 pB30) stB852.act stB852.st) = true := by kernel_rfl
theorem runB857 : litOk stB856 (runSeq iB.exec (hds 1 pB33) stB854.act stB854.st) = true := by kernel_rfl
theorem runB866 : litOk stB865 (runSeq iB.exec (hds 2 pB48) stB863.act stB863.st) = true := by kernel_rfl
theorem runB891 : litX .normal stB890 (iB.exec none pB72 stB884.act stB884.st) = true := by kernel_rfl
theorem runB896 : litX (.exit 0) stB895 (iB.exec none pB48 stB890.act stB890.st) = true := by kernel_rfl
theorem runB919 : litX .normal stB918 (iB.exec none pB82 stB912.act stB912.st) = true := by kernel_rfl
theorem runB924 : litX (.exit 0) stB923 (iB.exec none pB30 stB918.act stB918.st) = true := by kernel_rfl
theorem runB958 : litX .normal stB957 (iB.exec none pB88 stB951.act stB951.st) = true := by kernel_rfl
theorem runB965 : litX (.exit 0) stB964 (iB.exec none pB11 stB962.act stB962.st) = true := by kernel_rfl
theorem runB1001 : litOk stB1000 (runSeq iB.exec (hds 2 pB153) stB998.act stB998.st) = true := by kernel_rfl
theorem runB1010 : litOk stB1009 (runSeq iB.exec (hds 1 pB27) stB1007.act stB1007.st) = true := by kernel_rfl
theorem runB1012 : litOk stB1011 (runSeq iB.exec (hds 2 pB30) stB1009.act stB1009.st) = true := by kernel_rfl
theorem runB1014 : litOk stB1013 (runSeq iB.exec (hds 1 pB33) stB1011.act stB1011.st) = true := by kernel_rfl
theorem runB1023 : litOk stB1022 (runSeq iB.exec (hds 2 pB48) stB1020.act stB1020.st) = true := by kernel_rfl
theorem runB1048 : litX .normal stB1047 (iB.exec none pB72 stB1041.act stB1041.st) = true := by kernel_rfl
theorem runB1053 : litX (.exit 0) stB1052 (iB.exec none pB48 stB1047.act stB1047.st) = true := by kernel_rfl
theorem runB1076 : litX .normal stB1075 (iB.exec none pB82 stB1069.act stB1069.st) = true := by kernel_rfl
theorem runB1081 : litX (.exit 0) stB1080 (iB.exec none pB30 stB1075.act stB1075.st) = true := by kernel_rfl
theorem runB1100 : litX .normal stB1099 (iB.exec none pB187 stB1094.act stB1094.st) = true := by kernel_rfl
theorem runB1107 : litX (.exit 0) stB1106 (iB.exec none pB153 stB1104.act stB1104.st) = true := by kernel_rfl
theorem runB1134 : litX (.exit 0) stB1133 (iB.exec none pB332 stB1131.act stB1131.st) = true := by kernel_rfl
theorem runA9 : litOk stA8 (runOps Tryz.prog iA (rops pA6).toList (cutOps pA6 0 1) stA6.act stA6.st) = true := by kernel_rfl
theorem runA14 : litOk stA13 (runOps Tryz.prog iA (rops pA8).toList (cutOps pA8 0 1) stA11.act stA11.st) = true := by kernel_rfl
theorem runA19 : litOk stA18 (runOps Tryz.prog iA (rops pA11).toList (cutOps pA11 0 1) stA16.act stA16.st) = true := by kernel_rfl
theorem runA24 : litOk stA23 (runOps Tryz.prog iA (rops pA13).toList (cutOps pA13 0 1) stA21.act stA21.st) = true := by kernel_rfl
theorem runA72 : litOk stA71 (match stA61.act.put (some 60) (vvA79) with | some a => some (.normal, a, stA66.st) | none => none) = true := by kernel_rfl
theorem runA100 : litOk stA99 (match stA50.act.put (some 29) (vvA88) with | some a => some (.normal, a, stA93.st) | none => none) = true := by kernel_rfl
theorem runA128 : litOk stA127 (match stA39.act.put (some 11) (vvA93) with | some a => some (.normal, a, stA121.st) | none => none) = true := by kernel_rfl
theorem runA139 : litOk stA138 (match stA34.act.put (some 40) (.tuple #[.int .i64 2, .int .i64 0]) with | some a => some (.normal, a, stA132.st) | none => none) = true := by kernel_rfl
theorem runA169 : litOk stA168 (match stA23.act.put (some 11) (vvA106) with | some a => some (.normal, a, stA162.st) | none => none) = true := by kernel_rfl
theorem runA180 : litOk stA179 (match stA18.act.put (some 18) (.tuple #[.int .i64 4, .int .i64 0]) with | some a => some (.normal, a, stA173.st) | none => none) = true := by kernel_rfl
theorem runA229 : litOk stA228 (match stA218.act.put (some 60) (vvA141) with | some a => some (.normal, a, stA223.st) | none => none) = true := by kernel_rfl
theorem runA257 : litOk stA256 (match stA207.act.put (some 29) (vvA147) with | some a => some (.normal, a, stA250.st) | none => none) = true := by kernel_rfl
theorem runA285 : litOk stA284 (match stA196.act.put (some 52) (vvA149) with | some a => some (.normal, a, stA278.st) | none => none) = true := by kernel_rfl
theorem runA313 : litOk stA312 (match stA13.act.put (some 14) (vvA174) with | some a => some (.normal, a, stA304.st) | none => none) = true := by kernel_rfl
theorem runA340 : litOk stA339 (match stA8.act.put (some 13) (vvA196) with | some a => some (.normal, a, stA331.st) | none => none) = true := by kernel_rfl
theorem runA351 : litOk stA350 (match stA3.act.put (some 7) (vvA199) with | some a => some (.normal, a, stA344.st) | none => none) = true := by kernel_rfl
theorem runA361 : litOk stA360 (runOps Tryz.prog iA (rops pA13).toList (cutOps pA13 0 1) stA358.act stA358.st) = true := by kernel_rfl
theorem runA409 : litOk stA408 (match stA398.act.put (some 60) (vvA225) with | some a => some (.normal, a, stA403.st) | none => none) = true := by kernel_rfl
theorem runA437 : litOk stA436 (match stA387.act.put (some 29) (vvA231) with | some a => some (.normal, a, stA430.st) | none => none) = true := by kernel_rfl
theorem runA465 : litOk stA464 (match stA376.act.put (some 11) (vvA233) with | some a => some (.normal, a, stA458.st) | none => none) = true := by kernel_rfl
theorem runA476 : litOk stA475 (match stA371.act.put (some 40) (.tuple #[.int .i64 2, .int .i64 0]) with | some a => some (.normal, a, stA469.st) | none => none) = true := by kernel_rfl
theorem runA506 : litOk stA505 (match stA360.act.put (some 11) (vvA239) with | some a => some (.normal, a, stA499.st) | none => none) = true := by kernel_rfl
theorem runA517 : litOk stA516 (match stA355.act.put (some 12) (.tuple #[.int .i64 4, .int .i64 0]) with | some a => some (.normal, a, stA510.st) | none => none) = true := by kernel_rfl
theorem runM4 : litOk stM3 (runOps Tryz.prog iM (rops pM5).toList (cutOps pM5 0 1) stM1.act stM1.st) = true := by kernel_rfl
theorem runM9 : litOk stM8 (runOps Tryz.prog iM (rops pM7).toList (cutOps pM7 0 1) stM6.act stM6.st) = true := by kernel_rfl
theorem runM14 : litOk stM13 (runOps Tryz.prog iM (rops pM9).toList (cutOps pM9 0 1) stM11.act stM11.st) = true := by kernel_rfl
theorem runM24 : litOk stM23 (match stM13.act.put (some 14) (vvM19) with | some a => some (.normal, a, stM18.st) | none => none) = true := by kernel_rfl
theorem runM35 : litOk stM34 (match stM8.act.put (some 13) (vvM22) with | some a => some (.normal, a, stM28.st) | none => none) = true := by kernel_rfl
theorem runM46 : litOk stM45 (match stM3.act.put (some 9) (vvM25) with | some a => some (.normal, a, stM39.st) | none => none) = true := by kernel_rfl
theorem runM60 : litOk stM59 (runOps Tryz.prog iM (rops pM5).toList (cutOps pM5 0 1) stM57.act stM57.st) = true := by kernel_rfl
theorem runM65 : litOk stM64 (runOps Tryz.prog iM (rops pM7).toList (cutOps pM7 0 1) stM62.act stM62.st) = true := by kernel_rfl
theorem runM70 : litOk stM69 (runOps Tryz.prog iM (rops pM9).toList (cutOps pM9 0 1) stM67.act stM67.st) = true := by kernel_rfl
theorem runM80 : litOk stM79 (match stM69.act.put (some 14) (vvM34) with | some a => some (.normal, a, stM74.st) | none => none) = true := by kernel_rfl
theorem runM91 : litOk stM90 (match stM64.act.put (some 13) (vvM36) with | some a => some (.normal, a, stM84.st) | none => none) = true := by kernel_rfl
theorem runM102 : litOk stM101 (match stM59.act.put (some 9) (vvM38) with | some a => some (.normal, a, stM95.st) | none => none) = true := by kernel_rfl
theorem runB2 : litOk stB1 (runSeq iB.exec (hds 1 cdB3) ({ n := 195, t := PT.ofList 0 (PT.nil 8) vsB0, defers := [] }) start0) = true := by kernel_rfl
theorem runB52 : litOk stB51 (match stB41.act.put (some 60) (vvB70) with | some a => some (.normal, a, stB46.st) | none => none) = true := by kernel_rfl
theorem runB80 : litOk stB79 (match stB30.act.put (some 29) (vvB79) with | some a => some (.normal, a, stB73.st) | none => none) = true := by kernel_rfl
theorem runB108 : litOk stB107 (match stB19.act.put (some 11) (vvB84) with | some a => some (.normal, a, stB101.st) | none => none) = true := by kernel_rfl
theorem runB119 : litOk stB118 (match stB14.act.put (some 40) (.tuple #[.int .i64 2, .int .i64 0]) with | some a => some (.normal, a, stB112.st) | none => none) = true := by kernel_rfl
theorem runB149 : litOk stB148 (match stB3.act.put (some 19) (vvB97) with | some a => some (.normal, a, stB142.st) | none => none) = true := by kernel_rfl
theorem runB159 : litOk stB158 (runOps Tryz.prog iB (rops pB104).toList (cutOps pB104 0 1) stB156.act stB156.st) = true := by kernel_rfl
theorem runB164 : litOk stB163 (runOps Tryz.prog iB (rops pB106).toList (cutOps pB106 0 1) stB161.act stB161.st) = true := by kernel_rfl
theorem runB212 : litOk stB211 (match stB201.act.put (some 60) (vvB128) with | some a => some (.normal, a, stB206.st) | none => none) = true := by kernel_rfl
theorem runB240 : litOk stB239 (match stB190.act.put (some 29) (vvB134) with | some a => some (.normal, a, stB233.st) | none => none) = true := by kernel_rfl
theorem runB268 : litOk stB267 (match stB179.act.put (some 11) (vvB136) with | some a => some (.normal, a, stB261.st) | none => none) = true := by kernel_rfl
theorem runB279 : litOk stB278 (match stB174.act.put (some 40) (.tuple #[.int .i64 2, .int .i64 0]) with | some a => some (.normal, a, stB272.st) | none => none) = true := by kernel_rfl
theorem runB309 : litOk stB308 (match stB163.act.put (some 11) (vvB142) with | some a => some (.normal, a, stB302.st) | none => none) = true := by kernel_rfl
theorem runB320 : litOk stB319 (match stB158.act.put (some 18) (.tuple #[.int .i64 4, .int .i64 0]) with | some a => some (.normal, a, stB313.st) | none => none) = true := by kernel_rfl
theorem runB369 : litOk stB368 (match stB358.act.put (some 60) (vvB177) with | some a => some (.normal, a, stB363.st) | none => none) = true := by kernel_rfl
theorem runB397 : litOk stB396 (match stB347.act.put (some 29) (vvB183) with | some a => some (.normal, a, stB390.st) | none => none) = true := by kernel_rfl
theorem runB425 : litOk stB424 (match stB336.act.put (some 52) (vvB185) with | some a => some (.normal, a, stB418.st) | none => none) = true := by kernel_rfl
theorem runB453 : litOk stB452 (match stB153.act.put (some 24) (vvB210) with | some a => some (.normal, a, stB444.st) | none => none) = true := by kernel_rfl
theorem runB465 : litOk stB464 (runOps Tryz.prog iB (rops pB236).toList (cutOps pB236 0 1) stB462.act stB462.st) = true := by kernel_rfl
theorem runB470 : litOk stB469 (runOps Tryz.prog iB (rops pB238).toList (cutOps pB238 0 1) stB467.act stB467.st) = true := by kernel_rfl
theorem runB475 : litOk stB474 (runOps Tryz.prog iB (rops pB104).toList (cutOps pB104 0 1) stB472.act stB472.st) = true := by kernel_rfl
theorem runB480 : litOk stB479 (runOps Tryz.prog iB (rops pB106).toList (cutOps pB106 0 1) stB477.act stB477.st) = true := by kernel_rfl
theorem runB528 : litOk stB527 (match stB517.act.put (some 60) (vvB260) with | some a => some (.normal, a, stB522.st) | none => none) = true := by kernel_rfl
theorem runB556 : litOk stB555 (match stB506.act.put (some 29) (vvB266) with | some a => some (.normal, a, stB549.st) | none => none) = true := by kernel_rfl
theorem runB584 : litOk stB583 (match stB495.act.put (some 11) (vvB268) with | some a => some (.normal, a, stB577.st) | none => none) = true := by kernel_rfl
theorem runB595 : litOk stB594 (match stB490.act.put (some 40) (.tuple #[.int .i64 2, .int .i64 0]) with | some a => some (.normal, a, stB588.st) | none => none) = true := by kernel_rfl
theorem runB625 : litOk stB624 (match stB479.act.put (some 11) (vvB274) with | some a => some (.normal, a, stB618.st) | none => none) = true := by kernel_rfl
theorem runB636 : litOk stB635 (match stB474.act.put (some 18) (.tuple #[.int .i64 4, .int .i64 0]) with | some a => some (.normal, a, stB629.st) | none => none) = true := by kernel_rfl
theorem runB685 : litOk stB684 (match stB674.act.put (some 60) (vvB296) with | some a => some (.normal, a, stB679.st) | none => none) = true := by kernel_rfl
theorem runB713 : litOk stB712 (match stB663.act.put (some 29) (vvB302) with | some a => some (.normal, a, stB706.st) | none => none) = true := by kernel_rfl
theorem runB741 : litOk stB740 (match stB652.act.put (some 52) (vvB304) with | some a => some (.normal, a, stB734.st) | none => none) = true := by kernel_rfl
theorem runB769 : litOk stB768 (match stB469.act.put (some 14) (vvB326) with | some a => some (.normal, a, stB760.st) | none => none) = true := by kernel_rfl
theorem runB796 : litOk stB795 (match stB464.act.put (some 30) (vvB347) with | some a => some (.normal, a, stB787.st) | none => none) = true := by kernel_rfl
theorem runB807 : litOk stB806 (match stB459.act.put (some 59) (vvB350) with | some a => some (.normal, a, stB800.st) | none => none) = true := by kernel_rfl
theorem runB817 : litOk stB816 (runOps Tryz.prog iB (rops pB236).toList (cutOps pB236 0 1) stB814.act stB814.st) = true := by kernel_rfl
theorem runB822 : litOk stB821 (runOps Tryz.prog iB (rops pB238).toList (cutOps pB238 0 1) stB819.act stB819.st) = true := by kernel_rfl
theorem runB827 : litOk stB826 (runOps Tryz.prog iB (rops pB104).toList (cutOps pB104 0 1) stB824.act stB824.st) = true := by kernel_rfl
theorem runB832 : litOk stB831 (runOps Tryz.prog iB (rops pB106).toList (cutOps pB106 0 1) stB829.act stB829.st) = true := by kernel_rfl
theorem runB880 : litOk stB879 (match stB869.act.put (some 60) (vvB379) with | some a => some (.normal, a, stB874.st) | none => none) = true := by kernel_rfl
theorem runB908 : litOk stB907 (match stB858.act.put (some 29) (vvB385) with | some a => some (.normal, a, stB901.st) | none => none) = true := by kernel_rfl
theorem runB936 : litOk stB935 (match stB847.act.put (some 11) (vvB387) with | some a => some (.normal, a, stB929.st) | none => none) = true := by kernel_rfl
theorem runB947 : litOk stB946 (match stB842.act.put (some 40) (.tuple #[.int .i64 2, .int .i64 0]) with | some a => some (.normal, a, stB940.st) | none => none) = true := by kernel_rfl
theorem runB977 : litOk stB976 (match stB831.act.put (some 11) (vvB393) with | some a => some (.normal, a, stB970.st) | none => none) = true := by kernel_rfl
theorem runB988 : litOk stB987 (match stB826.act.put (some 18) (.tuple #[.int .i64 4, .int .i64 0]) with | some a => some (.normal, a, stB981.st) | none => none) = true := by kernel_rfl
theorem runB1037 : litOk stB1036 (match stB1026.act.put (some 60) (vvB415) with | some a => some (.normal, a, stB1031.st) | none => none) = true := by kernel_rfl
theorem runB1065 : litOk stB1064 (match stB1015.act.put (some 29) (vvB421) with | some a => some (.normal, a, stB1058.st) | none => none) = true := by kernel_rfl
theorem runB1093 : litOk stB1092 (match stB1004.act.put (some 52) (vvB423) with | some a => some (.normal, a, stB1086.st) | none => none) = true := by kernel_rfl
theorem runB1121 : litOk stB1120 (match stB821.act.put (some 14) (vvB445) with | some a => some (.normal, a, stB1112.st) | none => none) = true := by kernel_rfl
theorem runB1148 : litOk stB1147 (match stB816.act.put (some 30) (vvB454) with | some a => some (.normal, a, stB1139.st) | none => none) = true := by kernel_rfl
theorem runB1159 : litOk stB1158 (match stB811.act.put (some 65) (.tuple #[.slice none 0 0, .int .i64 0]) with | some a => some (.normal, a, stB1152.st) | none => none) = true := by kernel_rfl

end Go.Proofs.YteclhllliigapaaGreatDoor

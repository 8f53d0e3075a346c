/-
  The chapter's examples, stages.
-/
import Derived.Test.YtpndamekpdajmaaGreatDoorSo1
namespace Go.Proofs.YtpndamekpdajmaaGreatDoor
open Go.Cm

set_option maxRecDepth 100000
theorem runA698 : litOk stA697 (runSeq iA.exec (hds 4 cdA44) ({ n := 66, t := PT.ofList 0 (PT.nil 8) vsA696, defers := [] }) stA694.st) = true := by kernel_rfl
theorem runB149 : litOk stB148 (match stB60.act.put (some 11) (vvB126) with | some a => some (.normal, a, stB142.st) | none => none) = true := by kernel_rfl
theorem runB160 : litOk stB159 (match stB55.act.put (some 40) (.tuple #[.int .i64 2, .int .i64 0]) with | some a => some (.normal, a, stB153.st) | none => none) = true := by kernel_rfl
theorem runB188 : litOk stB187 (match stB44.act.put (some 11) (vvB132) with | some a => some (.normal, a, stB181.st) | none => none) = true := by kernel_rfl
theorem runB199 : litOk stB198 (match stB39.act.put (some 18) (.tuple #[.int .i64 2, .int .i64 0]) with | some a => some (.normal, a, stB192.st) | none => none) = true := by kernel_rfl
theorem runB248 : litOk stB247 (match stB237.act.put (some 60) (vvB166) with | some a => some (.normal, a, stB242.st) | none => none) = true := by kernel_rfl
theorem runB276 : litOk stB275 (match stB226.act.put (some 29) (vvB172) with | some a => some (.normal, a, stB269.st) | none => none) = true := by kernel_rfl
theorem runB304 : litOk stB303 (match stB215.act.put (some 52) (vvB174) with | some a => some (.normal, a, stB297.st) | none => none) = true := by kernel_rfl
theorem runB330 : litOk stB329 (match stB34.act.put (some 14) (vvB181) with | some a => some (.normal, a, stB321.st) | none => none) = true := by kernel_rfl
theorem runB341 : litOk stB340 (match stB29.act.put (some 13) (vvB184) with | some a => some (.normal, a, stB334.st) | none => none) = true := by kernel_rfl
theorem runB352 : litOk stB351 (match stB24.act.put (some 34) (vvB187) with | some a => some (.normal, a, stB345.st) | none => none) = true := by kernel_rfl
theorem runB359 : litOk stB358 (runOps Tryz.prog iB (rops pB190).toList (cutOps pB190 0 1) stB356.act stB356.st) = true := by kernel_rfl
theorem runB364 : litOk stB363 (runOps Tryz.prog iB (rops pB44).toList (cutOps pB44 0 1) stB361.act stB361.st) = true := by kernel_rfl
theorem runB369 : litOk stB368 (runOps Tryz.prog iB (rops pB46).toList (cutOps pB46 0 1) stB366.act stB366.st) = true := by kernel_rfl
theorem runB417 : litOk stB416 (match stB406.act.put (some 60) (vvB211) with | some a => some (.normal, a, stB411.st) | none => none) = true := by kernel_rfl
theorem runB445 : litOk stB444 (match stB395.act.put (some 29) (vvB217) with | some a => some (.normal, a, stB438.st) | none => none) = true := by kernel_rfl
theorem runB473 : litOk stB472 (match stB384.act.put (some 11) (vvB219) with | some a => some (.normal, a, stB466.st) | none => none) = true := by kernel_rfl
theorem runB484 : litOk stB483 (match stB379.act.put (some 40) (.tuple #[.int .i64 2, .int .i64 0]) with | some a => some (.normal, a, stB477.st) | none => none) = true := by kernel_rfl
theorem runB512 : litOk stB511 (match stB368.act.put (some 11) (vvB220) with | some a => some (.normal, a, stB505.st) | none => none) = true := by kernel_rfl
theorem runB523 : litOk stB522 (match stB363.act.put (some 18) (.tuple #[.int .i64 2, .int .i64 0]) with | some a => some (.normal, a, stB516.st) | none => none) = true := by kernel_rfl
theorem runB572 : litOk stB571 (match stB561.act.put (some 60) (vvB241) with | some a => some (.normal, a, stB566.st) | none => none) = true := by kernel_rfl
theorem runB600 : litOk stB599 (match stB550.act.put (some 29) (vvB247) with | some a => some (.normal, a, stB593.st) | none => none) = true := by kernel_rfl
theorem runB628 : litOk stB627 (match stB539.act.put (some 52) (vvB249) with | some a => some (.normal, a, stB621.st) | none => none) = true := by kernel_rfl
theorem runB654 : litOk stB653 (match stB358.act.put (some 48) (vvB252) with | some a => some (.normal, a, stB645.st) | none => none) = true := by kernel_rfl
theorem runB685 : litOk stB684 (runOps Tryz.prog iB (rops pB37).toList (cutOps pB37 0 1) stB682.act stB682.st) = true := by kernel_rfl
theorem runB690 : litOk stB689 (runOps Tryz.prog iB (rops pB39).toList (cutOps pB39 0 1) stB687.act stB687.st) = true := by kernel_rfl
theorem runB695 : litOk stB694 (runOps Tryz.prog iB (rops pB41).toList (cutOps pB41 0 1) stB692.act stB692.st) = true := by kernel_rfl
theorem runB700 : litOk stB699 (runOps Tryz.prog iB (rops pB44).toList (cutOps pB44 0 1) stB697.act stB697.st) = true := by kernel_rfl
theorem runB705 : litOk stB704 (runOps Tryz.prog iB (rops pB46).toList (cutOps pB46 0 1) stB702.act stB702.st) = true := by kernel_rfl
theorem runB753 : litOk stB752 (match stB742.act.put (some 60) (vvB301) with | some a => some (.normal, a, stB747.st) | none => none) = true := by kernel_rfl
theorem runB781 : litOk stB780 (match stB731.act.put (some 29) (vvB307) with | some a => some (.normal, a, stB774.st) | none => none) = true := by kernel_rfl
theorem runB809 : litOk stB808 (match stB720.act.put (some 11) (vvB309) with | some a => some (.normal, a, stB802.st) | none => none) = true := by kernel_rfl
theorem runB820 : litOk stB819 (match stB715.act.put (some 40) (.tuple #[.int .i64 2, .int .i64 0]) with | some a => some (.normal, a, stB813.st) | none => none) = true := by kernel_rfl
theorem runB848 : litOk stB847 (match stB704.act.put (some 11) (vvB310) with | some a => some (.normal, a, stB841.st) | none => none) = true := by kernel_rfl
theorem runB859 : litOk stB858 (match stB699.act.put (some 18) (.tuple #[.int .i64 2, .int .i64 0]) with | some a => some (.normal, a, stB852.st) | none => none) = true := by kernel_rfl
theorem runB908 : litOk stB907 (match stB897.act.put (some 60) (vvB331) with | some a => some (.normal, a, stB902.st) | none => none) = true := by kernel_rfl
theorem runB936 : litOk stB935 (match stB886.act.put (some 29) (vvB337) with | some a => some (.normal, a, stB929.st) | none => none) = true := by kernel_rfl
theorem runB964 : litOk stB963 (match stB875.act.put (some 52) (vvB339) with | some a => some (.normal, a, stB957.st) | none => none) = true := by kernel_rfl
theorem runB990 : litOk stB989 (match stB694.act.put (some 14) (vvB344) with | some a => some (.normal, a, stB981.st) | none => none) = true := by kernel_rfl
theorem runB1001 : litOk stB1000 (match stB689.act.put (some 13) (vvB346) with | some a => some (.normal, a, stB994.st) | none => none) = true := by kernel_rfl
theorem runB1012 : litOk stB1011 (match stB684.act.put (some 34) (vvB348) with | some a => some (.normal, a, stB1005.st) | none => none) = true := by kernel_rfl
theorem runB1019 : litOk stB1018 (runOps Tryz.prog iB (rops pB190).toList (cutOps pB190 0 1) stB1016.act stB1016.st) = true := by kernel_rfl
theorem runB1024 : litOk stB1023 (runOps Tryz.prog iB (rops pB44).toList (cutOps pB44 0 1) stB1021.act stB1021.st) = true := by kernel_rfl
theorem runB1029 : litOk stB1028 (runOps Tryz.prog iB (rops pB46).toList (cutOps pB46 0 1) stB1026.act stB1026.st) = true := by kernel_rfl
theorem runB1077 : litOk stB1076 (match stB1066.act.put (some 60) (vvB369) with | some a => some (.normal, a, stB1071.st) | none => none) = true := by kernel_rfl
theorem runB1105 : litOk stB1104 (match stB1055.act.put (some 29) (vvB375) with | some a => some (.normal, a, stB1098.st) | none => none) = true := by kernel_rfl
theorem runB1133 : litOk stB1132 (match stB1044.act.put (some 11) (vvB377) with | some a => some (.normal, a, stB1126.st) | none => none) = true := by kernel_rfl
theorem runB1144 : litOk stB1143 (match stB1039.act.put (some 40) (.tuple #[.int .i64 2, .int .i64 0]) with | some a => some (.normal, a, stB1137.st) | none => none) = true := by kernel_rfl
theorem runB1172 : litOk stB1171 (match stB1028.act.put (some 11) (vvB378) with | some a => some (.normal, a, stB1165.st) | none => none) = true := by kernel_rfl
theorem runB1183 : litOk stB1182 (match stB1023.act.put (some 18) (.tuple #[.int .i64 2, .int .i64 0]) with | some a => some (.normal, a, stB1176.st) | none => none) = true := by kernel_rfl
theorem runB1232 : litOk stB1231 (match stB1221.act.put (some 60) (vvB399) with | some a => some (.normal, a, stB1226.st) | none => none) = true := by kernel_rfl
theorem runB1260 : litOk stB1259 (match stB1210.act.put (some 29) (vvB405) with | some a => some (.normal, a, stB1253.st) | none => none) = true := by kernel_rfl
theorem runB1288 : litOk stB1287 (match stB1199.act.put (some 52) (vvB407) with | some a => some (.normal, a, stB1281.st) | none => none) = true := by kernel_rfl
theorem runB1314 : litOk stB1313 (match stB1018.act.put (some 48) (vvB410) with | some a => some (.normal, a, stB1305.st) | none => none) = true := by kernel_rfl
theorem runB1353 : litOk stB1352 (match stB13.act.put (some 12) (vvB424) with | some a => some (.normal, a, stB1346.st) | none => none) = true := by kernel_rfl
theorem runB1364 : litOk stB1363 (match stB8.act.put (some 10) (vvB427) with | some a => some (.normal, a, stB1357.st) | none => none) = true := by kernel_rfl
theorem runB1375 : litOk stB1374 (match stB3.act.put (some 46) (vt) with | some a => some (.normal, a, stB1368.st) | none => none) = true := by kernel_rfl
theorem runB1380 : litOk stB1379 (runSeq iB.exec (hds 1 cdB12) ({ n := 56, t := PT.ofList 0 (PT.nil 8) vsB1378, defers := [] }) stB1376.st) = true := by kernel_rfl
theorem runB1393 : litOk stB1392 (runOps Tryz.prog iB (rops pB37).toList (cutOps pB37 0 1) stB1390.act stB1390.st) = true := by kernel_rfl
theorem runB1398 : litOk stB1397 (runOps Tryz.prog iB (rops pB39).toList (cutOps pB39 0 1) stB1395.act stB1395.st) = true := by kernel_rfl
theorem runB1403 : litOk stB1402 (runOps Tryz.prog iB (rops pB41).toList (cutOps pB41 0 1) stB1400.act stB1400.st) = true := by kernel_rfl
theorem runB1408 : litOk stB1407 (runOps Tryz.prog iB (rops pB44).toList (cutOps pB44 0 1) stB1405.act stB1405.st) = true := by kernel_rfl
theorem runB1413 : litOk stB1412 (runOps Tryz.prog iB (rops pB46).toList (cutOps pB46 0 1) stB1410.act stB1410.st) = true := by kernel_rfl
theorem runB1461 : litOk stB1460 (match stB1450.act.put (some 60) (vvB460) with | some a => some (.normal, a, stB1455.st) | none => none) = true := by kernel_rfl
theorem runB1489 : litOk stB1488 (match stB1439.act.put (some 29) (vvB466) with | some a => some (.normal, a, stB1482.st) | none => none) = true := by kernel_rfl
theorem runB1517 : litOk stB1516 (match stB1428.act.put (some 11) (vvB468) with | some a => some (.normal, a, stB1510.st) | none => none) = true := by kernel_rfl
theorem runB1528 : litOk stB1527 (match stB1423.act.put (some 40) (.tuple #[.int .i64 2, .int .i64 0]) with | some a => some (.normal, a, stB1521.st) | none => none) = true := by kernel_rfl
theorem runB1556 : litOk stB1555 (match stB1412.act.put (some 11) (vvB469) with | some a => some (.normal, a, stB1549.st) | none => none) = true := by kernel_rfl
theorem runB1567 : litOk stB1566 (match stB1407.act.put (some 18) (.tuple #[.int .i64 2, .int .i64 0]) with | some a => some (.normal, a, stB1560.st) | none => none) = true := by kernel_rfl
theorem runB1616 : litOk stB1615 (match stB1605.act.put (some 60) (vvB490) with | some a => some (.normal, a, stB1610.st) | none => none) = true := by kernel_rfl
theorem runB1644 : litOk stB1643 (match stB1594.act.put (some 29) (vvB496) with | some a => some (.normal, a, stB1637.st) | none => none) = true := by kernel_rfl
theorem runB1672 : litOk stB1671 (match stB1583.act.put (some 52) (vvB498) with | some a => some (.normal, a, stB1665.st) | none => none) = true := by kernel_rfl
theorem runB1698 : litOk stB1697 (match stB1402.act.put (some 14) (vvB501) with | some a => some (.normal, a, stB1689.st) | none => none) = true := by kernel_rfl
theorem runB1709 : litOk stB1708 (match stB1397.act.put (some 13) (vvB503) with | some a => some (.normal, a, stB1702.st) | none => none) = true := by kernel_rfl
theorem runB1720 : litOk stB1719 (match stB1392.act.put (some 34) (vvB504) with | some a => some (.normal, a, stB1713.st) | none => none) = true := by kernel_rfl
theorem runB1727 : litOk stB1726 (runOps Tryz.prog iB (rops pB190).toList (cutOps pB190 0 1) stB1724.act stB1724.st) = true := by kernel_rfl
theorem runB1732 : litOk stB1731 (runOps Tryz.prog iB (rops pB44).toList (cutOps pB44 0 1) stB1729.act stB1729.st) = true := by kernel_rfl
theorem runB1737 : litOk stB1736 (runOps Tryz.prog iB (rops pB46).toList (cutOps pB46 0 1) stB1734.act stB1734.st) = true := by kernel_rfl
theorem runB1785 : litOk stB1784 (match stB1774.act.put (some 60) (vvB525) with | some a => some (.normal, a, stB1779.st) | none => none) = true := by kernel_rfl
theorem runB1813 : litOk stB1812 (match stB1763.act.put (some 29) (vvB531) with | some a => some (.normal, a, stB1806.st) | none => none) = true := by kernel_rfl
theorem runB1841 : litOk stB1840 (match stB1752.act.put (some 11) (vvB533) with | some a => some (.normal, a, stB1834.st) | none => none) = true := by kernel_rfl
theorem runB1852 : litOk stB1851 (match stB1747.act.put (some 40) (.tuple #[.int .i64 2, .int .i64 0]) with | some a => some (.normal, a, stB1845.st) | none => none) = true := by kernel_rfl
theorem runB1880 : litOk stB1879 (match stB1736.act.put (some 11) (vvB534) with | some a => some (.normal, a, stB1873.st) | none => none) = true := by kernel_rfl
theorem runB1891 : litOk stB1890 (match stB1731.act.put (some 18) (.tuple #[.int .i64 2, .int .i64 0]) with | some a => some (.normal, a, stB1884.st) | none => none) = true := by kernel_rfl
theorem runB1940 : litOk stB1939 (match stB1929.act.put (some 60) (vvB555) with | some a => some (.normal, a, stB1934.st) | none => none) = true := by kernel_rfl
theorem runB1968 : litOk stB1967 (match stB1918.act.put (some 29) (vvB561) with | some a => some (.normal, a, stB1961.st) | none => none) = true := by kernel_rfl
theorem runB1996 : litOk stB1995 (match stB1907.act.put (some 52) (vvB563) with | some a => some (.normal, a, stB1989.st) | none => none) = true := by kernel_rfl
theorem runB2022 : litOk stB2021 (match stB1726.act.put (some 48) (vvB566) with | some a => some (.normal, a, stB2013.st) | none => none) = true := by kernel_rfl
theorem runB2053 : litOk stB2052 (runOps Tryz.prog iB (rops pB37).toList (cutOps pB37 0 1) stB2050.act stB2050.st) = true := by kernel_rfl
theorem runB2058 : litOk stB2057 (runOps Tryz.prog iB (rops pB39).toList (cutOps pB39 0 1) stB2055.act stB2055.st) = true := by kernel_rfl
theorem runB2063 : litOk stB2062 (runOps Tryz.prog iB (rops pB41).toList (cutOps pB41 0 1) stB2060.act stB2060.st) = true := by kernel_rfl
theorem runB2073 : litOk stB2072 (match stB2062.act.put (some 14) (vvB585) with | some a => some (.normal, a, stB2067.st) | none => none) = true := by kernel_rfl
theorem runB2084 : litOk stB2083 (match stB2057.act.put (some 13) (vvB586) with | some a => some (.normal, a, stB2077.st) | none => none) = true := by kernel_rfl
theorem runB2095 : litOk stB2094 (match stB2052.act.put (some 34) (vvB587) with | some a => some (.normal, a, stB2088.st) | none => none) = true := by kernel_rfl
theorem runB2102 : litOk stB2101 (runOps Tryz.prog iB (rops pB190).toList (cutOps pB190 0 1) stB2099.act stB2099.st) = true := by kernel_rfl
theorem runB2112 : litOk stB2111 (match stB2101.act.put (some 48) (vvB590) with | some a => some (.normal, a, stB2106.st) | none => none) = true := by kernel_rfl
theorem runB2142 : litOk stB2141 (match stB1381.act.put (some 7) (vvB597) with | some a => some (.normal, a, stB2135.st) | none => none) = true := by kernel_rfl
theorem runB2153 : litOk stB2152 (match stB1376.act.put (some 50) (vt) with | some a => some (.normal, a, stB2146.st) | none => none) = true := by kernel_rfl
theorem runB2158 : litX .normal stB2157 (iB.exec none pB599 stB2154.act stB2154.st) = true := by kernel_rfl

end Go.Proofs.YtpndamekpdajmaaGreatDoor

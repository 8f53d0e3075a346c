/-
  The chapter's examples, stages.
-/
import Derived.Test.YtpndamekpdajmaaGreatDoorSo1
namespace Go.Proofs.YtpndamekpdajmaaGreatDoor
open Go.Cm

set_option maxRecDepth 100000
theorem runA737 : litOk stA736 (runSeq iA.exec (hds 4 cdA44) ({ n := 66, t := PT.ofList 0 (PT.nil 8) vsA735, defers := [] }) stA733.st) = true := by kernel_rfl
theorem runB77 : litOk stB76 (runSeq iB.exec (hds 1 pB87) stB74.act stB74.st) = true := by kernel_rfl
theorem runB81 : litOk stB80 (runSeq iB.exec (hds 1 pB93) stB78.act stB78.st) = true := by kernel_rfl
theorem runB83 : litOk stB82 (runOps Tryz.prog iB (rops pB95).toList (cutOps pB95 0 3) stB80.act stB80.st) = true := by kernel_rfl
theorem runB98 : litX .normal stB97 (iB.exec none pB113 stB94.act stB94.st) = true := by kernel_rfl
theorem runB204 : litX .normal stB203 (iB.exec none pB134 stB200.act stB200.st) = true := by kernel_rfl
theorem runB210 : litOk stB209 (runSeq iB.exec (hds 1 pB139) stB207.act stB207.st) = true := by kernel_rfl
theorem runB227 : litOk stB226 (runOps Tryz.prog iB (rops pB77).toList (cutOps pB77 0 3) stB224.act stB224.st) = true := by kernel_rfl
theorem runB232 : litOk stB231 (runSeq iB.exec (hds 1 pB87) stB229.act stB229.st) = true := by kernel_rfl
theorem runB236 : litOk stB235 (runSeq iB.exec (hds 1 pB93) stB233.act stB233.st) = true := by kernel_rfl
theorem runB238 : litOk stB237 (runOps Tryz.prog iB (rops pB95).toList (cutOps pB95 0 3) stB235.act stB235.st) = true := by kernel_rfl
theorem runB253 : litX .normal stB252 (iB.exec none pB113 stB249.act stB249.st) = true := by kernel_rfl
theorem runB362 : litOk stB361 (runSeq iB.exec (hds 1 cdB44) ({ n := 66, t := PT.ofList 0 (PT.nil 8) vsB360, defers := [] }) stB358.st) = true := by kernel_rfl
theorem runB367 : litOk stB366 (runSeq iB.exec (hds 1 cdB59) ({ n := 30, t := PT.ofList 0 (PT.nil 8) vsB365, defers := [] }) stB363.st) = true := by kernel_rfl
theorem runB374 : litOk stB373 (runSeq iB.exec (hds 1 pB50) stB371.act stB371.st) = true := by kernel_rfl
theorem runB380 : litOk stB379 (runOps Tryz.prog iB (rops pB63).toList (cutOps pB63 0 3) stB377.act stB377.st) = true := by kernel_rfl
theorem runB383 : litOk stB382 (runSeq iB.exec (hds 1 cdB100) ({ n := 17, t := PT.ofList 0 (PT.nil 8) vsB381, defers := [] }) stB379.st) = true := by kernel_rfl
theorem runB396 : litOk stB395 (runOps Tryz.prog iB (rops pB77).toList (cutOps pB77 0 3) stB393.act stB393.st) = true := by kernel_rfl
theorem runB401 : litOk stB400 (runSeq iB.exec (hds 1 pB87) stB398.act stB398.st) = true := by kernel_rfl
theorem runB405 : litOk stB404 (runSeq iB.exec (hds 1 pB93) stB402.act stB402.st) = true := by kernel_rfl
theorem runB407 : litOk stB406 (runOps Tryz.prog iB (rops pB95).toList (cutOps pB95 0 3) stB404.act stB404.st) = true := by kernel_rfl
theorem runB422 : litX .normal stB421 (iB.exec none pB113 stB418.act stB418.st) = true := by kernel_rfl
theorem runB528 : litX .normal stB527 (iB.exec none pB134 stB524.act stB524.st) = true := by kernel_rfl
theorem runB534 : litOk stB533 (runSeq iB.exec (hds 1 pB139) stB531.act stB531.st) = true := by kernel_rfl
theorem runB551 : litOk stB550 (runOps Tryz.prog iB (rops pB77).toList (cutOps pB77 0 3) stB548.act stB548.st) = true := by kernel_rfl
theorem runB556 : litOk stB555 (runSeq iB.exec (hds 1 pB87) stB553.act stB553.st) = true := by kernel_rfl
theorem runB560 : litOk stB559 (runSeq iB.exec (hds 1 pB93) stB557.act stB557.st) = true := by kernel_rfl
theorem runB562 : litOk stB561 (runOps Tryz.prog iB (rops pB95).toList (cutOps pB95 0 3) stB559.act stB559.st) = true := by kernel_rfl
theorem runB577 : litX .normal stB576 (iB.exec none pB113 stB573.act stB573.st) = true := by kernel_rfl
theorem runB688 : litOk stB687 (runSeq iB.exec (hds 1 cdB43) ({ n := 45, t := PT.ofList 0 (PT.nil 8) vsB686, defers := [] }) stB684.st) = true := by kernel_rfl
theorem runB698 : litOk stB697 (runSeq iB.exec (hds 1 cdB44) ({ n := 66, t := PT.ofList 0 (PT.nil 8) vsB696, defers := [] }) stB694.st) = true := by kernel_rfl
theorem runB703 : litOk stB702 (runSeq iB.exec (hds 1 cdB59) ({ n := 30, t := PT.ofList 0 (PT.nil 8) vsB701, defers := [] }) stB699.st) = true := by kernel_rfl
theorem runB710 : litOk stB709 (runSeq iB.exec (hds 1 pB50) stB707.act stB707.st) = true := by kernel_rfl
theorem runB716 : litOk stB715 (runOps Tryz.prog iB (rops pB63).toList (cutOps pB63 0 3) stB713.act stB713.st) = true := by kernel_rfl
theorem runB719 : litOk stB718 (runSeq iB.exec (hds 1 cdB100) ({ n := 17, t := PT.ofList 0 (PT.nil 8) vsB717, defers := [] }) stB715.st) = true := by kernel_rfl
theorem runB732 : litOk stB731 (runOps Tryz.prog iB (rops pB77).toList (cutOps pB77 0 3) stB729.act stB729.st) = true := by kernel_rfl
theorem runB737 : litOk stB736 (runSeq iB.exec (hds 1 pB87) stB734.act stB734.st) = true := by kernel_rfl
theorem runB741 : litOk stB740 (runSeq iB.exec (hds 1 pB93) stB738.act stB738.st) = true := by kernel_rfl
theorem runB743 : litOk stB742 (runOps Tryz.prog iB (rops pB95).toList (cutOps pB95 0 3) stB740.act stB740.st) = true := by kernel_rfl
theorem runB758 : litX .normal stB757 (iB.exec none pB113 stB754.act stB754.st) = true := by kernel_rfl
theorem runB864 : litX .normal stB863 (iB.exec none pB134 stB860.act stB860.st) = true := by kernel_rfl
theorem runB870 : litOk stB869 (runSeq iB.exec (hds 1 pB139) stB867.act stB867.st) = true := by kernel_rfl
theorem runB887 : litOk stB886 (runOps Tryz.prog iB (rops pB77).toList (cutOps pB77 0 3) stB884.act stB884.st) = true := by kernel_rfl
theorem runB892 : litOk stB891 (runSeq iB.exec (hds 1 pB87) stB889.act stB889.st) = true := by kernel_rfl
theorem runB896 : litOk stB895 (runSeq iB.exec (hds 1 pB93) stB893.act stB893.st) = true := by kernel_rfl
theorem runB898 : litOk stB897 (runOps Tryz.prog iB (rops pB95).toList (cutOps pB95 0 3) stB895.act stB895.st) = true := by kernel_rfl
theorem runB913 : litX .normal stB912 (iB.exec none pB113 stB909.act stB909.st) = true := by kernel_rfl
theorem runB1022 : litOk stB1021 (runSeq iB.exec (hds 1 cdB44) ({ n := 66, t := PT.ofList 0 (PT.nil 8) vsB1020, defers := [] }) stB1018.st) = true := by kernel_rfl
theorem runB1027 : litOk stB1026 (runSeq iB.exec (hds 1 cdB59) ({ n := 30, t := PT.ofList 0 (PT.nil 8) vsB1025, defers := [] }) stB1023.st) = true := by kernel_rfl
theorem runB1034 : litOk stB1033 (runSeq iB.exec (hds 1 pB50) stB1031.act stB1031.st) = true := by kernel_rfl
theorem runB1040 : litOk stB1039 (runOps Tryz.prog iB (rops pB63).toList (cutOps pB63 0 3) stB1037.act stB1037.st) = true := by kernel_rfl
theorem runB1043 : litOk stB1042 (runSeq iB.exec (hds 1 cdB100) ({ n := 17, t := PT.ofList 0 (PT.nil 8) vsB1041, defers := [] }) stB1039.st) = true := by kernel_rfl
theorem runB1056 : litOk stB1055 (runOps Tryz.prog iB (rops pB77).toList (cutOps pB77 0 3) stB1053.act stB1053.st) = true := by kernel_rfl
theorem runB1061 : litOk stB1060 (runSeq iB.exec (hds 1 pB87) stB1058.act stB1058.st) = true := by kernel_rfl
theorem runB1065 : litOk stB1064 (runSeq iB.exec (hds 1 pB93) stB1062.act stB1062.st) = true := by kernel_rfl
theorem runB1067 : litOk stB1066 (runOps Tryz.prog iB (rops pB95).toList (cutOps pB95 0 3) stB1064.act stB1064.st) = true := by kernel_rfl
theorem runB1082 : litX .normal stB1081 (iB.exec none pB113 stB1078.act stB1078.st) = true := by kernel_rfl
theorem runB1188 : litX .normal stB1187 (iB.exec none pB134 stB1184.act stB1184.st) = true := by kernel_rfl
theorem runB1194 : litOk stB1193 (runSeq iB.exec (hds 1 pB139) stB1191.act stB1191.st) = true := by kernel_rfl
theorem runB1211 : litOk stB1210 (runOps Tryz.prog iB (rops pB77).toList (cutOps pB77 0 3) stB1208.act stB1208.st) = true := by kernel_rfl
theorem runB1216 : litOk stB1215 (runSeq iB.exec (hds 1 pB87) stB1213.act stB1213.st) = true := by kernel_rfl
theorem runB1220 : litOk stB1219 (runSeq iB.exec (hds 1 pB93) stB1217.act stB1217.st) = true := by kernel_rfl
theorem runB1222 : litOk stB1221 (runOps Tryz.prog iB (rops pB95).toList (cutOps pB95 0 3) stB1219.act stB1219.st) = true := by kernel_rfl
theorem runB1237 : litX .normal stB1236 (iB.exec none pB113 stB1233.act stB1233.st) = true := by kernel_rfl
theorem runB1377 : litOk stB1376 (runOps Tryz.prog iB (rops pB16).toList (cutOps pB16 10 13) stB1374.act stB1374.st) = true := by kernel_rfl
theorem runB1387 : litOk stB1386 (runSeq iB.exec (hds 1 pB27) stB1384.act stB1384.st) = true := by kernel_rfl
theorem runB1396 : litOk stB1395 (runSeq iB.exec (hds 1 cdB43) ({ n := 45, t := PT.ofList 0 (PT.nil 8) vsB1394, defers := [] }) stB1392.st) = true := by kernel_rfl
theorem runB1406 : litOk stB1405 (runSeq iB.exec (hds 1 cdB44) ({ n := 66, t := PT.ofList 0 (PT.nil 8) vsB1404, defers := [] }) stB1402.st) = true := by kernel_rfl
theorem runB1411 : litOk stB1410 (runSeq iB.exec (hds 1 cdB59) ({ n := 30, t := PT.ofList 0 (PT.nil 8) vsB1409, defers := [] }) stB1407.st) = true := by kernel_rfl
theorem runB1418 : litOk stB1417 (runSeq iB.exec (hds 1 pB50) stB1415.act stB1415.st) = true := by kernel_rfl
theorem runB1424 : litOk stB1423 (runOps Tryz.prog iB (rops pB63).toList (cutOps pB63 0 3) stB1421.act stB1421.st) = true := by kernel_rfl
theorem runB1427 : litOk stB1426 (runSeq iB.exec (hds 1 cdB100) ({ n := 17, t := PT.ofList 0 (PT.nil 8) vsB1425, defers := [] }) stB1423.st) = true := by kernel_rfl
theorem runB1440 : litOk stB1439 (runOps Tryz.prog iB (rops pB77).toList (cutOps pB77 0 3) stB1437.act stB1437.st) = true := by kernel_rfl
theorem runB1445 : litOk stB1444 (runSeq iB.exec (hds 1 pB87) stB1442.act stB1442.st) = true := by kernel_rfl
theorem runB1449 : litOk stB1448 (runSeq iB.exec (hds 1 pB93) stB1446.act stB1446.st) = true := by kernel_rfl
theorem runB1451 : litOk stB1450 (runOps Tryz.prog iB (rops pB95).toList (cutOps pB95 0 3) stB1448.act stB1448.st) = true := by kernel_rfl
theorem runB1466 : litX .normal stB1465 (iB.exec none pB113 stB1462.act stB1462.st) = true := by kernel_rfl
theorem runB1572 : litX .normal stB1571 (iB.exec none pB134 stB1568.act stB1568.st) = true := by kernel_rfl
theorem runB1578 : litOk stB1577 (runSeq iB.exec (hds 1 pB139) stB1575.act stB1575.st) = true := by kernel_rfl
theorem runB1595 : litOk stB1594 (runOps Tryz.prog iB (rops pB77).toList (cutOps pB77 0 3) stB1592.act stB1592.st) = true := by kernel_rfl
theorem runB1600 : litOk stB1599 (runSeq iB.exec (hds 1 pB87) stB1597.act stB1597.st) = true := by kernel_rfl
theorem runB1604 : litOk stB1603 (runSeq iB.exec (hds 1 pB93) stB1601.act stB1601.st) = true := by kernel_rfl
theorem runB1606 : litOk stB1605 (runOps Tryz.prog iB (rops pB95).toList (cutOps pB95 0 3) stB1603.act stB1603.st) = true := by kernel_rfl
theorem runB1621 : litX .normal stB1620 (iB.exec none pB113 stB1617.act stB1617.st) = true := by kernel_rfl
theorem runB1730 : litOk stB1729 (runSeq iB.exec (hds 1 cdB44) ({ n := 66, t := PT.ofList 0 (PT.nil 8) vsB1728, defers := [] }) stB1726.st) = true := by kernel_rfl
theorem runB1735 : litOk stB1734 (runSeq iB.exec (hds 1 cdB59) ({ n := 30, t := PT.ofList 0 (PT.nil 8) vsB1733, defers := [] }) stB1731.st) = true := by kernel_rfl
theorem runB1742 : litOk stB1741 (runSeq iB.exec (hds 1 pB50) stB1739.act stB1739.st) = true := by kernel_rfl
theorem runB1748 : litOk stB1747 (runOps Tryz.prog iB (rops pB63).toList (cutOps pB63 0 3) stB1745.act stB1745.st) = true := by kernel_rfl
theorem runB1751 : litOk stB1750 (runSeq iB.exec (hds 1 cdB100) ({ n := 17, t := PT.ofList 0 (PT.nil 8) vsB1749, defers := [] }) stB1747.st) = true := by kernel_rfl
theorem runB1764 : litOk stB1763 (runOps Tryz.prog iB (rops pB77).toList (cutOps pB77 0 3) stB1761.act stB1761.st) = true := by kernel_rfl
theorem runB1769 : litOk stB1768 (runSeq iB.exec (hds 1 pB87) stB1766.act stB1766.st) = true := by kernel_rfl
theorem runB1773 : litOk stB1772 (runSeq iB.exec (hds 1 pB93) stB1770.act stB1770.st) = true := by kernel_rfl
theorem runB1775 : litOk stB1774 (runOps Tryz.prog iB (rops pB95).toList (cutOps pB95 0 3) stB1772.act stB1772.st) = true := by kernel_rfl
theorem runB1790 : litX .normal stB1789 (iB.exec none pB113 stB1786.act stB1786.st) = true := by kernel_rfl
theorem runB1896 : litX .normal stB1895 (iB.exec none pB134 stB1892.act stB1892.st) = true := by kernel_rfl
theorem runB1902 : litOk stB1901 (runSeq iB.exec (hds 1 pB139) stB1899.act stB1899.st) = true := by kernel_rfl
theorem runB1919 : litOk stB1918 (runOps Tryz.prog iB (rops pB77).toList (cutOps pB77 0 3) stB1916.act stB1916.st) = true := by kernel_rfl
theorem runB1924 : litOk stB1923 (runSeq iB.exec (hds 1 pB87) stB1921.act stB1921.st) = true := by kernel_rfl
theorem runB1928 : litOk stB1927 (runSeq iB.exec (hds 1 pB93) stB1925.act stB1925.st) = true := by kernel_rfl
theorem runB1930 : litOk stB1929 (runOps Tryz.prog iB (rops pB95).toList (cutOps pB95 0 3) stB1927.act stB1927.st) = true := by kernel_rfl
theorem runB1945 : litX .normal stB1944 (iB.exec none pB113 stB1941.act stB1941.st) = true := by kernel_rfl
theorem runB2056 : litOk stB2055 (runSeq iB.exec (hds 1 cdB43) ({ n := 45, t := PT.ofList 0 (PT.nil 8) vsB2054, defers := [] }) stB2052.st) = true := by kernel_rfl
theorem runA7 : litOk stA6 (runSeq iA.exec (hds 1 cdA11) ({ n := 38, t := PT.ofList 0 (PT.nil 8) vsA5, defers := [] }) stA3.st) = true := by kernel_rfl
theorem runA21 : litOk stA20 (runSeq iA.exec (hds 2 pA41) stA18.act stA18.st) = true := by kernel_rfl
theorem runA52 : litOk stA51 (runSeq iA.exec (hds 2 pA64) stA49.act stA49.st) = true := by kernel_rfl
theorem runA61 : litOk stA60 (runOps Tryz.prog iA (rops pA78).toList (cutOps pA78 0 2) stA58.act stA58.st) = true := by kernel_rfl
theorem runA66 : litOk stA65 (runSeq iA.exec (hds 1 pA80) stA63.act stA63.st) = true := by kernel_rfl
theorem runA68 : litOk stA67 (runSeq iA.exec (hds 2 pA83) stA65.act stA65.st) = true := by kernel_rfl
theorem runA70 : litOk stA69 (runSeq iA.exec (hds 1 pA86) stA67.act stA67.st) = true := by kernel_rfl
theorem runA79 : litOk stA78 (runSeq iA.exec (hds 2 pA101) stA76.act stA76.st) = true := by kernel_rfl
theorem runA104 : litX .normal stA103 (iA.exec none pA125 stA97.act stA97.st) = true := by kernel_rfl
theorem runA109 : litX (.exit 0) stA108 (iA.exec none pA101 stA103.act stA103.st) = true := by kernel_rfl
theorem runA132 : litX .normal stA131 (iA.exec none pA135 stA125.act stA125.st) = true := by kernel_rfl
theorem runA137 : litX (.exit 0) stA136 (iA.exec none pA83 stA131.act stA131.st) = true := by kernel_rfl
theorem runA171 : litX .normal stA170 (iA.exec none pA141 stA164.act stA164.st) = true := by kernel_rfl
theorem runA176 : litX (.exit 0) stA175 (iA.exec none pA64 stA170.act stA170.st) = true := by kernel_rfl
theorem runA212 : litOk stA211 (runSeq iA.exec (hds 2 pA153) stA209.act stA209.st) = true := by kernel_rfl
theorem runA221 : litOk stA220 (runSeq iA.exec (hds 1 pA80) stA218.act stA218.st) = true := by kernel_rfl
theorem runA223 : litOk stA222 (runSeq iA.exec (hds 2 pA83) stA220.act stA220.st) = true := by kernel_rfl
theorem runA225 : litOk stA224 (runSeq iA.exec (hds 1 pA86) stA222.act stA222.st) = true := by kernel_rfl
theorem runA234 : litOk stA233 (runSeq iA.exec (hds 2 pA101) stA231.act stA231.st) = true := by kernel_rfl
theorem runA259 : litX .normal stA258 (iA.exec none pA125 stA252.act stA252.st) = true := by kernel_rfl
theorem runA264 : litX (.exit 0) stA263 (iA.exec none pA101 stA258.act stA258.st) = true := by kernel_rfl
theorem runA287 : litX .normal stA286 (iA.exec none pA135 stA280.act stA280.st) = true := by kernel_rfl
theorem runA292 : litX (.exit 0) stA291 (iA.exec none pA83 stA286.act stA286.st) = true := by kernel_rfl
theorem runA311 : litX .normal stA310 (iA.exec none pA187 stA305.act stA305.st) = true := by kernel_rfl
theorem runA316 : litX (.exit 0) stA315 (iA.exec none pA153 stA310.act stA310.st) = true := by kernel_rfl
theorem runA376 : litOk stA375 (runSeq iA.exec (hds 2 pA64) stA373.act stA373.st) = true := by kernel_rfl
theorem runA385 : litOk stA384 (runOps Tryz.prog iA (rops pA78).toList (cutOps pA78 0 2) stA382.act stA382.st) = true := by kernel_rfl
theorem runA390 : litOk stA389 (runSeq iA.exec (hds 1 pA80) stA387.act stA387.st) = true := by kernel_rfl
theorem runA392 : litOk stA391 (runSeq iA.exec (hds 2 pA83) stA389.act stA389.st) = true := by kernel_rfl
theorem runA394 : litOk stA393 (runSeq iA.exec (hds 1 pA86) stA391.act stA391.st) = true := by kernel_rfl
theorem runA403 : litOk stA402 (runSeq iA.exec (hds 2 pA101) stA400.act stA400.st) = true := by kernel_rfl
theorem runA428 : litX .normal stA427 (iA.exec none pA125 stA421.act stA421.st) = true := by kernel_rfl
theorem runA433 : litX (.exit 0) stA432 (iA.exec none pA101 stA427.act stA427.st) = true := by kernel_rfl
theorem runA456 : litX .normal stA455 (iA.exec none pA135 stA449.act stA449.st) = true := by kernel_rfl
theorem runA461 : litX (.exit 0) stA460 (iA.exec none pA83 stA455.act stA455.st) = true := by kernel_rfl
theorem runA495 : litX .normal stA494 (iA.exec none pA141 stA488.act stA488.st) = true := by kernel_rfl
theorem runA500 : litX (.exit 0) stA499 (iA.exec none pA64 stA494.act stA494.st) = true := by kernel_rfl
theorem runA536 : litOk stA535 (runSeq iA.exec (hds 2 pA153) stA533.act stA533.st) = true := by kernel_rfl
theorem runA545 : litOk stA544 (runSeq iA.exec (hds 1 pA80) stA542.act stA542.st) = true := by kernel_rfl
theorem runA547 : litOk stA546 (runSeq iA.exec (hds 2 pA83) stA544.act stA544.st) = true := by kernel_rfl
theorem runA549 : litOk stA548 (runSeq iA.exec (hds 1 pA86) stA546.act stA546.st) = true := by kernel_rfl
theorem runA558 : litOk stA557 (runSeq iA.exec (hds 2 pA101) stA555.act stA555.st) = true := by kernel_rfl
theorem runA583 : litX .normal stA582 (iA.exec none pA125 stA576.act stA576.st) = true := by kernel_rfl
theorem runA588 : litX (.exit 0) stA587 (iA.exec none pA101 stA582.act stA582.st) = true := by kernel_rfl
theorem runA611 : litX .normal stA610 (iA.exec none pA135 stA604.act stA604.st) = true := by kernel_rfl
theorem runA616 : litX (.exit 0) stA615 (iA.exec none pA83 stA610.act stA610.st) = true := by kernel_rfl
theorem runA635 : litX .normal stA634 (iA.exec none pA187 stA629.act stA629.st) = true := by kernel_rfl
theorem runA640 : litX (.exit 0) stA639 (iA.exec none pA153 stA634.act stA634.st) = true := by kernel_rfl
theorem runA665 : litX (.exit 2) stA664 (iA.exec none pA267 stA662.act stA662.st) = true := by kernel_rfl
theorem runA676 : litX .normal stA675 (iA.exec none pA280 stA664.act stA664.st) = true := by kernel_rfl
theorem runA681 : litOk stA680 (runSeq iA.exec (hds 2 pA41) stA675.act stA675.st) = true := by kernel_rfl
theorem runA757 : litX .normal stA756 (iA.exec none pA280 stA748.act stA748.st) = true := by kernel_rfl
theorem runA762 : litX (.exit 0) stA761 (iA.exec none pA41 stA756.act stA756.st) = true := by kernel_rfl
theorem runA798 : litOk stA797 (runOps Tryz.prog iA (rops pA18).toList ((rops pA18).toList.drop 31) stA795.act stA795.st) = true := by kernel_rfl
theorem runB7 : litOk stB6 (runSeq iB.exec (hds 1 cdB11) ({ n := 38, t := PT.ofList 0 (PT.nil 8) vsB5, defers := [] }) stB3.st) = true := by kernel_rfl
theorem runB21 : litOk stB20 (runSeq iB.exec (hds 2 pB30) stB18.act stB18.st) = true := by kernel_rfl
theorem runB52 : litOk stB51 (runSeq iB.exec (hds 2 pB53) stB49.act stB49.st) = true := by kernel_rfl
theorem runB61 : litOk stB60 (runOps Tryz.prog iB (rops pB67).toList (cutOps pB67 0 2) stB58.act stB58.st) = true := by kernel_rfl
theorem runB66 : litOk stB65 (runSeq iB.exec (hds 1 pB69) stB63.act stB63.st) = true := by kernel_rfl
theorem runB68 : litOk stB67 (runSeq iB.exec (hds 2 pB72) stB65.act stB65.st) = true := by kernel_rfl
theorem runB70 : litOk stB69 (runSeq iB.exec (hds 1 pB75) stB67.act stB67.st) = true := by kernel_rfl
theorem runB79 : litOk stB78 (runSeq iB.exec (hds 2 pB90) stB76.act stB76.st) = true := by kernel_rfl
theorem runB104 : litX .normal stB103 (iB.exec none pB114 stB97.act stB97.st) = true := by kernel_rfl
theorem runB109 : litX (.exit 0) stB108 (iB.exec none pB90 stB103.act stB103.st) = true := by kernel_rfl
theorem runB132 : litX .normal stB131 (iB.exec none pB124 stB125.act stB125.st) = true := by kernel_rfl
theorem runB137 : litX (.exit 0) stB136 (iB.exec none pB72 stB131.act stB131.st) = true := by kernel_rfl
theorem runB171 : litX .normal stB170 (iB.exec none pB130 stB164.act stB164.st) = true := by kernel_rfl
theorem runB176 : litX (.exit 0) stB175 (iB.exec none pB53 stB170.act stB170.st) = true := by kernel_rfl
theorem runB212 : litOk stB211 (runSeq iB.exec (hds 2 pB142) stB209.act stB209.st) = true := by kernel_rfl
theorem runB221 : litOk stB220 (runSeq iB.exec (hds 1 pB69) stB218.act stB218.st) = true := by kernel_rfl
theorem runB223 : litOk stB222 (runSeq iB.exec (hds 2 pB72) stB220.act stB220.st) = true := by kernel_rfl
theorem runB225 : litOk stB224 (runSeq iB.exec (hds 1 pB75) stB222.act stB222.st) = true := by kernel_rfl
theorem runB234 : litOk stB233 (runSeq iB.exec (hds 2 pB90) stB231.act stB231.st) = true := by kernel_rfl
theorem runB259 : litX .normal stB258 (iB.exec none pB114 stB252.act stB252.st) = true := by kernel_rfl
theorem runB264 : litX (.exit 0) stB263 (iB.exec none pB90 stB258.act stB258.st) = true := by kernel_rfl
theorem runB287 : litX .normal stB286 (iB.exec none pB124 stB280.act stB280.st) = true := by kernel_rfl
theorem runB292 : litX (.exit 0) stB291 (iB.exec none pB72 stB286.act stB286.st) = true := by kernel_rfl
theorem runB311 : litX .normal stB310 (iB.exec none pB176 stB305.act stB305.st) = true := by kernel_rfl
theorem runB316 : litX (.exit 0) stB315 (iB.exec none pB142 stB310.act stB310.st) = true := by kernel_rfl
theorem runB376 : litOk stB375 (runSeq iB.exec (hds 2 pB53) stB373.act stB373.st) = true := by kernel_rfl
theorem runB385 : litOk stB384 (runOps Tryz.prog iB (rops pB67).toList (cutOps pB67 0 2) stB382.act stB382.st) = true := by kernel_rfl
theorem runB390 : litOk stB389 (runSeq iB.exec (hds 1 pB69) stB387.act stB387.st) = true := by kernel_rfl
theorem runB392 : litOk stB391 (runSeq iB.exec (hds 2 pB72) stB389.act stB389.st) = true := by kernel_rfl
theorem runB394 : litOk stB393 (runSeq iB.exec (hds 1 pB75) stB391.act stB391.st) = true := by kernel_rfl
theorem runB403 : litOk stB402 (runSeq iB.exec (hds 2 pB90) stB400.act stB400.st) = true := by kernel_rfl
theorem runB428 : litX .normal stB427 (iB.exec none pB114 stB421.act stB421.st) = true := by kernel_rfl
theorem runB433 : litX (.exit 0) stB432 (iB.exec none pB90 stB427.act stB427.st) = true := by kernel_rfl
theorem runB456 : litX .normal stB455 (iB.exec none pB124 stB449.act stB449.st) = true := by kernel_rfl
theorem runB461 : litX (.exit 0) stB460 (iB.exec none pB72 stB455.act stB455.st) = true := by kernel_rfl
theorem runB495 : litX .normal stB494 (iB.exec none pB130 stB488.act stB488.st) = true := by kernel_rfl
theorem runB500 : litX (.exit 0) stB499 (iB.exec none pB53 stB494.act stB494.st) = true := by kernel_rfl
theorem runB536 : litOk stB535 (runSeq iB.exec (hds 2 pB142) stB533.act stB533.st) = true := by kernel_rfl
theorem runB545 : litOk stB544 (runSeq iB.exec (hds 1 pB69) stB542.act stB542.st) = true := by kernel_rfl
theorem runB547 : litOk stB546 (runSeq iB.exec (hds 2 pB72) stB544.act stB544.st) = true := by kernel_rfl
theorem runB549 : litOk stB548 (runSeq iB.exec (hds 1 pB75) stB546.act stB546.st) = true := by kernel_rfl
theorem runB558 : litOk stB557 (runSeq iB.exec (hds 2 pB90) stB555.act stB555.st) = true := by kernel_rfl
theorem runB583 : litX .normal stB582 (iB.exec none pB114 stB576.act stB576.st) = true := by kernel_rfl
theorem runB588 : litX (.exit 0) stB587 (iB.exec none pB90 stB582.act stB582.st) = true := by kernel_rfl
theorem runB611 : litX .normal stB610 (iB.exec none pB124 stB604.act stB604.st) = true := by kernel_rfl
theorem runB616 : litX (.exit 0) stB615 (iB.exec none pB72 stB610.act stB610.st) = true := by kernel_rfl
theorem runB635 : litX .normal stB634 (iB.exec none pB176 stB629.act stB629.st) = true := by kernel_rfl
theorem runB640 : litX (.exit 0) stB639 (iB.exec none pB142 stB634.act stB634.st) = true := by kernel_rfl
theorem runB665 : litX (.exit 2) stB664 (iB.exec none pB256 stB662.act stB662.st) = true := by kernel_rfl
theorem runB676 : litX .normal stB675 (iB.exec none pB271 stB664.act stB664.st) = true := by kernel_rfl
theorem runB681 : litOk stB680 (runSeq iB.exec (hds 2 pB30) stB675.act stB675.st) = true := by kernel_rfl
theorem runB712 : litOk stB711 (runSeq iB.exec (hds 2 pB53) stB709.act stB709.st) = true := by kernel_rfl
theorem runB721 : litOk stB720 (runOps Tryz.prog iB (rops pB67).toList (cutOps pB67 0 2) stB718.act stB718.st) = true := by kernel_rfl
theorem runB726 : litOk stB725 (runSeq iB.exec (hds 1 pB69) stB723.act stB723.st) = true := by kernel_rfl
theorem runB728 : litOk stB727 (runSeq iB.exec (hds 2 pB72) stB725.act stB725.st) = true := by kernel_rfl
theorem runB730 : litOk stB729 (runSeq iB.exec (hds 1 pB75) stB727.act stB727.st) = true := by kernel_rfl
theorem runB739 : litOk stB738 (runSeq iB.exec (hds 2 pB90) stB736.act stB736.st) = true := by kernel_rfl
theorem runB764 : litX .normal stB763 (iB.exec none pB114 stB757.act stB757.st) = true := by kernel_rfl
theorem runB769 : litX (.exit 0) stB768 (iB.exec none pB90 stB763.act stB763.st) = true := by kernel_rfl
theorem runB792 : litX .normal stB791 (iB.exec none pB124 stB785.act stB785.st) = true := by kernel_rfl
theorem runB797 : litX (.exit 0) stB796 (iB.exec none pB72 stB791.act stB791.st) = true := by kernel_rfl
theorem runB831 : litX .normal stB830 (iB.exec none pB130 stB824.act stB824.st) = true := by kernel_rfl
theorem runB836 : litX (.exit 0) stB835 (iB.exec none pB53 stB830.act stB830.st) = true := by kernel_rfl
theorem runB872 : litOk stB871 (runSeq iB.exec (hds 2 pB142) stB869.act stB869.st) = true := by kernel_rfl
theorem runB881 : litOk stB880 (runSeq iB.exec (hds 1 pB69) stB878.act stB878.st) = true := by kernel_rfl
theorem runB883 : litOk stB882 (runSeq iB.exec (hds 2 pB72) stB880.act stB880.st) = true := by kernel_rfl
theorem runB885 : litOk stB884 (runSeq iB.exec (hds 1 pB75) stB882.act stB882.st) = true := by kernel_rfl
theorem runB894 : litOk stB893 (runSeq iB.exec (hds 2 pB90) stB891.act stB891.st) = true := by kernel_rfl
theorem runB919 : litX .normal stB918 (iB.exec none pB114 stB912.act stB912.st) = true := by kernel_rfl
theorem runB924 : litX (.exit 0) stB923 (iB.exec none pB90 stB918.act stB918.st) = true := by kernel_rfl
theorem runB947 : litX .normal stB946 (iB.exec none pB124 stB940.act stB940.st) = true := by kernel_rfl
theorem runB952 : litX (.exit 0) stB951 (iB.exec none pB72 stB946.act stB946.st) = true := by kernel_rfl
theorem runB971 : litX .normal stB970 (iB.exec none pB176 stB965.act stB965.st) = true := by kernel_rfl
theorem runB976 : litX (.exit 0) stB975 (iB.exec none pB142 stB970.act stB970.st) = true := by kernel_rfl
theorem runB1036 : litOk stB1035 (runSeq iB.exec (hds 2 pB53) stB1033.act stB1033.st) = true := by kernel_rfl
theorem runB1045 : litOk stB1044 (runOps Tryz.prog iB (rops pB67).toList (cutOps pB67 0 2) stB1042.act stB1042.st) = true := by kernel_rfl
theorem runB1050 : litOk stB1049 (runSeq iB.exec (hds 1 pB69) stB1047.act stB1047.st) = true := by kernel_rfl
theorem runB1052 : litOk stB1051 (runSeq iB.exec (hds 2 pB72) stB1049.act stB1049.st) = true := by kernel_rfl
theorem runB1054 : litOk stB1053 (runSeq iB.exec (hds 1 pB75) stB1051.act stB1051.st) = true := by kernel_rfl
theorem runB1063 : litOk stB1062 (runSeq iB.exec (hds 2 pB90) stB1060.act stB1060.st) = true := by kernel_rfl
theorem runB1088 : litX .normal stB1087 (iB.exec none pB114 stB1081.act stB1081.st) = true := by kernel_rfl
theorem runB1093 : litX (.exit 0) stB1092 (iB.exec none pB90 stB1087.act stB1087.st) = true := by kernel_rfl
theorem runB1116 : litX .normal stB1115 (iB.exec none pB124 stB1109.act stB1109.st) = true := by kernel_rfl
theorem runB1121 : litX (.exit 0) stB1120 (iB.exec none pB72 stB1115.act stB1115.st) = true := by kernel_rfl
theorem runB1155 : litX .normal stB1154 (iB.exec none pB130 stB1148.act stB1148.st) = true := by kernel_rfl
theorem runB1160 : litX (.exit 0) stB1159 (iB.exec none pB53 stB1154.act stB1154.st) = true := by kernel_rfl
theorem runB1196 : litOk stB1195 (runSeq iB.exec (hds 2 pB142) stB1193.act stB1193.st) = true := by kernel_rfl
theorem runB1205 : litOk stB1204 (runSeq iB.exec (hds 1 pB69) stB1202.act stB1202.st) = true := by kernel_rfl
theorem runB1207 : litOk stB1206 (runSeq iB.exec (hds 2 pB72) stB1204.act stB1204.st) = true := by kernel_rfl
theorem runB1209 : litOk stB1208 (runSeq iB.exec (hds 1 pB75) stB1206.act stB1206.st) = true := by kernel_rfl
theorem runB1218 : litOk stB1217 (runSeq iB.exec (hds 2 pB90) stB1215.act stB1215.st) = true := by kernel_rfl
theorem runB1243 : litX .normal stB1242 (iB.exec none pB114 stB1236.act stB1236.st) = true := by kernel_rfl
theorem runB1248 : litX (.exit 0) stB1247 (iB.exec none pB90 stB1242.act stB1242.st) = true := by kernel_rfl
theorem runB1271 : litX .normal stB1270 (iB.exec none pB124 stB1264.act stB1264.st) = true := by kernel_rfl
theorem runB1276 : litX (.exit 0) stB1275 (iB.exec none pB72 stB1270.act stB1270.st) = true := by kernel_rfl
theorem runB1295 : litX .normal stB1294 (iB.exec none pB176 stB1289.act stB1289.st) = true := by kernel_rfl
theorem runB1300 : litX (.exit 0) stB1299 (iB.exec none pB142 stB1294.act stB1294.st) = true := by kernel_rfl
theorem runB1325 : litX (.exit 2) stB1324 (iB.exec none pB256 stB1322.act stB1322.st) = true := by kernel_rfl
theorem runB1336 : litX .normal stB1335 (iB.exec none pB271 stB1324.act stB1324.st) = true := by kernel_rfl
theorem runB1341 : litX (.exit 0) stB1340 (iB.exec none pB30 stB1335.act stB1335.st) = true := by kernel_rfl
theorem runB1389 : litOk stB1388 (runSeq iB.exec (hds 2 pB30) stB1386.act stB1386.st) = true := by kernel_rfl
theorem runB1420 : litOk stB1419 (runSeq iB.exec (hds 2 pB53) stB1417.act stB1417.st) = true := by kernel_rfl
theorem runB1429 : litOk stB1428 (runOps Tryz.prog iB (rops pB67).toList (cutOps pB67 0 2) stB1426.act stB1426.st) = true := by kernel_rfl
theorem runB1434 : litOk stB1433 (runSeq iB.exec (hds 1 pB69) stB1431.act stB1431.st) = true := by kernel_rfl
theorem runB1436 : litOk stB1435 (runSeq iB.exec (hds 2 pB72) stB1433.act stB1433.st) = true := by kernel_rfl
theorem runB1438 : litOk stB1437 (runSeq iB.exec (hds 1 pB75) stB1435.act stB1435.st) = true := by kernel_rfl
theorem runB1447 : litOk stB1446 (runSeq iB.exec (hds 2 pB90) stB1444.act stB1444.st) = true := by kernel_rfl
theorem runB1472 : litX .normal stB1471 (iB.exec none pB114 stB1465.act stB1465.st) = true := by kernel_rfl
theorem runB1477 : litX (.exit 0) stB1476 (iB.exec none pB90 stB1471.act stB1471.st) = true := by kernel_rfl
theorem runB1500 : litX .normal stB1499 (iB.exec none pB124 stB1493.act stB1493.st) = true := by kernel_rfl
theorem runB1505 : litX (.exit 0) stB1504 (iB.exec none pB72 stB1499.act stB1499.st) = true := by kernel_rfl
theorem runB1539 : litX .normal stB1538 (iB.exec none pB130 stB1532.act stB1532.st) = true := by kernel_rfl
theorem runB1544 : litX (.exit 0) stB1543 (iB.exec none pB53 stB1538.act stB1538.st) = true := by kernel_rfl
theorem runB1580 : litOk stB1579 (runSeq iB.exec (hds 2 pB142) stB1577.act stB1577.st) = true := by kernel_rfl
theorem runB1589 : litOk stB1588 (runSeq iB.exec (hds 1 pB69) stB1586.act stB1586.st) = true := by kernel_rfl
theorem runB1591 : litOk stB1590 (runSeq iB.exec (hds 2 pB72) stB1588.act stB1588.st) = true := by kernel_rfl
theorem runB1593 : litOk stB1592 (runSeq iB.exec (hds 1 pB75) stB1590.act stB1590.st) = true := by kernel_rfl
theorem runB1602 : litOk stB1601 (runSeq iB.exec (hds 2 pB90) stB1599.act stB1599.st) = true := by kernel_rfl
theorem runB1627 : litX .normal stB1626 (iB.exec none pB114 stB1620.act stB1620.st) = true := by kernel_rfl
theorem runB1632 : litX (.exit 0) stB1631 (iB.exec none pB90 stB1626.act stB1626.st) = true := by kernel_rfl
theorem runB1655 : litX .normal stB1654 (iB.exec none pB124 stB1648.act stB1648.st) = true := by kernel_rfl
theorem runB1660 : litX (.exit 0) stB1659 (iB.exec none pB72 stB1654.act stB1654.st) = true := by kernel_rfl
theorem runB1679 : litX .normal stB1678 (iB.exec none pB176 stB1673.act stB1673.st) = true := by kernel_rfl
theorem runB1684 : litX (.exit 0) stB1683 (iB.exec none pB142 stB1678.act stB1678.st) = true := by kernel_rfl
theorem runB1744 : litOk stB1743 (runSeq iB.exec (hds 2 pB53) stB1741.act stB1741.st) = true := by kernel_rfl
theorem runB1753 : litOk stB1752 (runOps Tryz.prog iB (rops pB67).toList (cutOps pB67 0 2) stB1750.act stB1750.st) = true := by kernel_rfl
theorem runB1758 : litOk stB1757 (runSeq iB.exec (hds 1 pB69) stB1755.act stB1755.st) = true := by kernel_rfl
theorem runB1760 : litOk stB1759 (runSeq iB.exec (hds 2 pB72) stB1757.act stB1757.st) = true := by kernel_rfl
theorem runB1762 : litOk stB1761 (runSeq iB.exec (hds 1 pB75) stB1759.act stB1759.st) = true := by kernel_rfl
theorem runB1771 : litOk stB1770 (runSeq iB.exec (hds 2 pB90) stB1768.act stB1768.st) = true := by kernel_rfl
theorem runB1796 : litX .normal stB1795 (iB.exec none pB114 stB1789.act stB1789.st) = true := by kernel_rfl
theorem runB1801 : litX (.exit 0) stB1800 (iB.exec none pB90 stB1795.act stB1795.st) = true := by kernel_rfl
theorem runB1824 : litX .normal stB1823 (iB.exec none pB124 stB1817.act stB1817.st) = true := by kernel_rfl
theorem runB1829 : litX (.exit 0) stB1828 (iB.exec none pB72 stB1823.act stB1823.st) = true := by kernel_rfl
theorem runB1863 : litX .normal stB1862 (iB.exec none pB130 stB1856.act stB1856.st) = true := by kernel_rfl
theorem runB1868 : litX (.exit 0) stB1867 (iB.exec none pB53 stB1862.act stB1862.st) = true := by kernel_rfl
theorem runB1904 : litOk stB1903 (runSeq iB.exec (hds 2 pB142) stB1901.act stB1901.st) = true := by kernel_rfl
theorem runB1913 : litOk stB1912 (runSeq iB.exec (hds 1 pB69) stB1910.act stB1910.st) = true := by kernel_rfl
theorem runB1915 : litOk stB1914 (runSeq iB.exec (hds 2 pB72) stB1912.act stB1912.st) = true := by kernel_rfl
theorem runB1917 : litOk stB1916 (runSeq iB.exec (hds 1 pB75) stB1914.act stB1914.st) = true := by kernel_rfl
theorem runB1926 : litOk stB1925 (runSeq iB.exec (hds 2 pB90) stB1923.act stB1923.st) = true := by kernel_rfl
theorem runB1951 : litX .normal stB1950 (iB.exec none pB114 stB1944.act stB1944.st) = true := by kernel_rfl
theorem runB1956 : litX (.exit 0) stB1955 (iB.exec none pB90 stB1950.act stB1950.st) = true := by kernel_rfl
theorem runB1979 : litX .normal stB1978 (iB.exec none pB124 stB1972.act stB1972.st) = true := by kernel_rfl
theorem runB1984 : litX (.exit 0) stB1983 (iB.exec none pB72 stB1978.act stB1978.st) = true := by kernel_rfl
theorem runB2003 : litX .normal stB2002 (iB.exec none pB176 stB1997.act stB1997.st) = true := by kernel_rfl
theorem runB2008 : litX (.exit 0) stB2007 (iB.exec none pB142 stB2002.act stB2002.st) = true := by kernel_rfl
theorem runB2033 : litX (.exit 2) stB2032 (iB.exec none pB256 stB2030.act stB2030.st) = true := by kernel_rfl
theorem runB2044 : litX .normal stB2043 (iB.exec none pB271 stB2032.act stB2032.st) = true := by kernel_rfl
theorem runB2049 : litOk stB2048 (runSeq iB.exec (hds 2 pB30) stB2043.act stB2043.st) = true := by kernel_rfl
theorem runB2125 : litX .normal stB2124 (iB.exec none pB271 stB2116.act stB2116.st) = true := by kernel_rfl
theorem runB2130 : litX (.exit 0) stB2129 (iB.exec none pB30 stB2124.act stB2124.st) = true := by kernel_rfl
theorem runB2155 : litOk stB2154 (runOps Tryz.prog iB (rops pB16).toList ((rops pB16).toList.drop 14) stB2152.act stB2152.st) = true := by kernel_rfl
theorem runA9 : litOk stA8 (runOps Tryz.prog iA (rops pA30).toList (cutOps pA30 0 1) stA6.act stA6.st) = true := by kernel_rfl
theorem runA14 : litOk stA13 (runOps Tryz.prog iA (rops pA32).toList (cutOps pA32 0 1) stA11.act stA11.st) = true := by kernel_rfl
theorem runA25 : litOk stA24 (runOps Tryz.prog iA (rops pA48).toList (cutOps pA48 0 1) stA22.act stA22.st) = true := by kernel_rfl
theorem runA30 : litOk stA29 (runOps Tryz.prog iA (rops pA50).toList (cutOps pA50 0 1) stA27.act stA27.st) = true := by kernel_rfl
theorem runA35 : litOk stA34 (runOps Tryz.prog iA (rops pA52).toList (cutOps pA52 0 1) stA32.act stA32.st) = true := by kernel_rfl
theorem runA40 : litOk stA39 (runOps Tryz.prog iA (rops pA55).toList (cutOps pA55 0 1) stA37.act stA37.st) = true := by kernel_rfl
theorem runA45 : litOk stA44 (runOps Tryz.prog iA (rops pA57).toList (cutOps pA57 0 1) stA42.act stA42.st) = true := by kernel_rfl
theorem runA93 : litOk stA92 (match stA82.act.put (some 60) (vvA123) with | some a => some (.normal, a, stA87.st) | none => none) = true := by kernel_rfl
theorem runA121 : litOk stA120 (match stA71.act.put (some 29) (vvA132) with | some a => some (.normal, a, stA114.st) | none => none) = true := by kernel_rfl
theorem runA149 : litOk stA148 (match stA60.act.put (some 11) (vvA137) with | some a => some (.normal, a, stA142.st) | none => none) = true := by kernel_rfl
theorem runA160 : litOk stA159 (match stA55.act.put (some 40) (.tuple #[.int .i64 2, .int .i64 0]) with | some a => some (.normal, a, stA153.st) | none => none) = true := by kernel_rfl
theorem runA188 : litOk stA187 (match stA44.act.put (some 11) (vvA143) with | some a => some (.normal, a, stA181.st) | none => none) = true := by kernel_rfl
theorem runA199 : litOk stA198 (match stA39.act.put (some 18) (.tuple #[.int .i64 2, .int .i64 0]) with | some a => some (.normal, a, stA192.st) | none => none) = true := by kernel_rfl
theorem runA248 : litOk stA247 (match stA237.act.put (some 60) (vvA177) with | some a => some (.normal, a, stA242.st) | none => none) = true := by kernel_rfl
theorem runA276 : litOk stA275 (match stA226.act.put (some 29) (vvA183) with | some a => some (.normal, a, stA269.st) | none => none) = true := by kernel_rfl
theorem runA304 : litOk stA303 (match stA215.act.put (some 52) (vvA185) with | some a => some (.normal, a, stA297.st) | none => none) = true := by kernel_rfl
theorem runA330 : litOk stA329 (match stA34.act.put (some 14) (vvA192) with | some a => some (.normal, a, stA321.st) | none => none) = true := by kernel_rfl
theorem runA341 : litOk stA340 (match stA29.act.put (some 13) (vvA195) with | some a => some (.normal, a, stA334.st) | none => none) = true := by kernel_rfl
theorem runA352 : litOk stA351 (match stA24.act.put (some 34) (vvA198) with | some a => some (.normal, a, stA345.st) | none => none) = true := by kernel_rfl
theorem runA359 : litOk stA358 (runOps Tryz.prog iA (rops pA201).toList (cutOps pA201 0 1) stA356.act stA356.st) = true := by kernel_rfl
theorem runA364 : litOk stA363 (runOps Tryz.prog iA (rops pA55).toList (cutOps pA55 0 1) stA361.act stA361.st) = true := by kernel_rfl
theorem runA369 : litOk stA368 (runOps Tryz.prog iA (rops pA57).toList (cutOps pA57 0 1) stA366.act stA366.st) = true := by kernel_rfl
theorem runA417 : litOk stA416 (match stA406.act.put (some 60) (vvA222) with | some a => some (.normal, a, stA411.st) | none => none) = true := by kernel_rfl
theorem runA445 : litOk stA444 (match stA395.act.put (some 29) (vvA228) with | some a => some (.normal, a, stA438.st) | none => none) = true := by kernel_rfl
theorem runA473 : litOk stA472 (match stA384.act.put (some 11) (vvA230) with | some a => some (.normal, a, stA466.st) | none => none) = true := by kernel_rfl
theorem runA484 : litOk stA483 (match stA379.act.put (some 40) (.tuple #[.int .i64 2, .int .i64 0]) with | some a => some (.normal, a, stA477.st) | none => none) = true := by kernel_rfl
theorem runA512 : litOk stA511 (match stA368.act.put (some 11) (vvA231) with | some a => some (.normal, a, stA505.st) | none => none) = true := by kernel_rfl
theorem runA523 : litOk stA522 (match stA363.act.put (some 18) (.tuple #[.int .i64 2, .int .i64 0]) with | some a => some (.normal, a, stA516.st) | none => none) = true := by kernel_rfl
theorem runA572 : litOk stA571 (match stA561.act.put (some 60) (vvA252) with | some a => some (.normal, a, stA566.st) | none => none) = true := by kernel_rfl
theorem runA600 : litOk stA599 (match stA550.act.put (some 29) (vvA258) with | some a => some (.normal, a, stA593.st) | none => none) = true := by kernel_rfl
theorem runA628 : litOk stA627 (match stA539.act.put (some 52) (vvA260) with | some a => some (.normal, a, stA621.st) | none => none) = true := by kernel_rfl
theorem runA654 : litOk stA653 (match stA358.act.put (some 48) (vvA263) with | some a => some (.normal, a, stA645.st) | none => none) = true := by kernel_rfl
theorem runA685 : litOk stA684 (runOps Tryz.prog iA (rops pA48).toList (cutOps pA48 0 1) stA682.act stA682.st) = true := by kernel_rfl
theorem runA690 : litOk stA689 (runOps Tryz.prog iA (rops pA50).toList (cutOps pA50 0 1) stA687.act stA687.st) = true := by kernel_rfl
theorem runA695 : litOk stA694 (runOps Tryz.prog iA (rops pA52).toList (cutOps pA52 0 1) stA692.act stA692.st) = true := by kernel_rfl
theorem runA705 : litOk stA704 (match stA694.act.put (some 14) (vvA289) with | some a => some (.normal, a, stA699.st) | none => none) = true := by kernel_rfl
theorem runA716 : litOk stA715 (match stA689.act.put (some 13) (vvA290) with | some a => some (.normal, a, stA709.st) | none => none) = true := by kernel_rfl
theorem runA727 : litOk stA726 (match stA684.act.put (some 34) (vvA291) with | some a => some (.normal, a, stA720.st) | none => none) = true := by kernel_rfl
theorem runA734 : litOk stA733 (runOps Tryz.prog iA (rops pA201).toList (cutOps pA201 0 1) stA731.act stA731.st) = true := by kernel_rfl
theorem runA744 : litOk stA743 (match stA733.act.put (some 48) (vvA294) with | some a => some (.normal, a, stA738.st) | none => none) = true := by kernel_rfl
theorem runA774 : litOk stA773 (match stA13.act.put (some 12) (vvA302) with | some a => some (.normal, a, stA767.st) | none => none) = true := by kernel_rfl
theorem runA785 : litOk stA784 (match stA8.act.put (some 10) (vvA304) with | some a => some (.normal, a, stA778.st) | none => none) = true := by kernel_rfl
theorem runA796 : litOk stA795 (match stA3.act.put (some 50) (vt) with | some a => some (.normal, a, stA789.st) | none => none) = true := by kernel_rfl
theorem runA801 : finOk Tryz.prog Tryz.f22.results.toList (vt) stA800 (iA.exec none pA306 stA797.act stA797.st) = true := by kernel_rfl
theorem runB9 : litOk stB8 (runOps Tryz.prog iB (rops pB19).toList (cutOps pB19 0 1) stB6.act stB6.st) = true := by kernel_rfl
theorem runB14 : litOk stB13 (runOps Tryz.prog iB (rops pB21).toList (cutOps pB21 0 1) stB11.act stB11.st) = true := by kernel_rfl
theorem runB25 : litOk stB24 (runOps Tryz.prog iB (rops pB37).toList (cutOps pB37 0 1) stB22.act stB22.st) = true := by kernel_rfl
theorem runB30 : litOk stB29 (runOps Tryz.prog iB (rops pB39).toList (cutOps pB39 0 1) stB27.act stB27.st) = true := by kernel_rfl
theorem runB35 : litOk stB34 (runOps Tryz.prog iB (rops pB41).toList (cutOps pB41 0 1) stB32.act stB32.st) = true := by kernel_rfl
theorem runB40 : litOk stB39 (runOps Tryz.prog iB (rops pB44).toList (cutOps pB44 0 1) stB37.act stB37.st) = true := by kernel_rfl
theorem runB45 : litOk stB44 (runOps Tryz.prog iB (rops pB46).toList (cutOps pB46 0 1) stB42.act stB42.st) = true := by kernel_rfl
theorem runB93 : litOk stB92 (match stB82.act.put (some 60) (vvB112) with | some a => some (.normal, a, stB87.st) | none => none) = true := by kernel_rfl
theorem runB121 : litOk stB120 (match stB71.act.put (some 29) (vvB121) with | some a => some (.normal, a, stB114.st) | none => none) = true := by kernel_rfl

end Go.Proofs.YtpndamekpdajmaaGreatDoor

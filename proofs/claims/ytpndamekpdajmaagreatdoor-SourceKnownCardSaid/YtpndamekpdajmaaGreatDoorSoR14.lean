/-
  The chapter's examples, stages.
-/
import Derived.Test.YtpndamekpdajmaaGreatDoorSo1
namespace Go.Proofs.YtpndamekpdajmaaGreatDoor
open Go.Cm

set_option maxRecDepth 100000
theorem runB746 : litOk stB745 (runSeq iB.exec (hds 3 cdB110) ({ n := 62, t := PT.ofList 0 (PT.nil 8) vsB744, defers := [] }) stB742.st) = true := by kernel_rfl
theorem runA594 : finOk Tryz.prog Tryz.f88.results.toList (vvA258) stA593 (iA.exec none pA126 stA587.act stA587.st) = true := by kernel_rfl
theorem runB115 : finOk Tryz.prog Tryz.f88.results.toList (vvB121) stB114 (iB.exec none pB115 stB108.act stB108.st) = true := by kernel_rfl
theorem runB594 : finOk Tryz.prog Tryz.f88.results.toList (vvB247) stB593 (iB.exec none pB115 stB587.act stB587.st) = true := by kernel_rfl
theorem runB775 : finOk Tryz.prog Tryz.f88.results.toList (vvB307) stB774 (iB.exec none pB115 stB768.act stB768.st) = true := by kernel_rfl
theorem runB930 : finOk Tryz.prog Tryz.f88.results.toList (vvB337) stB929 (iB.exec none pB115 stB923.act stB923.st) = true := by kernel_rfl
theorem runB1099 : finOk Tryz.prog Tryz.f88.results.toList (vvB375) stB1098 (iB.exec none pB115 stB1092.act stB1092.st) = true := by kernel_rfl
theorem runB1638 : finOk Tryz.prog Tryz.f88.results.toList (vvB496) stB1637 (iB.exec none pB115 stB1631.act stB1631.st) = true := by kernel_rfl
theorem runA270 : finOk Tryz.prog Tryz.f88.results.toList (vvA183) stA269 (iA.exec none pA126 stA263.act stA263.st) = true := by kernel_rfl
theorem runB270 : finOk Tryz.prog Tryz.f88.results.toList (vvB172) stB269 (iB.exec none pB115 stB263.act stB263.st) = true := by kernel_rfl
theorem runB439 : finOk Tryz.prog Tryz.f88.results.toList (vvB217) stB438 (iB.exec none pB115 stB432.act stB432.st) = true := by kernel_rfl
theorem runB1254 : finOk Tryz.prog Tryz.f88.results.toList (vvB405) stB1253 (iB.exec none pB115 stB1247.act stB1247.st) = true := by kernel_rfl
theorem runB1483 : finOk Tryz.prog Tryz.f88.results.toList (vvB466) stB1482 (iB.exec none pB115 stB1476.act stB1476.st) = true := by kernel_rfl
theorem runB1807 : finOk Tryz.prog Tryz.f88.results.toList (vvB531) stB1806 (iB.exec none pB115 stB1800.act stB1800.st) = true := by kernel_rfl
theorem runB1962 : finOk Tryz.prog Tryz.f88.results.toList (vvB561) stB1961 (iB.exec none pB115 stB1955.act stB1955.st) = true := by kernel_rfl
theorem runB1006 : finOk Tryz.prog Tryz.f43.results.toList (vvB348) stB1005 (iB.exec none pB185 stB1002.act stB1002.st) = true := by kernel_rfl
theorem runB1714 : finOk Tryz.prog Tryz.f43.results.toList (vvB504) stB1713 (iB.exec none pB185 stB1710.act stB1710.st) = true := by kernel_rfl
theorem runB1369 : finOk Tryz.prog Tryz.f11.results.toList (vt) stB1368 (iB.exec none pB428 stB1365.act stB1365.st) = true := by kernel_rfl
theorem runB1382 : litOk stB1381 (runOps Tryz.prog iB (rops pB430).toList (cutOps pB430 0 1) stB1379.act stB1379.st) = true := by kernel_rfl
theorem runA193 : finOk Tryz.prog Tryz.f59.results.toList (.tuple #[.int .i64 2, .int .i64 0]) stA192 (iA.exec none pA144 stA189.act stA189.st) = true := by kernel_rfl
theorem runA517 : finOk Tryz.prog Tryz.f59.results.toList (.tuple #[.int .i64 2, .int .i64 0]) stA516 (iA.exec none pA144 stA513.act stA513.st) = true := by kernel_rfl
theorem runB193 : finOk Tryz.prog Tryz.f59.results.toList (.tuple #[.int .i64 2, .int .i64 0]) stB192 (iB.exec none pB133 stB189.act stB189.st) = true := by kernel_rfl
theorem runB517 : finOk Tryz.prog Tryz.f59.results.toList (.tuple #[.int .i64 2, .int .i64 0]) stB516 (iB.exec none pB133 stB513.act stB513.st) = true := by kernel_rfl
theorem runB853 : finOk Tryz.prog Tryz.f59.results.toList (.tuple #[.int .i64 2, .int .i64 0]) stB852 (iB.exec none pB133 stB849.act stB849.st) = true := by kernel_rfl
theorem runB1177 : finOk Tryz.prog Tryz.f59.results.toList (.tuple #[.int .i64 2, .int .i64 0]) stB1176 (iB.exec none pB133 stB1173.act stB1173.st) = true := by kernel_rfl
theorem runB1561 : finOk Tryz.prog Tryz.f59.results.toList (.tuple #[.int .i64 2, .int .i64 0]) stB1560 (iB.exec none pB133 stB1557.act stB1557.st) = true := by kernel_rfl
theorem runB1885 : finOk Tryz.prog Tryz.f59.results.toList (.tuple #[.int .i64 2, .int .i64 0]) stB1884 (iB.exec none pB133 stB1881.act stB1881.st) = true := by kernel_rfl
theorem runA450 : litX .normal stA449 (iA.exec none pA133 stA446.act stA446.st) = true := by kernel_rfl
theorem runA605 : litX .normal stA604 (iA.exec none pA133 stA601.act stA601.st) = true := by kernel_rfl
theorem runB126 : litX .normal stB125 (iB.exec none pB122 stB122.act stB122.st) = true := by kernel_rfl
theorem runB281 : litX .normal stB280 (iB.exec none pB122 stB277.act stB277.st) = true := by kernel_rfl
theorem runB605 : litX .normal stB604 (iB.exec none pB122 stB601.act stB601.st) = true := by kernel_rfl
theorem runB786 : litX .normal stB785 (iB.exec none pB122 stB782.act stB782.st) = true := by kernel_rfl
theorem runB941 : litX .normal stB940 (iB.exec none pB122 stB937.act stB937.st) = true := by kernel_rfl
theorem runB1110 : litX .normal stB1109 (iB.exec none pB122 stB1106.act stB1106.st) = true := by kernel_rfl
theorem runB1265 : litX .normal stB1264 (iB.exec none pB122 stB1261.act stB1261.st) = true := by kernel_rfl
theorem runB1494 : litX .normal stB1493 (iB.exec none pB122 stB1490.act stB1490.st) = true := by kernel_rfl
theorem runB1649 : litX .normal stB1648 (iB.exec none pB122 stB1645.act stB1645.st) = true := by kernel_rfl
theorem runB1818 : litX .normal stB1817 (iB.exec none pB122 stB1814.act stB1814.st) = true := by kernel_rfl
theorem runB1973 : litX .normal stB1972 (iB.exec none pB122 stB1969.act stB1969.st) = true := by kernel_rfl
theorem runA357 : litOk stA356 (runSeq iA.exec (hds 2 pA199) stA353.act stA353.st) = true := by kernel_rfl
theorem runA659 : litOk stA658 (runSeq iA.exec (hds 2 pA264) stA655.act stA655.st) = true := by kernel_rfl
theorem runA732 : litOk stA731 (runSeq iA.exec (hds 2 pA199) stA728.act stA728.st) = true := by kernel_rfl
theorem runB357 : litOk stB356 (runSeq iB.exec (hds 2 pB188) stB353.act stB353.st) = true := by kernel_rfl
theorem runB659 : litOk stB658 (runSeq iB.exec (hds 2 pB253) stB655.act stB655.st) = true := by kernel_rfl
theorem runB1017 : litOk stB1016 (runSeq iB.exec (hds 2 pB188) stB1013.act stB1013.st) = true := by kernel_rfl
theorem runB1319 : litOk stB1318 (runSeq iB.exec (hds 2 pB253) stB1315.act stB1315.st) = true := by kernel_rfl
theorem runB1725 : litOk stB1724 (runSeq iB.exec (hds 2 pB188) stB1721.act stB1721.st) = true := by kernel_rfl
theorem runB2027 : litOk stB2026 (runSeq iB.exec (hds 2 pB253) stB2023.act stB2023.st) = true := by kernel_rfl
theorem runB2100 : litOk stB2099 (runSeq iB.exec (hds 2 pB188) stB2096.act stB2096.st) = true := by kernel_rfl
theorem runB4 : litOk stB3 (runOps Tryz.prog iB (rops pB16).toList (cutOps pB16 0 9) stB1.act stB1.st) = true := by kernel_rfl
theorem runA165 : litX .normal stA164 (iA.exec none pA139 stA161.act stA161.st) = true := by kernel_rfl
theorem runA298 : finOk Tryz.prog Tryz.f62.results.toList (vvA185) stA297 (iA.exec none pA136 stA291.act stA291.st) = true := by kernel_rfl
theorem runA467 : finOk Tryz.prog Tryz.f62.results.toList (vvA230) stA466 (iA.exec none pA136 stA460.act stA460.st) = true := by kernel_rfl
theorem runA489 : litX .normal stA488 (iA.exec none pA139 stA485.act stA485.st) = true := by kernel_rfl
theorem runA622 : finOk Tryz.prog Tryz.f62.results.toList (vvA260) stA621 (iA.exec none pA136 stA615.act stA615.st) = true := by kernel_rfl
theorem runB143 : finOk Tryz.prog Tryz.f62.results.toList (vvB126) stB142 (iB.exec none pB125 stB136.act stB136.st) = true := by kernel_rfl
theorem runB165 : litX .normal stB164 (iB.exec none pB128 stB161.act stB161.st) = true := by kernel_rfl
theorem runB467 : finOk Tryz.prog Tryz.f62.results.toList (vvB219) stB466 (iB.exec none pB125 stB460.act stB460.st) = true := by kernel_rfl
theorem runB489 : litX .normal stB488 (iB.exec none pB128 stB485.act stB485.st) = true := by kernel_rfl
theorem runB622 : finOk Tryz.prog Tryz.f62.results.toList (vvB249) stB621 (iB.exec none pB125 stB615.act stB615.st) = true := by kernel_rfl
theorem runB803 : finOk Tryz.prog Tryz.f62.results.toList (vvB309) stB802 (iB.exec none pB125 stB796.act stB796.st) = true := by kernel_rfl
theorem runB825 : litX .normal stB824 (iB.exec none pB128 stB821.act stB821.st) = true := by kernel_rfl
theorem runB958 : finOk Tryz.prog Tryz.f62.results.toList (vvB339) stB957 (iB.exec none pB125 stB951.act stB951.st) = true := by kernel_rfl
theorem runB1127 : finOk Tryz.prog Tryz.f62.results.toList (vvB377) stB1126 (iB.exec none pB125 stB1120.act stB1120.st) = true := by kernel_rfl
theorem runB1149 : litX .normal stB1148 (iB.exec none pB128 stB1145.act stB1145.st) = true := by kernel_rfl
theorem runB1282 : finOk Tryz.prog Tryz.f62.results.toList (vvB407) stB1281 (iB.exec none pB125 stB1275.act stB1275.st) = true := by kernel_rfl
theorem runB1511 : finOk Tryz.prog Tryz.f62.results.toList (vvB468) stB1510 (iB.exec none pB125 stB1504.act stB1504.st) = true := by kernel_rfl
theorem runB1533 : litX .normal stB1532 (iB.exec none pB128 stB1529.act stB1529.st) = true := by kernel_rfl
theorem runB1666 : finOk Tryz.prog Tryz.f62.results.toList (vvB498) stB1665 (iB.exec none pB125 stB1659.act stB1659.st) = true := by kernel_rfl
theorem runB1835 : finOk Tryz.prog Tryz.f62.results.toList (vvB533) stB1834 (iB.exec none pB125 stB1828.act stB1828.st) = true := by kernel_rfl
theorem runB1857 : litX .normal stB1856 (iB.exec none pB128 stB1853.act stB1853.st) = true := by kernel_rfl
theorem runB1990 : finOk Tryz.prog Tryz.f62.results.toList (vvB563) stB1989 (iB.exec none pB125 stB1983.act stB1983.st) = true := by kernel_rfl
theorem runA343 : litOk stA342 (runOps Tryz.prog iA (rops pA50).toList ((rops pA50).toList.drop 2) stA340.act stA340.st) = true := by kernel_rfl
theorem runA718 : litOk stA717 (runOps Tryz.prog iA (rops pA50).toList ((rops pA50).toList.drop 2) stA715.act stA715.st) = true := by kernel_rfl
theorem runB343 : litOk stB342 (runOps Tryz.prog iB (rops pB39).toList ((rops pB39).toList.drop 2) stB340.act stB340.st) = true := by kernel_rfl
theorem runB1003 : litOk stB1002 (runOps Tryz.prog iB (rops pB39).toList ((rops pB39).toList.drop 2) stB1000.act stB1000.st) = true := by kernel_rfl
theorem runB1711 : litOk stB1710 (runOps Tryz.prog iB (rops pB39).toList ((rops pB39).toList.drop 2) stB1708.act stB1708.st) = true := by kernel_rfl
theorem runB2086 : litOk stB2085 (runOps Tryz.prog iB (rops pB39).toList ((rops pB39).toList.drop 2) stB2083.act stB2083.st) = true := by kernel_rfl
theorem runA23 : litOk stA22 (runSeq iA.exec (hds 1 pA44) stA20.act stA20.st) = true := by kernel_rfl
theorem runA154 : finOk Tryz.prog Tryz.f100.results.toList (.tuple #[.int .i64 2, .int .i64 0]) stA153 (iA.exec none pA138 stA150.act stA150.st) = true := by kernel_rfl
theorem runA478 : finOk Tryz.prog Tryz.f100.results.toList (.tuple #[.int .i64 2, .int .i64 0]) stA477 (iA.exec none pA138 stA474.act stA474.st) = true := by kernel_rfl
theorem runA683 : litOk stA682 (runSeq iA.exec (hds 1 pA44) stA680.act stA680.st) = true := by kernel_rfl
theorem runB23 : litOk stB22 (runSeq iB.exec (hds 1 pB33) stB20.act stB20.st) = true := by kernel_rfl
theorem runB154 : finOk Tryz.prog Tryz.f100.results.toList (.tuple #[.int .i64 2, .int .i64 0]) stB153 (iB.exec none pB127 stB150.act stB150.st) = true := by kernel_rfl
theorem runB478 : finOk Tryz.prog Tryz.f100.results.toList (.tuple #[.int .i64 2, .int .i64 0]) stB477 (iB.exec none pB127 stB474.act stB474.st) = true := by kernel_rfl
theorem runB683 : litOk stB682 (runSeq iB.exec (hds 1 pB33) stB680.act stB680.st) = true := by kernel_rfl
theorem runB814 : finOk Tryz.prog Tryz.f100.results.toList (.tuple #[.int .i64 2, .int .i64 0]) stB813 (iB.exec none pB127 stB810.act stB810.st) = true := by kernel_rfl
theorem runB1138 : finOk Tryz.prog Tryz.f100.results.toList (.tuple #[.int .i64 2, .int .i64 0]) stB1137 (iB.exec none pB127 stB1134.act stB1134.st) = true := by kernel_rfl
theorem runB1391 : litOk stB1390 (runSeq iB.exec (hds 1 pB33) stB1388.act stB1388.st) = true := by kernel_rfl
theorem runB1522 : finOk Tryz.prog Tryz.f100.results.toList (.tuple #[.int .i64 2, .int .i64 0]) stB1521 (iB.exec none pB127 stB1518.act stB1518.st) = true := by kernel_rfl
theorem runB1846 : finOk Tryz.prog Tryz.f100.results.toList (.tuple #[.int .i64 2, .int .i64 0]) stB1845 (iB.exec none pB127 stB1842.act stB1842.st) = true := by kernel_rfl
theorem runB2051 : litOk stB2050 (runSeq iB.exec (hds 1 pB33) stB2048.act stB2048.st) = true := by kernel_rfl
theorem runA95 : litOk stA94 (runOps Tryz.prog iA (rops pA106).toList ((rops pA106).toList.drop 4) stA92.act stA92.st) = true := by kernel_rfl
theorem runA123 : litOk stA122 (runOps Tryz.prog iA (rops pA88).toList ((rops pA88).toList.drop 4) stA120.act stA120.st) = true := by kernel_rfl
theorem runA151 : litOk stA150 (runOps Tryz.prog iA (rops pA78).toList ((rops pA78).toList.drop 3) stA148.act stA148.st) = true := by kernel_rfl
theorem runA162 : litOk stA161 (runOps Tryz.prog iA (rops pA74).toList ((rops pA74).toList.drop 4) stA159.act stA159.st) = true := by kernel_rfl
theorem runA190 : litOk stA189 (runOps Tryz.prog iA (rops pA57).toList ((rops pA57).toList.drop 2) stA187.act stA187.st) = true := by kernel_rfl
theorem runA201 : litOk stA200 (runOps Tryz.prog iA (rops pA55).toList ((rops pA55).toList.drop 2) stA198.act stA198.st) = true := by kernel_rfl
theorem runA216 : litOk stA215 (runOps Tryz.prog iA (rops pA160).toList (cutOps pA160 0 5) stA213.act stA213.st) = true := by kernel_rfl
theorem runA250 : litOk stA249 (runOps Tryz.prog iA (rops pA106).toList ((rops pA106).toList.drop 4) stA247.act stA247.st) = true := by kernel_rfl
theorem runA278 : litOk stA277 (runOps Tryz.prog iA (rops pA88).toList ((rops pA88).toList.drop 4) stA275.act stA275.st) = true := by kernel_rfl
theorem runA306 : litOk stA305 (runOps Tryz.prog iA (rops pA160).toList ((rops pA160).toList.drop 6) stA303.act stA303.st) = true := by kernel_rfl
theorem runA332 : litOk stA331 (runOps Tryz.prog iA (rops pA52).toList ((rops pA52).toList.drop 2) stA329.act stA329.st) = true := by kernel_rfl
theorem runA354 : litOk stA353 (runOps Tryz.prog iA (rops pA48).toList ((rops pA48).toList.drop 2) stA351.act stA351.st) = true := by kernel_rfl
theorem runA419 : litOk stA418 (runOps Tryz.prog iA (rops pA106).toList ((rops pA106).toList.drop 4) stA416.act stA416.st) = true := by kernel_rfl
theorem runA447 : litOk stA446 (runOps Tryz.prog iA (rops pA88).toList ((rops pA88).toList.drop 4) stA444.act stA444.st) = true := by kernel_rfl
theorem runA475 : litOk stA474 (runOps Tryz.prog iA (rops pA78).toList ((rops pA78).toList.drop 3) stA472.act stA472.st) = true := by kernel_rfl
theorem runA486 : litOk stA485 (runOps Tryz.prog iA (rops pA74).toList ((rops pA74).toList.drop 4) stA483.act stA483.st) = true := by kernel_rfl
theorem runA514 : litOk stA513 (runOps Tryz.prog iA (rops pA57).toList ((rops pA57).toList.drop 2) stA511.act stA511.st) = true := by kernel_rfl
theorem runA525 : litOk stA524 (runOps Tryz.prog iA (rops pA55).toList ((rops pA55).toList.drop 2) stA522.act stA522.st) = true := by kernel_rfl
theorem runA540 : litOk stA539 (runOps Tryz.prog iA (rops pA160).toList (cutOps pA160 0 5) stA537.act stA537.st) = true := by kernel_rfl
theorem runA574 : litOk stA573 (runOps Tryz.prog iA (rops pA106).toList ((rops pA106).toList.drop 4) stA571.act stA571.st) = true := by kernel_rfl
theorem runA602 : litOk stA601 (runOps Tryz.prog iA (rops pA88).toList ((rops pA88).toList.drop 4) stA599.act stA599.st) = true := by kernel_rfl
theorem runA630 : litOk stA629 (runOps Tryz.prog iA (rops pA160).toList ((rops pA160).toList.drop 6) stA627.act stA627.st) = true := by kernel_rfl
theorem runA656 : litOk stA655 (runOps Tryz.prog iA (rops pA201).toList ((rops pA201).toList.drop 2) stA653.act stA653.st) = true := by kernel_rfl
theorem runA707 : litOk stA706 (runOps Tryz.prog iA (rops pA52).toList ((rops pA52).toList.drop 2) stA704.act stA704.st) = true := by kernel_rfl
theorem runA729 : litOk stA728 (runOps Tryz.prog iA (rops pA48).toList ((rops pA48).toList.drop 2) stA726.act stA726.st) = true := by kernel_rfl
theorem runA746 : litOk stA745 (runOps Tryz.prog iA (rops pA201).toList ((rops pA201).toList.drop 2) stA743.act stA743.st) = true := by kernel_rfl
theorem runA776 : litOk stA775 (runOps Tryz.prog iA (rops pA32).toList ((rops pA32).toList.drop 2) stA773.act stA773.st) = true := by kernel_rfl
theorem runA787 : litOk stA786 (runOps Tryz.prog iA (rops pA30).toList ((rops pA30).toList.drop 2) stA784.act stA784.st) = true := by kernel_rfl
theorem runB95 : litOk stB94 (runOps Tryz.prog iB (rops pB95).toList ((rops pB95).toList.drop 4) stB92.act stB92.st) = true := by kernel_rfl
theorem runB123 : litOk stB122 (runOps Tryz.prog iB (rops pB77).toList ((rops pB77).toList.drop 4) stB120.act stB120.st) = true := by kernel_rfl
theorem runB151 : litOk stB150 (runOps Tryz.prog iB (rops pB67).toList ((rops pB67).toList.drop 3) stB148.act stB148.st) = true := by kernel_rfl
theorem runB162 : litOk stB161 (runOps Tryz.prog iB (rops pB63).toList ((rops pB63).toList.drop 4) stB159.act stB159.st) = true := by kernel_rfl
theorem runB190 : litOk stB189 (runOps Tryz.prog iB (rops pB46).toList ((rops pB46).toList.drop 2) stB187.act stB187.st) = true := by kernel_rfl
theorem runB201 : litOk stB200 (runOps Tryz.prog iB (rops pB44).toList ((rops pB44).toList.drop 2) stB198.act stB198.st) = true := by kernel_rfl
theorem runB216 : litOk stB215 (runOps Tryz.prog iB (rops pB149).toList (cutOps pB149 0 5) stB213.act stB213.st) = true := by kernel_rfl
theorem runB250 : litOk stB249 (runOps Tryz.prog iB (rops pB95).toList ((rops pB95).toList.drop 4) stB247.act stB247.st) = true := by kernel_rfl
theorem runB278 : litOk stB277 (runOps Tryz.prog iB (rops pB77).toList ((rops pB77).toList.drop 4) stB275.act stB275.st) = true := by kernel_rfl
theorem runB306 : litOk stB305 (runOps Tryz.prog iB (rops pB149).toList ((rops pB149).toList.drop 6) stB303.act stB303.st) = true := by kernel_rfl
theorem runB332 : litOk stB331 (runOps Tryz.prog iB (rops pB41).toList ((rops pB41).toList.drop 2) stB329.act stB329.st) = true := by kernel_rfl
theorem runB354 : litOk stB353 (runOps Tryz.prog iB (rops pB37).toList ((rops pB37).toList.drop 2) stB351.act stB351.st) = true := by kernel_rfl
theorem runB419 : litOk stB418 (runOps Tryz.prog iB (rops pB95).toList ((rops pB95).toList.drop 4) stB416.act stB416.st) = true := by kernel_rfl
theorem runB447 : litOk stB446 (runOps Tryz.prog iB (rops pB77).toList ((rops pB77).toList.drop 4) stB444.act stB444.st) = true := by kernel_rfl
theorem runB475 : litOk stB474 (runOps Tryz.prog iB (rops pB67).toList ((rops pB67).toList.drop 3) stB472.act stB472.st) = true := by kernel_rfl
theorem runB486 : litOk stB485 (runOps Tryz.prog iB (rops pB63).toList ((rops pB63).toList.drop 4) stB483.act stB483.st) = true := by kernel_rfl
theorem runB514 : litOk stB513 (runOps Tryz.prog iB (rops pB46).toList ((rops pB46).toList.drop 2) stB511.act stB511.st) = true := by kernel_rfl
theorem runB525 : litOk stB524 (runOps Tryz.prog iB (rops pB44).toList ((rops pB44).toList.drop 2) stB522.act stB522.st) = true := by kernel_rfl
theorem runB540 : litOk stB539 (runOps Tryz.prog iB (rops pB149).toList (cutOps pB149 0 5) stB537.act stB537.st) = true := by kernel_rfl
theorem runB574 : litOk stB573 (runOps Tryz.prog iB (rops pB95).toList ((rops pB95).toList.drop 4) stB571.act stB571.st) = true := by kernel_rfl
theorem runB602 : litOk stB601 (runOps Tryz.prog iB (rops pB77).toList ((rops pB77).toList.drop 4) stB599.act stB599.st) = true := by kernel_rfl
theorem runB630 : litOk stB629 (runOps Tryz.prog iB (rops pB149).toList ((rops pB149).toList.drop 6) stB627.act stB627.st) = true := by kernel_rfl
theorem runB656 : litOk stB655 (runOps Tryz.prog iB (rops pB190).toList ((rops pB190).toList.drop 2) stB653.act stB653.st) = true := by kernel_rfl
theorem runB755 : litOk stB754 (runOps Tryz.prog iB (rops pB95).toList ((rops pB95).toList.drop 4) stB752.act stB752.st) = true := by kernel_rfl
theorem runB783 : litOk stB782 (runOps Tryz.prog iB (rops pB77).toList ((rops pB77).toList.drop 4) stB780.act stB780.st) = true := by kernel_rfl
theorem runB811 : litOk stB810 (runOps Tryz.prog iB (rops pB67).toList ((rops pB67).toList.drop 3) stB808.act stB808.st) = true := by kernel_rfl
theorem runB822 : litOk stB821 (runOps Tryz.prog iB (rops pB63).toList ((rops pB63).toList.drop 4) stB819.act stB819.st) = true := by kernel_rfl
theorem runB850 : litOk stB849 (runOps Tryz.prog iB (rops pB46).toList ((rops pB46).toList.drop 2) stB847.act stB847.st) = true := by kernel_rfl
theorem runB861 : litOk stB860 (runOps Tryz.prog iB (rops pB44).toList ((rops pB44).toList.drop 2) stB858.act stB858.st) = true := by kernel_rfl
theorem runB876 : litOk stB875 (runOps Tryz.prog iB (rops pB149).toList (cutOps pB149 0 5) stB873.act stB873.st) = true := by kernel_rfl
theorem runB910 : litOk stB909 (runOps Tryz.prog iB (rops pB95).toList ((rops pB95).toList.drop 4) stB907.act stB907.st) = true := by kernel_rfl
theorem runB938 : litOk stB937 (runOps Tryz.prog iB (rops pB77).toList ((rops pB77).toList.drop 4) stB935.act stB935.st) = true := by kernel_rfl
theorem runB966 : litOk stB965 (runOps Tryz.prog iB (rops pB149).toList ((rops pB149).toList.drop 6) stB963.act stB963.st) = true := by kernel_rfl
theorem runB992 : litOk stB991 (runOps Tryz.prog iB (rops pB41).toList ((rops pB41).toList.drop 2) stB989.act stB989.st) = true := by kernel_rfl
theorem runB1014 : litOk stB1013 (runOps Tryz.prog iB (rops pB37).toList ((rops pB37).toList.drop 2) stB1011.act stB1011.st) = true := by kernel_rfl
theorem runB1079 : litOk stB1078 (runOps Tryz.prog iB (rops pB95).toList ((rops pB95).toList.drop 4) stB1076.act stB1076.st) = true := by kernel_rfl
theorem runB1107 : litOk stB1106 (runOps Tryz.prog iB (rops pB77).toList ((rops pB77).toList.drop 4) stB1104.act stB1104.st) = true := by kernel_rfl
theorem runB1135 : litOk stB1134 (runOps Tryz.prog iB (rops pB67).toList ((rops pB67).toList.drop 3) stB1132.act stB1132.st) = true := by kernel_rfl
theorem runB1146 : litOk stB1145 (runOps Tryz.prog iB (rops pB63).toList ((rops pB63).toList.drop 4) stB1143.act stB1143.st) = true := by kernel_rfl
theorem runB1174 : litOk stB1173 (runOps Tryz.prog iB (rops pB46).toList ((rops pB46).toList.drop 2) stB1171.act stB1171.st) = true := by kernel_rfl
theorem runB1185 : litOk stB1184 (runOps Tryz.prog iB (rops pB44).toList ((rops pB44).toList.drop 2) stB1182.act stB1182.st) = true := by kernel_rfl
theorem runB1200 : litOk stB1199 (runOps Tryz.prog iB (rops pB149).toList (cutOps pB149 0 5) stB1197.act stB1197.st) = true := by kernel_rfl
theorem runB1234 : litOk stB1233 (runOps Tryz.prog iB (rops pB95).toList ((rops pB95).toList.drop 4) stB1231.act stB1231.st) = true := by kernel_rfl
theorem runB1262 : litOk stB1261 (runOps Tryz.prog iB (rops pB77).toList ((rops pB77).toList.drop 4) stB1259.act stB1259.st) = true := by kernel_rfl
theorem runB1290 : litOk stB1289 (runOps Tryz.prog iB (rops pB149).toList ((rops pB149).toList.drop 6) stB1287.act stB1287.st) = true := by kernel_rfl
theorem runB1316 : litOk stB1315 (runOps Tryz.prog iB (rops pB190).toList ((rops pB190).toList.drop 2) stB1313.act stB1313.st) = true := by kernel_rfl
theorem runB1355 : litOk stB1354 (runOps Tryz.prog iB (rops pB21).toList ((rops pB21).toList.drop 2) stB1352.act stB1352.st) = true := by kernel_rfl
theorem runB1366 : litOk stB1365 (runOps Tryz.prog iB (rops pB19).toList ((rops pB19).toList.drop 2) stB1363.act stB1363.st) = true := by kernel_rfl
theorem runB1463 : litOk stB1462 (runOps Tryz.prog iB (rops pB95).toList ((rops pB95).toList.drop 4) stB1460.act stB1460.st) = true := by kernel_rfl
theorem runB1491 : litOk stB1490 (runOps Tryz.prog iB (rops pB77).toList ((rops pB77).toList.drop 4) stB1488.act stB1488.st) = true := by kernel_rfl
theorem runB1519 : litOk stB1518 (runOps Tryz.prog iB (rops pB67).toList ((rops pB67).toList.drop 3) stB1516.act stB1516.st) = true := by kernel_rfl
theorem runB1530 : litOk stB1529 (runOps Tryz.prog iB (rops pB63).toList ((rops pB63).toList.drop 4) stB1527.act stB1527.st) = true := by kernel_rfl
theorem runB1558 : litOk stB1557 (runOps Tryz.prog iB (rops pB46).toList ((rops pB46).toList.drop 2) stB1555.act stB1555.st) = true := by kernel_rfl
theorem runB1569 : litOk stB1568 (runOps Tryz.prog iB (rops pB44).toList ((rops pB44).toList.drop 2) stB1566.act stB1566.st) = true := by kernel_rfl
theorem runB1584 : litOk stB1583 (runOps Tryz.prog iB (rops pB149).toList (cutOps pB149 0 5) stB1581.act stB1581.st) = true := by kernel_rfl
theorem runB1618 : litOk stB1617 (runOps Tryz.prog iB (rops pB95).toList ((rops pB95).toList.drop 4) stB1615.act stB1615.st) = true := by kernel_rfl
theorem runB1646 : litOk stB1645 (runOps Tryz.prog iB (rops pB77).toList ((rops pB77).toList.drop 4) stB1643.act stB1643.st) = true := by kernel_rfl
theorem runB1674 : litOk stB1673 (runOps Tryz.prog iB (rops pB149).toList ((rops pB149).toList.drop 6) stB1671.act stB1671.st) = true := by kernel_rfl
theorem runB1700 : litOk stB1699 (runOps Tryz.prog iB (rops pB41).toList ((rops pB41).toList.drop 2) stB1697.act stB1697.st) = true := by kernel_rfl
theorem runB1722 : litOk stB1721 (runOps Tryz.prog iB (rops pB37).toList ((rops pB37).toList.drop 2) stB1719.act stB1719.st) = true := by kernel_rfl
theorem runB1787 : litOk stB1786 (runOps Tryz.prog iB (rops pB95).toList ((rops pB95).toList.drop 4) stB1784.act stB1784.st) = true := by kernel_rfl
theorem runB1815 : litOk stB1814 (runOps Tryz.prog iB (rops pB77).toList ((rops pB77).toList.drop 4) stB1812.act stB1812.st) = true := by kernel_rfl
theorem runB1843 : litOk stB1842 (runOps Tryz.prog iB (rops pB67).toList ((rops pB67).toList.drop 3) stB1840.act stB1840.st) = true := by kernel_rfl
theorem runB1854 : litOk stB1853 (runOps Tryz.prog iB (rops pB63).toList ((rops pB63).toList.drop 4) stB1851.act stB1851.st) = true := by kernel_rfl
theorem runB1882 : litOk stB1881 (runOps Tryz.prog iB (rops pB46).toList ((rops pB46).toList.drop 2) stB1879.act stB1879.st) = true := by kernel_rfl
theorem runB1893 : litOk stB1892 (runOps Tryz.prog iB (rops pB44).toList ((rops pB44).toList.drop 2) stB1890.act stB1890.st) = true := by kernel_rfl
theorem runB1908 : litOk stB1907 (runOps Tryz.prog iB (rops pB149).toList (cutOps pB149 0 5) stB1905.act stB1905.st) = true := by kernel_rfl
theorem runB1942 : litOk stB1941 (runOps Tryz.prog iB (rops pB95).toList ((rops pB95).toList.drop 4) stB1939.act stB1939.st) = true := by kernel_rfl
theorem runB1970 : litOk stB1969 (runOps Tryz.prog iB (rops pB77).toList ((rops pB77).toList.drop 4) stB1967.act stB1967.st) = true := by kernel_rfl
theorem runB1998 : litOk stB1997 (runOps Tryz.prog iB (rops pB149).toList ((rops pB149).toList.drop 6) stB1995.act stB1995.st) = true := by kernel_rfl
theorem runB2024 : litOk stB2023 (runOps Tryz.prog iB (rops pB190).toList ((rops pB190).toList.drop 2) stB2021.act stB2021.st) = true := by kernel_rfl
theorem runB2075 : litOk stB2074 (runOps Tryz.prog iB (rops pB41).toList ((rops pB41).toList.drop 2) stB2072.act stB2072.st) = true := by kernel_rfl
theorem runB2097 : litOk stB2096 (runOps Tryz.prog iB (rops pB37).toList ((rops pB37).toList.drop 2) stB2094.act stB2094.st) = true := by kernel_rfl
theorem runB2114 : litOk stB2113 (runOps Tryz.prog iB (rops pB190).toList ((rops pB190).toList.drop 2) stB2111.act stB2111.st) = true := by kernel_rfl
theorem runB2144 : litOk stB2143 (runOps Tryz.prog iB (rops pB430).toList ((rops pB430).toList.drop 2) stB2141.act stB2141.st) = true := by kernel_rfl
theorem runA33 : litOk stA32 (runSeq iA.exec (hds 1 cdA57) ({ n := 42, t := PT.ofList 0 (PT.nil 8) vsA31, defers := [] }) stA29.st) = true := by kernel_rfl
theorem runA182 : finOk Tryz.prog Tryz.f82.results.toList (vvA143) stA181 (iA.exec none pA142 stA175.act stA175.st) = true := by kernel_rfl
theorem runA506 : finOk Tryz.prog Tryz.f82.results.toList (vvA231) stA505 (iA.exec none pA142 stA499.act stA499.st) = true := by kernel_rfl
theorem runA693 : litOk stA692 (runSeq iA.exec (hds 1 cdA57) ({ n := 42, t := PT.ofList 0 (PT.nil 8) vsA691, defers := [] }) stA689.st) = true := by kernel_rfl
theorem runA768 : finOk Tryz.prog Tryz.f21.results.toList (vvA302) stA767 (iA.exec none pA301 stA761.act stA761.st) = true := by kernel_rfl
theorem runB33 : litOk stB32 (runSeq iB.exec (hds 1 cdB57) ({ n := 42, t := PT.ofList 0 (PT.nil 8) vsB31, defers := [] }) stB29.st) = true := by kernel_rfl
theorem runB182 : finOk Tryz.prog Tryz.f82.results.toList (vvB132) stB181 (iB.exec none pB131 stB175.act stB175.st) = true := by kernel_rfl
theorem runB506 : finOk Tryz.prog Tryz.f82.results.toList (vvB220) stB505 (iB.exec none pB131 stB499.act stB499.st) = true := by kernel_rfl
theorem runB693 : litOk stB692 (runSeq iB.exec (hds 1 cdB57) ({ n := 42, t := PT.ofList 0 (PT.nil 8) vsB691, defers := [] }) stB689.st) = true := by kernel_rfl
theorem runB842 : finOk Tryz.prog Tryz.f82.results.toList (vvB310) stB841 (iB.exec none pB131 stB835.act stB835.st) = true := by kernel_rfl
theorem runB1166 : finOk Tryz.prog Tryz.f82.results.toList (vvB378) stB1165 (iB.exec none pB131 stB1159.act stB1159.st) = true := by kernel_rfl
theorem runB1347 : finOk Tryz.prog Tryz.f21.results.toList (vvB424) stB1346 (iB.exec none pB423 stB1340.act stB1340.st) = true := by kernel_rfl
theorem runB1401 : litOk stB1400 (runSeq iB.exec (hds 1 cdB57) ({ n := 42, t := PT.ofList 0 (PT.nil 8) vsB1399, defers := [] }) stB1397.st) = true := by kernel_rfl
theorem runB1550 : finOk Tryz.prog Tryz.f82.results.toList (vvB469) stB1549 (iB.exec none pB131 stB1543.act stB1543.st) = true := by kernel_rfl
theorem runB1874 : finOk Tryz.prog Tryz.f82.results.toList (vvB534) stB1873 (iB.exec none pB131 stB1867.act stB1867.st) = true := by kernel_rfl
theorem runB2061 : litOk stB2060 (runSeq iB.exec (hds 1 cdB57) ({ n := 42, t := PT.ofList 0 (PT.nil 8) vsB2059, defers := [] }) stB2057.st) = true := by kernel_rfl
theorem runB2136 : finOk Tryz.prog Tryz.f21.results.toList (vvB597) stB2135 (iB.exec none pB423 stB2129.act stB2129.st) = true := by kernel_rfl
theorem runA12 : litOk stA11 (runSeq iA.exec (hds 1 cdA20) ({ n := 41, t := PT.ofList 0 (PT.nil 8) vsA10, defers := [] }) stA8.st) = true := by kernel_rfl
theorem runA19 : litOk stA18 (runSeq iA.exec (hds 1 pA38) stA16.act stA16.st) = true := by kernel_rfl
theorem runA28 : litOk stA27 (runSeq iA.exec (hds 1 cdA43) ({ n := 45, t := PT.ofList 0 (PT.nil 8) vsA26, defers := [] }) stA24.st) = true := by kernel_rfl
theorem runA38 : litOk stA37 (runSeq iA.exec (hds 1 cdA44) ({ n := 66, t := PT.ofList 0 (PT.nil 8) vsA36, defers := [] }) stA34.st) = true := by kernel_rfl
theorem runA43 : litOk stA42 (runSeq iA.exec (hds 1 cdA59) ({ n := 30, t := PT.ofList 0 (PT.nil 8) vsA41, defers := [] }) stA39.st) = true := by kernel_rfl
theorem runA50 : litOk stA49 (runSeq iA.exec (hds 1 pA61) stA47.act stA47.st) = true := by kernel_rfl
theorem runA56 : litOk stA55 (runOps Tryz.prog iA (rops pA74).toList (cutOps pA74 0 3) stA53.act stA53.st) = true := by kernel_rfl
theorem runA59 : litOk stA58 (runSeq iA.exec (hds 1 cdA100) ({ n := 17, t := PT.ofList 0 (PT.nil 8) vsA57, defers := [] }) stA55.st) = true := by kernel_rfl
theorem runA72 : litOk stA71 (runOps Tryz.prog iA (rops pA88).toList (cutOps pA88 0 3) stA69.act stA69.st) = true := by kernel_rfl
theorem runA77 : litOk stA76 (runSeq iA.exec (hds 1 pA98) stA74.act stA74.st) = true := by kernel_rfl
theorem runA81 : litOk stA80 (runSeq iA.exec (hds 1 pA104) stA78.act stA78.st) = true := by kernel_rfl
theorem runA83 : litOk stA82 (runOps Tryz.prog iA (rops pA106).toList (cutOps pA106 0 3) stA80.act stA80.st) = true := by kernel_rfl
theorem runA98 : litX .normal stA97 (iA.exec none pA124 stA94.act stA94.st) = true := by kernel_rfl
theorem runA204 : litX .normal stA203 (iA.exec none pA145 stA200.act stA200.st) = true := by kernel_rfl
theorem runA210 : litOk stA209 (runSeq iA.exec (hds 1 pA150) stA207.act stA207.st) = true := by kernel_rfl
theorem runA227 : litOk stA226 (runOps Tryz.prog iA (rops pA88).toList (cutOps pA88 0 3) stA224.act stA224.st) = true := by kernel_rfl
theorem runA232 : litOk stA231 (runSeq iA.exec (hds 1 pA98) stA229.act stA229.st) = true := by kernel_rfl
theorem runA236 : litOk stA235 (runSeq iA.exec (hds 1 pA104) stA233.act stA233.st) = true := by kernel_rfl
theorem runA238 : litOk stA237 (runOps Tryz.prog iA (rops pA106).toList (cutOps pA106 0 3) stA235.act stA235.st) = true := by kernel_rfl
theorem runA253 : litX .normal stA252 (iA.exec none pA124 stA249.act stA249.st) = true := by kernel_rfl
theorem runA362 : litOk stA361 (runSeq iA.exec (hds 1 cdA44) ({ n := 66, t := PT.ofList 0 (PT.nil 8) vsA360, defers := [] }) stA358.st) = true := by kernel_rfl
theorem runA367 : litOk stA366 (runSeq iA.exec (hds 1 cdA59) ({ n := 30, t := PT.ofList 0 (PT.nil 8) vsA365, defers := [] }) stA363.st) = true := by kernel_rfl
theorem runA374 : litOk stA373 (runSeq iA.exec (hds 1 pA61) stA371.act stA371.st) = true := by kernel_rfl
theorem runA380 : litOk stA379 (runOps Tryz.prog iA (rops pA74).toList (cutOps pA74 0 3) stA377.act stA377.st) = true := by kernel_rfl
theorem runA383 : litOk stA382 (runSeq iA.exec (hds 1 cdA100) ({ n := 17, t := PT.ofList 0 (PT.nil 8) vsA381, defers := [] }) stA379.st) = true := by kernel_rfl
theorem runA396 : litOk stA395 (runOps Tryz.prog iA (rops pA88).toList (cutOps pA88 0 3) stA393.act stA393.st) = true := by kernel_rfl
theorem runA401 : litOk stA400 (runSeq iA.exec (hds 1 pA98) stA398.act stA398.st) = true := by kernel_rfl
theorem runA405 : litOk stA404 (runSeq iA.exec (hds 1 pA104) stA402.act stA402.st) = true := by kernel_rfl
theorem runA407 : litOk stA406 (runOps Tryz.prog iA (rops pA106).toList (cutOps pA106 0 3) stA404.act stA404.st) = true := by kernel_rfl
theorem runA422 : litX .normal stA421 (iA.exec none pA124 stA418.act stA418.st) = true := by kernel_rfl
theorem runA528 : litX .normal stA527 (iA.exec none pA145 stA524.act stA524.st) = true := by kernel_rfl
theorem runA534 : litOk stA533 (runSeq iA.exec (hds 1 pA150) stA531.act stA531.st) = true := by kernel_rfl
theorem runA551 : litOk stA550 (runOps Tryz.prog iA (rops pA88).toList (cutOps pA88 0 3) stA548.act stA548.st) = true := by kernel_rfl
theorem runA556 : litOk stA555 (runSeq iA.exec (hds 1 pA98) stA553.act stA553.st) = true := by kernel_rfl
theorem runA560 : litOk stA559 (runSeq iA.exec (hds 1 pA104) stA557.act stA557.st) = true := by kernel_rfl
theorem runA562 : litOk stA561 (runOps Tryz.prog iA (rops pA106).toList (cutOps pA106 0 3) stA559.act stA559.st) = true := by kernel_rfl
theorem runA577 : litX .normal stA576 (iA.exec none pA124 stA573.act stA573.st) = true := by kernel_rfl
theorem runA688 : litOk stA687 (runSeq iA.exec (hds 1 cdA43) ({ n := 45, t := PT.ofList 0 (PT.nil 8) vsA686, defers := [] }) stA684.st) = true := by kernel_rfl
theorem runB12 : litOk stB11 (runSeq iB.exec (hds 1 cdB20) ({ n := 41, t := PT.ofList 0 (PT.nil 8) vsB10, defers := [] }) stB8.st) = true := by kernel_rfl
theorem runB19 : litOk stB18 (runSeq iB.exec (hds 1 pB27) stB16.act stB16.st) = true := by kernel_rfl
theorem runB28 : litOk stB27 (runSeq iB.exec (hds 1 cdB43) ({ n := 45, t := PT.ofList 0 (PT.nil 8) vsB26, defers := [] }) stB24.st) = true := by kernel_rfl
theorem runB38 : litOk stB37 (runSeq iB.exec (hds 1 cdB44) ({ n := 66, t := PT.ofList 0 (PT.nil 8) vsB36, defers := [] }) stB34.st) = true := by kernel_rfl
theorem runB43 : litOk stB42 (runSeq iB.exec (hds 1 cdB59) ({ n := 30, t := PT.ofList 0 (PT.nil 8) vsB41, defers := [] }) stB39.st) = true := by kernel_rfl

end Go.Proofs.YtpndamekpdajmaaGreatDoor

/-
  The chapter's examples, stages.
-/
import Derived.Test.YteclhllliigapaaGreatDoorRe1
namespace Go.Proofs.YteclhllliigapaaGreatDoor
open Go.Cm

set_option maxRecDepth 100000
theorem runB963 : litOk stB962 (runSeq iB.exec (List.replicate 2 pB11) stB957.act stB957.st) = true := by kernel_rfl
theorem runM29 : finOk Tryz.prog Tryz.f26.results.toList (vvM22) stM28 (iM.exec none pM20 stM25.act stM25.st) = true := by kernel_rfl
theorem runA459 : finOk Tryz.prog Tryz.f23.results.toList (vvA233) stA458 (iA.exec none pA92 stA452.act stA452.st) = true := by kernel_rfl
theorem runA481 : litX .normal stA480 (iA.exec none pA95 stA477.act stA477.st) = true := by kernel_rfl
theorem runB102 : finOk Tryz.prog Tryz.f23.results.toList (vvB84) stB101 (iB.exec none pB83 stB95.act stB95.st) = true := by kernel_rfl
theorem runB124 : litX .normal stB123 (iB.exec none pB86 stB120.act stB120.st) = true := by kernel_rfl
theorem runB262 : finOk Tryz.prog Tryz.f23.results.toList (vvB136) stB261 (iB.exec none pB83 stB255.act stB255.st) = true := by kernel_rfl
theorem runB284 : litX .normal stB283 (iB.exec none pB86 stB280.act stB280.st) = true := by kernel_rfl
theorem runB419 : finOk Tryz.prog Tryz.f23.results.toList (vvB185) stB418 (iB.exec none pB83 stB412.act stB412.st) = true := by kernel_rfl
theorem runB578 : finOk Tryz.prog Tryz.f23.results.toList (vvB268) stB577 (iB.exec none pB83 stB571.act stB571.st) = true := by kernel_rfl
theorem runB600 : litX .normal stB599 (iB.exec none pB86 stB596.act stB596.st) = true := by kernel_rfl
theorem runB735 : finOk Tryz.prog Tryz.f23.results.toList (vvB304) stB734 (iB.exec none pB83 stB728.act stB728.st) = true := by kernel_rfl
theorem runB930 : finOk Tryz.prog Tryz.f23.results.toList (vvB387) stB929 (iB.exec none pB83 stB923.act stB923.st) = true := by kernel_rfl
theorem runB952 : litX .normal stB951 (iB.exec none pB86 stB948.act stB948.st) = true := by kernel_rfl
theorem runB1087 : finOk Tryz.prog Tryz.f23.results.toList (vvB423) stB1086 (iB.exec none pB83 stB1080.act stB1080.st) = true := by kernel_rfl
theorem runA342 : litOk stA341 (runOps Tryz.prog iA (rops pA6).toList ((rops pA6).toList.drop 2) stA339.act stA339.st) = true := by kernel_rfl
theorem runM37 : litOk stM36 (runOps Tryz.prog iM (rops pM7).toList ((rops pM7).toList.drop 2) stM34.act stM34.st) = true := by kernel_rfl
theorem runM93 : litOk stM92 (runOps Tryz.prog iM (rops pM7).toList ((rops pM7).toList.drop 2) stM90.act stM90.st) = true := by kernel_rfl
theorem runB798 : litOk stB797 (runOps Tryz.prog iB (rops pB236).toList ((rops pB236).toList.drop 2) stB795.act stB795.st) = true := by kernel_rfl
theorem runB1150 : litOk stB1149 (runOps Tryz.prog iB (rops pB236).toList ((rops pB236).toList.drop 2) stB1147.act stB1147.st) = true := by kernel_rfl
theorem runA133 : finOk Tryz.prog Tryz.f22.results.toList (.tuple #[.int .i64 2, .int .i64 0]) stA132 (iA.exec none pA94 stA129.act stA129.st) = true := by kernel_rfl
theorem runA332 : finOk Tryz.prog Tryz.f26.results.toList (vvA196) stA331 (iA.exec none pA195 stA325.act stA325.st) = true := by kernel_rfl
theorem runA470 : finOk Tryz.prog Tryz.f22.results.toList (.tuple #[.int .i64 2, .int .i64 0]) stA469 (iA.exec none pA94 stA466.act stA466.st) = true := by kernel_rfl
theorem runB113 : finOk Tryz.prog Tryz.f22.results.toList (.tuple #[.int .i64 2, .int .i64 0]) stB112 (iB.exec none pB85 stB109.act stB109.st) = true := by kernel_rfl
theorem runB273 : finOk Tryz.prog Tryz.f22.results.toList (.tuple #[.int .i64 2, .int .i64 0]) stB272 (iB.exec none pB85 stB269.act stB269.st) = true := by kernel_rfl
theorem runB589 : finOk Tryz.prog Tryz.f22.results.toList (.tuple #[.int .i64 2, .int .i64 0]) stB588 (iB.exec none pB85 stB585.act stB585.st) = true := by kernel_rfl
theorem runB788 : finOk Tryz.prog Tryz.f26.results.toList (vvB347) stB787 (iB.exec none pB346 stB781.act stB781.st) = true := by kernel_rfl
theorem runB941 : finOk Tryz.prog Tryz.f22.results.toList (.tuple #[.int .i64 2, .int .i64 0]) stB940 (iB.exec none pB85 stB937.act stB937.st) = true := by kernel_rfl
theorem runB1140 : finOk Tryz.prog Tryz.f26.results.toList (vvB454) stB1139 (iB.exec none pB346 stB1133.act stB1133.st) = true := by kernel_rfl
theorem runA74 : litOk stA73 (runOps Tryz.prog iA (rops pA62).toList ((rops pA62).toList.drop 4) stA71.act stA71.st) = true := by kernel_rfl
theorem runA102 : litOk stA101 (runOps Tryz.prog iA (rops pA44).toList ((rops pA44).toList.drop 4) stA99.act stA99.st) = true := by kernel_rfl
theorem runA130 : litOk stA129 (runOps Tryz.prog iA (rops pA34).toList ((rops pA34).toList.drop 3) stA127.act stA127.st) = true := by kernel_rfl
theorem runA141 : litOk stA140 (runOps Tryz.prog iA (rops pA30).toList ((rops pA30).toList.drop 4) stA138.act stA138.st) = true := by kernel_rfl
theorem runA171 : litOk stA170 (runOps Tryz.prog iA (rops pA13).toList ((rops pA13).toList.drop 2) stA168.act stA168.st) = true := by kernel_rfl
theorem runA182 : litOk stA181 (runOps Tryz.prog iA (rops pA11).toList ((rops pA11).toList.drop 2) stA179.act stA179.st) = true := by kernel_rfl
theorem runA197 : litOk stA196 (runOps Tryz.prog iA (rops pA124).toList (cutOps pA124 0 5) stA194.act stA194.st) = true := by kernel_rfl
theorem runA231 : litOk stA230 (runOps Tryz.prog iA (rops pA62).toList ((rops pA62).toList.drop 4) stA228.act stA228.st) = true := by kernel_rfl
theorem runA259 : litOk stA258 (runOps Tryz.prog iA (rops pA44).toList ((rops pA44).toList.drop 4) stA256.act stA256.st) = true := by kernel_rfl
theorem runA287 : litOk stA286 (runOps Tryz.prog iA (rops pA124).toList ((rops pA124).toList.drop 6) stA284.act stA284.st) = true := by kernel_rfl
theorem runA315 : litOk stA314 (runOps Tryz.prog iA (rops pA8).toList ((rops pA8).toList.drop 2) stA312.act stA312.st) = true := by kernel_rfl
theorem runA353 : litOk stA352 (runOps Tryz.prog iA (rops pA1).toList ((rops pA1).toList.drop 2) stA350.act stA350.st) = true := by kernel_rfl
theorem runA411 : litOk stA410 (runOps Tryz.prog iA (rops pA62).toList ((rops pA62).toList.drop 4) stA408.act stA408.st) = true := by kernel_rfl
theorem runA439 : litOk stA438 (runOps Tryz.prog iA (rops pA44).toList ((rops pA44).toList.drop 4) stA436.act stA436.st) = true := by kernel_rfl
theorem runA467 : litOk stA466 (runOps Tryz.prog iA (rops pA34).toList ((rops pA34).toList.drop 3) stA464.act stA464.st) = true := by kernel_rfl
theorem runA478 : litOk stA477 (runOps Tryz.prog iA (rops pA30).toList ((rops pA30).toList.drop 4) stA475.act stA475.st) = true := by kernel_rfl
theorem runA508 : litOk stA507 (runOps Tryz.prog iA (rops pA13).toList ((rops pA13).toList.drop 2) stA505.act stA505.st) = true := by kernel_rfl
theorem runA519 : litOk stA518 (runOps Tryz.prog iA (rops pA201).toList ((rops pA201).toList.drop 2) stA516.act stA516.st) = true := by kernel_rfl
theorem runM26 : litOk stM25 (runOps Tryz.prog iM (rops pM9).toList ((rops pM9).toList.drop 2) stM23.act stM23.st) = true := by kernel_rfl
theorem runM48 : litOk stM47 (runOps Tryz.prog iM (rops pM5).toList ((rops pM5).toList.drop 2) stM45.act stM45.st) = true := by kernel_rfl
theorem runM82 : litOk stM81 (runOps Tryz.prog iM (rops pM9).toList ((rops pM9).toList.drop 2) stM79.act stM79.st) = true := by kernel_rfl
theorem runM104 : litOk stM103 (runOps Tryz.prog iM (rops pM5).toList ((rops pM5).toList.drop 2) stM101.act stM101.st) = true := by kernel_rfl
theorem runB54 : litOk stB53 (runOps Tryz.prog iB (rops pB53).toList ((rops pB53).toList.drop 4) stB51.act stB51.st) = true := by kernel_rfl
theorem runB82 : litOk stB81 (runOps Tryz.prog iB (rops pB35).toList ((rops pB35).toList.drop 4) stB79.act stB79.st) = true := by kernel_rfl
theorem runB110 : litOk stB109 (runOps Tryz.prog iB (rops pB25).toList ((rops pB25).toList.drop 3) stB107.act stB107.st) = true := by kernel_rfl
theorem runB121 : litOk stB120 (runOps Tryz.prog iB (rops pB21).toList ((rops pB21).toList.drop 4) stB118.act stB118.st) = true := by kernel_rfl
theorem runB151 : litOk stB150 (runOps Tryz.prog iB (rops pB1).toList ((rops pB1).toList.drop 2) stB148.act stB148.st) = true := by kernel_rfl
theorem runB214 : litOk stB213 (runOps Tryz.prog iB (rops pB53).toList ((rops pB53).toList.drop 4) stB211.act stB211.st) = true := by kernel_rfl
theorem runB242 : litOk stB241 (runOps Tryz.prog iB (rops pB35).toList ((rops pB35).toList.drop 4) stB239.act stB239.st) = true := by kernel_rfl
theorem runB270 : litOk stB269 (runOps Tryz.prog iB (rops pB25).toList ((rops pB25).toList.drop 3) stB267.act stB267.st) = true := by kernel_rfl
theorem runB281 : litOk stB280 (runOps Tryz.prog iB (rops pB21).toList ((rops pB21).toList.drop 4) stB278.act stB278.st) = true := by kernel_rfl
theorem runB311 : litOk stB310 (runOps Tryz.prog iB (rops pB106).toList ((rops pB106).toList.drop 2) stB308.act stB308.st) = true := by kernel_rfl
theorem runB322 : litOk stB321 (runOps Tryz.prog iB (rops pB104).toList ((rops pB104).toList.drop 2) stB319.act stB319.st) = true := by kernel_rfl
theorem runB337 : litOk stB336 (runOps Tryz.prog iB (rops pB160).toList (cutOps pB160 0 5) stB334.act stB334.st) = true := by kernel_rfl
theorem runB371 : litOk stB370 (runOps Tryz.prog iB (rops pB53).toList ((rops pB53).toList.drop 4) stB368.act stB368.st) = true := by kernel_rfl
theorem runB399 : litOk stB398 (runOps Tryz.prog iB (rops pB35).toList ((rops pB35).toList.drop 4) stB396.act stB396.st) = true := by kernel_rfl
theorem runB427 : litOk stB426 (runOps Tryz.prog iB (rops pB160).toList ((rops pB160).toList.drop 6) stB424.act stB424.st) = true := by kernel_rfl
theorem runB455 : litOk stB454 (runOps Tryz.prog iB (rops pB99).toList ((rops pB99).toList.drop 2) stB452.act stB452.st) = true := by kernel_rfl
theorem runB530 : litOk stB529 (runOps Tryz.prog iB (rops pB53).toList ((rops pB53).toList.drop 4) stB527.act stB527.st) = true := by kernel_rfl
theorem runB558 : litOk stB557 (runOps Tryz.prog iB (rops pB35).toList ((rops pB35).toList.drop 4) stB555.act stB555.st) = true := by kernel_rfl
theorem runB586 : litOk stB585 (runOps Tryz.prog iB (rops pB25).toList ((rops pB25).toList.drop 3) stB583.act stB583.st) = true := by kernel_rfl
theorem runB597 : litOk stB596 (runOps Tryz.prog iB (rops pB21).toList ((rops pB21).toList.drop 4) stB594.act stB594.st) = true := by kernel_rfl
theorem runB627 : litOk stB626 (runOps Tryz.prog iB (rops pB106).toList ((rops pB106).toList.drop 2) stB624.act stB624.st) = true := by kernel_rfl
theorem runB638 : litOk stB637 (runOps Tryz.prog iB (rops pB104).toList ((rops pB104).toList.drop 2) stB635.act stB635.st) = true := by kernel_rfl
theorem runB653 : litOk stB652 (runOps Tryz.prog iB (rops pB160).toList (cutOps pB160 0 5) stB650.act stB650.st) = true := by kernel_rfl
theorem runB687 : litOk stB686 (runOps Tryz.prog iB (rops pB53).toList ((rops pB53).toList.drop 4) stB684.act stB684.st) = true := by kernel_rfl
theorem runB715 : litOk stB714 (runOps Tryz.prog iB (rops pB35).toList ((rops pB35).toList.drop 4) stB712.act stB712.st) = true := by kernel_rfl
theorem runB743 : litOk stB742 (runOps Tryz.prog iB (rops pB160).toList ((rops pB160).toList.drop 6) stB740.act stB740.st) = true := by kernel_rfl
theorem runB771 : litOk stB770 (runOps Tryz.prog iB (rops pB238).toList ((rops pB238).toList.drop 2) stB768.act stB768.st) = true := by kernel_rfl
theorem runB809 : litOk stB808 (runOps Tryz.prog iB (rops pB229).toList ((rops pB229).toList.drop 3) stB806.act stB806.st) = true := by kernel_rfl
theorem runB882 : litOk stB881 (runOps Tryz.prog iB (rops pB53).toList ((rops pB53).toList.drop 4) stB879.act stB879.st) = true := by kernel_rfl
theorem runB910 : litOk stB909 (runOps Tryz.prog iB (rops pB35).toList ((rops pB35).toList.drop 4) stB907.act stB907.st) = true := by kernel_rfl
theorem runB938 : litOk stB937 (runOps Tryz.prog iB (rops pB25).toList ((rops pB25).toList.drop 3) stB935.act stB935.st) = true := by kernel_rfl
theorem runB949 : litOk stB948 (runOps Tryz.prog iB (rops pB21).toList ((rops pB21).toList.drop 4) stB946.act stB946.st) = true := by kernel_rfl
theorem runB979 : litOk stB978 (runOps Tryz.prog iB (rops pB106).toList ((rops pB106).toList.drop 2) stB976.act stB976.st) = true := by kernel_rfl
theorem runB990 : litOk stB989 (runOps Tryz.prog iB (rops pB104).toList ((rops pB104).toList.drop 2) stB987.act stB987.st) = true := by kernel_rfl
theorem runB1005 : litOk stB1004 (runOps Tryz.prog iB (rops pB160).toList (cutOps pB160 0 5) stB1002.act stB1002.st) = true := by kernel_rfl
theorem runB1039 : litOk stB1038 (runOps Tryz.prog iB (rops pB53).toList ((rops pB53).toList.drop 4) stB1036.act stB1036.st) = true := by kernel_rfl
theorem runB1067 : litOk stB1066 (runOps Tryz.prog iB (rops pB35).toList ((rops pB35).toList.drop 4) stB1064.act stB1064.st) = true := by kernel_rfl
theorem runB1095 : litOk stB1094 (runOps Tryz.prog iB (rops pB160).toList ((rops pB160).toList.drop 6) stB1092.act stB1092.st) = true := by kernel_rfl
theorem runB1123 : litOk stB1122 (runOps Tryz.prog iB (rops pB238).toList ((rops pB238).toList.drop 2) stB1120.act stB1120.st) = true := by kernel_rfl
theorem runB1161 : litOk stB1160 (runOps Tryz.prog iB (rops pB352).toList ((rops pB352).toList.drop 3) stB1158.act stB1158.st) = true := by kernel_rfl
theorem runA12 : litOk stA11 (runSeq iA.exec (hds 1 cdA26) ({ n := 42, t := PT.ofList 0 (PT.nil 8) vsA10, defers := [] }) stA8.st) = true := by kernel_rfl
theorem runA163 : finOk Tryz.prog Tryz.f4.results.toList (vvA106) stA162 (iA.exec none pA105 stA156.act stA156.st) = true := by kernel_rfl
theorem runA318 : litOk stA317 (runSeq iA.exec (hds 2 pA175) stA314.act stA314.st) = true := by kernel_rfl
theorem runA500 : finOk Tryz.prog Tryz.f4.results.toList (vvA239) stA499 (iA.exec none pA105 stA493.act stA493.st) = true := by kernel_rfl
theorem runM12 : litOk stM11 (runSeq iM.exec (hds 1 cdM26) ({ n := 42, t := PT.ofList 0 (PT.nil 8) vsM10, defers := [] }) stM8.st) = true := by kernel_rfl
theorem runM68 : litOk stM67 (runSeq iM.exec (hds 1 cdM26) ({ n := 42, t := PT.ofList 0 (PT.nil 8) vsM66, defers := [] }) stM64.st) = true := by kernel_rfl
theorem runB143 : finOk Tryz.prog Tryz.f4.results.toList (vvB97) stB142 (iB.exec none pB96 stB136.act stB136.st) = true := by kernel_rfl
theorem runB303 : finOk Tryz.prog Tryz.f4.results.toList (vvB142) stB302 (iB.exec none pB96 stB296.act stB296.st) = true := by kernel_rfl
theorem runB468 : litOk stB467 (runSeq iB.exec (hds 1 cdB26) ({ n := 42, t := PT.ofList 0 (PT.nil 8) vsB466, defers := [] }) stB464.st) = true := by kernel_rfl
theorem runB619 : finOk Tryz.prog Tryz.f4.results.toList (vvB274) stB618 (iB.exec none pB96 stB612.act stB612.st) = true := by kernel_rfl
theorem runB774 : litOk stB773 (runSeq iB.exec (hds 2 pB327) stB770.act stB770.st) = true := by kernel_rfl
theorem runB820 : litOk stB819 (runSeq iB.exec (hds 1 cdB26) ({ n := 42, t := PT.ofList 0 (PT.nil 8) vsB818, defers := [] }) stB816.st) = true := by kernel_rfl
theorem runB971 : finOk Tryz.prog Tryz.f4.results.toList (vvB393) stB970 (iB.exec none pB96 stB964.act stB964.st) = true := by kernel_rfl
theorem runB1126 : litOk stB1125 (runSeq iB.exec (hds 2 pB327) stB1122.act stB1122.st) = true := by kernel_rfl
theorem runA7 : litOk stA6 (runSeq iA.exec (hds 1 cdA28) ({ n := 45, t := PT.ofList 0 (PT.nil 8) vsA5, defers := [] }) stA3.st) = true := by kernel_rfl
theorem runA17 : litOk stA16 (runSeq iA.exec (hds 1 cdA6) ({ n := 66, t := PT.ofList 0 (PT.nil 8) vsA15, defers := [] }) stA13.st) = true := by kernel_rfl
theorem runA22 : litOk stA21 (runSeq iA.exec (hds 1 cdA17) ({ n := 30, t := PT.ofList 0 (PT.nil 8) vsA20, defers := [] }) stA18.st) = true := by kernel_rfl
theorem runA29 : litOk stA28 (runSeq iA.exec (hds 1 pA17) stA26.act stA26.st) = true := by kernel_rfl
theorem runA35 : litOk stA34 (runOps Tryz.prog iA (rops pA30).toList (cutOps pA30 0 3) stA32.act stA32.st) = true := by kernel_rfl
theorem runA38 : litOk stA37 (runSeq iA.exec (hds 1 cdA22) ({ n := 17, t := PT.ofList 0 (PT.nil 8) vsA36, defers := [] }) stA34.st) = true := by kernel_rfl
theorem runA51 : litOk stA50 (runOps Tryz.prog iA (rops pA44).toList (cutOps pA44 0 3) stA48.act stA48.st) = true := by kernel_rfl
theorem runA56 : litOk stA55 (runSeq iA.exec (hds 1 pA54) stA53.act stA53.st) = true := by kernel_rfl
theorem runA60 : litOk stA59 (runSeq iA.exec (hds 1 pA60) stA57.act stA57.st) = true := by kernel_rfl
theorem runA62 : litOk stA61 (runOps Tryz.prog iA (rops pA62).toList (cutOps pA62 0 3) stA59.act stA59.st) = true := by kernel_rfl
theorem runA77 : litX .normal stA76 (iA.exec none pA80 stA73.act stA73.st) = true := by kernel_rfl
theorem runA185 : litX .normal stA184 (iA.exec none pA108 stA181.act stA181.st) = true := by kernel_rfl
theorem runA191 : litOk stA190 (runSeq iA.exec (hds 1 pA114) stA188.act stA188.st) = true := by kernel_rfl
theorem runA208 : litOk stA207 (runOps Tryz.prog iA (rops pA44).toList (cutOps pA44 0 3) stA205.act stA205.st) = true := by kernel_rfl
theorem runA213 : litOk stA212 (runSeq iA.exec (hds 1 pA54) stA210.act stA210.st) = true := by kernel_rfl
theorem runA217 : litOk stA216 (runSeq iA.exec (hds 1 pA60) stA214.act stA214.st) = true := by kernel_rfl
theorem runA219 : litOk stA218 (runOps Tryz.prog iA (rops pA62).toList (cutOps pA62 0 3) stA216.act stA216.st) = true := by kernel_rfl
theorem runA234 : litX .normal stA233 (iA.exec none pA80 stA230.act stA230.st) = true := by kernel_rfl
theorem runA320 : litOk stA319 (runSeq iA.exec (hds 1 pA177) stA317.act stA317.st) = true := by kernel_rfl
theorem runA359 : litOk stA358 (runSeq iA.exec (hds 1 cdA17) ({ n := 30, t := PT.ofList 0 (PT.nil 8) vsA357, defers := [] }) stA355.st) = true := by kernel_rfl
theorem runA366 : litOk stA365 (runSeq iA.exec (hds 1 pA17) stA363.act stA363.st) = true := by kernel_rfl
theorem runA372 : litOk stA371 (runOps Tryz.prog iA (rops pA30).toList (cutOps pA30 0 3) stA369.act stA369.st) = true := by kernel_rfl
theorem runA375 : litOk stA374 (runSeq iA.exec (hds 1 cdA22) ({ n := 17, t := PT.ofList 0 (PT.nil 8) vsA373, defers := [] }) stA371.st) = true := by kernel_rfl
theorem runA388 : litOk stA387 (runOps Tryz.prog iA (rops pA44).toList (cutOps pA44 0 3) stA385.act stA385.st) = true := by kernel_rfl

end Go.Proofs.YteclhllliigapaaGreatDoor

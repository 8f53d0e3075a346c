/-
  The chapter's examples, stages.
-/
import Derived.Test.YtgnhcamhcnkbfaaGreatDoorSa1
namespace Go.Proofs.YtgnhcamhcnkbfaaGreatDoor
open Go.Cm

set_option maxRecDepth 100000
theorem runA410 : litOk stA409 (runSeq iA.exec (hds 3 cdA128) ({ n := 62, t := PT.ofList 0 (PT.nil 8) vsA408, defers := [] }) stA406.st) = true := by kernel_rfl
theorem runA532 : litOk stA531 (runSeq iA.exec (hds 2 pA146) stA527.act stA527.st) = true := by kernel_rfl
theorem runA54 : litOk stA53 (runSeq iA.exec (hds 2 pA67) stA51.act stA51.st) = true := by kernel_rfl
theorem runA378 : litOk stA377 (runSeq iA.exec (hds 2 pA67) stA375.act stA375.st) = true := by kernel_rfl
theorem runA538 : litOk stA537 (runSeq iA.exec (hds 2 pA156) stA535.act stA535.st) = true := by kernel_rfl
theorem runA646 : finOk Tryz.prog Tryz.f72.results.toList (vvA263) stA645 (iA.exec none pA188 stA639.act stA639.st) = true := by kernel_rfl
theorem runA4 : litOk stA3 (runOps Tryz.prog iA (rops pA18).toList (cutOps pA18 0 30) stA1.act stA1.st) = true := by kernel_rfl
theorem runA219 : litOk stA218 (runSeq iA.exec (hds 4 cdA85) ({ n := 46, t := PT.ofList 0 (PT.nil 8) vsA217, defers := [] }) stA215.st) = true := by kernel_rfl
theorem runA388 : litOk stA387 (runSeq iA.exec (hds 4 cdA85) ({ n := 46, t := PT.ofList 0 (PT.nil 8) vsA386, defers := [] }) stA384.st) = true := by kernel_rfl
theorem runA543 : litOk stA542 (runSeq iA.exec (hds 4 cdA85) ({ n := 46, t := PT.ofList 0 (PT.nil 8) vsA541, defers := [] }) stA539.st) = true := by kernel_rfl
theorem runA270 : finOk Tryz.prog Tryz.f106.results.toList (vvA183) stA269 (iA.exec none pA126 stA263.act stA263.st) = true := by kernel_rfl
theorem runA439 : finOk Tryz.prog Tryz.f106.results.toList (vvA228) stA438 (iA.exec none pA126 stA432.act stA432.st) = true := by kernel_rfl
theorem runA594 : finOk Tryz.prog Tryz.f106.results.toList (vvA258) stA593 (iA.exec none pA126 stA587.act stA587.st) = true := by kernel_rfl
theorem runA346 : finOk Tryz.prog Tryz.f71.results.toList (vvA198) stA345 (iA.exec none pA196 stA342.act stA342.st) = true := by kernel_rfl
theorem runA721 : finOk Tryz.prog Tryz.f71.results.toList (vvA291) stA720 (iA.exec none pA196 stA717.act stA717.st) = true := by kernel_rfl
theorem runA193 : finOk Tryz.prog Tryz.f82.results.toList (.tuple #[.int .i64 2, .int .i64 0]) stA192 (iA.exec none pA144 stA189.act stA189.st) = true := by kernel_rfl
theorem runA517 : finOk Tryz.prog Tryz.f82.results.toList (.tuple #[.int .i64 2, .int .i64 0]) stA516 (iA.exec none pA144 stA513.act stA513.st) = true := by kernel_rfl
theorem runA126 : litX .normal stA125 (iA.exec none pA133 stA122.act stA122.st) = true := by kernel_rfl
theorem runA281 : litX .normal stA280 (iA.exec none pA133 stA277.act stA277.st) = true := by kernel_rfl
theorem runA450 : litX .normal stA449 (iA.exec none pA133 stA446.act stA446.st) = true := by kernel_rfl
theorem runA605 : litX .normal stA604 (iA.exec none pA133 stA601.act stA601.st) = true := by kernel_rfl
theorem runA357 : litOk stA356 (runSeq iA.exec (hds 2 pA199) stA353.act stA353.st) = true := by kernel_rfl
theorem runA659 : litOk stA658 (runSeq iA.exec (hds 2 pA264) stA655.act stA655.st) = true := by kernel_rfl
theorem runA732 : litOk stA731 (runSeq iA.exec (hds 2 pA199) stA728.act stA728.st) = true := by kernel_rfl
theorem runA143 : finOk Tryz.prog Tryz.f85.results.toList (vvA137) stA142 (iA.exec none pA136 stA136.act stA136.st) = true := by kernel_rfl
theorem runA165 : litX .normal stA164 (iA.exec none pA139 stA161.act stA161.st) = true := by kernel_rfl
theorem runA298 : finOk Tryz.prog Tryz.f85.results.toList (vvA185) stA297 (iA.exec none pA136 stA291.act stA291.st) = true := by kernel_rfl
theorem runA467 : finOk Tryz.prog Tryz.f85.results.toList (vvA230) stA466 (iA.exec none pA136 stA460.act stA460.st) = true := by kernel_rfl
theorem runA489 : litX .normal stA488 (iA.exec none pA139 stA485.act stA485.st) = true := by kernel_rfl
theorem runA622 : finOk Tryz.prog Tryz.f85.results.toList (vvA260) stA621 (iA.exec none pA136 stA615.act stA615.st) = true := by kernel_rfl
theorem runA343 : litOk stA342 (runOps Tryz.prog iA (rops pA50).toList ((rops pA50).toList.drop 2) stA340.act stA340.st) = true := by kernel_rfl
theorem runA718 : litOk stA717 (runOps Tryz.prog iA (rops pA50).toList ((rops pA50).toList.drop 2) stA715.act stA715.st) = true := by kernel_rfl
theorem runA23 : litOk stA22 (runSeq iA.exec (hds 1 pA44) stA20.act stA20.st) = true := by kernel_rfl
theorem runA154 : finOk Tryz.prog Tryz.f118.results.toList (.tuple #[.int .i64 2, .int .i64 0]) stA153 (iA.exec none pA138 stA150.act stA150.st) = true := by kernel_rfl
theorem runA478 : finOk Tryz.prog Tryz.f118.results.toList (.tuple #[.int .i64 2, .int .i64 0]) stA477 (iA.exec none pA138 stA474.act stA474.st) = true := by kernel_rfl
theorem runA683 : litOk stA682 (runSeq iA.exec (hds 1 pA44) stA680.act stA680.st) = true := by kernel_rfl
theorem runA95 : litOk stA94 (runOps Tryz.prog iA (rops pA106).toList ((rops pA106).toList.drop 4) stA92.act stA92.st) = true := by kernel_rfl
theorem runA123 : litOk stA122 (runOps Tryz.prog iA (rops pA88).toList ((rops pA88).toList.drop 4) stA120.act stA120.st) = true := by kernel_rfl
theorem runA151 : litOk stA150 (runOps Tryz.prog iA (rops pA78).toList ((rops pA78).toList.drop 3) stA148.act stA148.st) = true := by kernel_rfl
theorem runA162 : litOk stA161 (runOps Tryz.prog iA (rops pA74).toList ((rops pA74).toList.drop 4) stA159.act stA159.st) = true := by kernel_rfl
theorem runA190 : litOk stA189 (runOps Tryz.prog iA (rops pA57).toList ((rops pA57).toList.drop 2) stA187.act stA187.st) = true := by kernel_rfl
theorem runA201 : litOk stA200 (runOps Tryz.prog iA (rops pA55).toList ((rops pA55).toList.drop 2) stA198.act stA198.st) = true := by kernel_rfl
theorem runA216 : litOk stA215 (runOps Tryz.prog iA (rops pA160).toList (cutOps pA160 0 5) stA213.act stA213.st) = true := by kernel_rfl
theorem runA250 : litOk stA249 (runOps Tryz.prog iA (rops pA106).toList ((rops pA106).toList.drop 4) stA247.act stA247.st) = true := by kernel_rfl
theorem runA278 : litOk stA277 (runOps Tryz.prog iA (rops pA88).toList ((rops pA88).toList.drop 4) stA275.act stA275.st) = true := by kernel_rfl
theorem runA306 : litOk stA305 (runOps Tryz.prog iA (rops pA160).toList ((rops pA160).toList.drop 6) stA303.act stA303.st) = true := by kernel_rfl
theorem runA332 : litOk stA331 (runOps Tryz.prog iA (rops pA52).toList ((rops pA52).toList.drop 2) stA329.act stA329.st) = true := by kernel_rfl
theorem runA354 : litOk stA353 (runOps Tryz.prog iA (rops pA48).toList ((rops pA48).toList.drop 2) stA351.act stA351.st) = true := by kernel_rfl
theorem runA419 : litOk stA418 (runOps Tryz.prog iA (rops pA106).toList ((rops pA106).toList.drop 4) stA416.act stA416.st) = true := by kernel_rfl
theorem runA447 : litOk stA446 (runOps Tryz.prog iA (rops pA88).toList ((rops pA88).toList.drop 4) stA444.act stA444.st) = true := by kernel_rfl
theorem runA475 : litOk stA474 (runOps Tryz.prog iA (rops pA78).toList ((rops pA78).toList.drop 3) stA472.act stA472.st) = true := by kernel_rfl
theorem runA486 : litOk stA485 (runOps Tryz.prog iA (rops pA74).toList ((rops pA74).toList.drop 4) stA483.act stA483.st) = true := by kernel_rfl
theorem runA514 : litOk stA513 (runOps Tryz.prog iA (rops pA57).toList ((rops pA57).toList.drop 2) stA511.act stA511.st) = true := by kernel_rfl
theorem runA525 : litOk stA524 (runOps Tryz.prog iA (rops pA55).toList ((rops pA55).toList.drop 2) stA522.act stA522.st) = true := by kernel_rfl
theorem runA540 : litOk stA539 (runOps Tryz.prog iA (rops pA160).toList (cutOps pA160 0 5) stA537.act stA537.st) = true := by kernel_rfl
theorem runA574 : litOk stA573 (runOps Tryz.prog iA (rops pA106).toList ((rops pA106).toList.drop 4) stA571.act stA571.st) = true := by kernel_rfl
theorem runA602 : litOk stA601 (runOps Tryz.prog iA (rops pA88).toList ((rops pA88).toList.drop 4) stA599.act stA599.st) = true := by kernel_rfl
theorem runA630 : litOk stA629 (runOps Tryz.prog iA (rops pA160).toList ((rops pA160).toList.drop 6) stA627.act stA627.st) = true := by kernel_rfl
theorem runA656 : litOk stA655 (runOps Tryz.prog iA (rops pA201).toList ((rops pA201).toList.drop 2) stA653.act stA653.st) = true := by kernel_rfl
theorem runA707 : litOk stA706 (runOps Tryz.prog iA (rops pA52).toList ((rops pA52).toList.drop 2) stA704.act stA704.st) = true := by kernel_rfl
theorem runA729 : litOk stA728 (runOps Tryz.prog iA (rops pA48).toList ((rops pA48).toList.drop 2) stA726.act stA726.st) = true := by kernel_rfl
theorem runA746 : litOk stA745 (runOps Tryz.prog iA (rops pA201).toList ((rops pA201).toList.drop 2) stA743.act stA743.st) = true := by kernel_rfl
theorem runA776 : litOk stA775 (runOps Tryz.prog iA (rops pA32).toList ((rops pA32).toList.drop 2) stA773.act stA773.st) = true := by kernel_rfl
theorem runA787 : litOk stA786 (runOps Tryz.prog iA (rops pA30).toList ((rops pA30).toList.drop 2) stA784.act stA784.st) = true := by kernel_rfl
theorem runA182 : finOk Tryz.prog Tryz.f100.results.toList (vvA143) stA181 (iA.exec none pA142 stA175.act stA175.st) = true := by kernel_rfl
theorem runA506 : finOk Tryz.prog Tryz.f100.results.toList (vvA231) stA505 (iA.exec none pA142 stA499.act stA499.st) = true := by kernel_rfl
theorem runA693 : litOk stA692 (runSeq iA.exec (hds 1 cdA80) ({ n := 42, t := PT.ofList 0 (PT.nil 8) vsA691, defers := [] }) stA689.st) = true := by kernel_rfl
theorem runA768 : finOk Tryz.prog Tryz.f52.results.toList (vvA302) stA767 (iA.exec none pA301 stA761.act stA761.st) = true := by kernel_rfl
theorem runA12 : litOk stA11 (runSeq iA.exec (hds 1 cdA39) ({ n := 41, t := PT.ofList 0 (PT.nil 8) vsA10, defers := [] }) stA8.st) = true := by kernel_rfl
theorem runA19 : litOk stA18 (runSeq iA.exec (hds 1 pA38) stA16.act stA16.st) = true := by kernel_rfl
theorem runA28 : litOk stA27 (runSeq iA.exec (hds 1 cdA71) ({ n := 45, t := PT.ofList 0 (PT.nil 8) vsA26, defers := [] }) stA24.st) = true := by kernel_rfl
theorem runA38 : litOk stA37 (runSeq iA.exec (hds 1 cdA72) ({ n := 66, t := PT.ofList 0 (PT.nil 8) vsA36, defers := [] }) stA34.st) = true := by kernel_rfl
theorem runA43 : litOk stA42 (runSeq iA.exec (hds 1 cdA82) ({ n := 30, t := PT.ofList 0 (PT.nil 8) vsA41, defers := [] }) stA39.st) = true := by kernel_rfl
theorem runA50 : litOk stA49 (runSeq iA.exec (hds 1 pA61) stA47.act stA47.st) = true := by kernel_rfl
theorem runA56 : litOk stA55 (runOps Tryz.prog iA (rops pA74).toList (cutOps pA74 0 3) stA53.act stA53.st) = true := by kernel_rfl
theorem runA59 : litOk stA58 (runSeq iA.exec (hds 1 cdA118) ({ n := 17, t := PT.ofList 0 (PT.nil 8) vsA57, defers := [] }) stA55.st) = true := by kernel_rfl
theorem runA72 : litOk stA71 (runOps Tryz.prog iA (rops pA88).toList (cutOps pA88 0 3) stA69.act stA69.st) = true := by kernel_rfl
theorem runA77 : litOk stA76 (runSeq iA.exec (hds 1 pA98) stA74.act stA74.st) = true := by kernel_rfl
theorem runA81 : litOk stA80 (runSeq iA.exec (hds 1 pA104) stA78.act stA78.st) = true := by kernel_rfl
theorem runA83 : litOk stA82 (runOps Tryz.prog iA (rops pA106).toList (cutOps pA106 0 3) stA80.act stA80.st) = true := by kernel_rfl
theorem runA98 : litX .normal stA97 (iA.exec none pA124 stA94.act stA94.st) = true := by kernel_rfl
theorem runA204 : litX .normal stA203 (iA.exec none pA145 stA200.act stA200.st) = true := by kernel_rfl
theorem runA210 : litOk stA209 (runSeq iA.exec (hds 1 pA150) stA207.act stA207.st) = true := by kernel_rfl
theorem runA227 : litOk stA226 (runOps Tryz.prog iA (rops pA88).toList (cutOps pA88 0 3) stA224.act stA224.st) = true := by kernel_rfl
theorem runA232 : litOk stA231 (runSeq iA.exec (hds 1 pA98) stA229.act stA229.st) = true := by kernel_rfl
theorem runA236 : litOk stA235 (runSeq iA.exec (hds 1 pA104) stA233.act stA233.st) = true := by kernel_rfl
theorem runA238 : litOk stA237 (runOps Tryz.prog iA (rops pA106).toList (cutOps pA106 0 3) stA235.act stA235.st) = true := by kernel_rfl
theorem runA253 : litX .normal stA252 (iA.exec none pA124 stA249.act stA249.st) = true := by kernel_rfl
theorem runA362 : litOk stA361 (runSeq iA.exec (hds 1 cdA72) ({ n := 66, t := PT.ofList 0 (PT.nil 8) vsA360, defers := [] }) stA358.st) = true := by kernel_rfl
theorem runA367 : litOk stA366 (runSeq iA.exec (hds 1 cdA82) ({ n := 30, t := PT.ofList 0 (PT.nil 8) vsA365, defers := [] }) stA363.st) = true := by kernel_rfl
theorem runA374 : litOk stA373 (runSeq iA.exec (hds 1 pA61) stA371.act stA371.st) = true := by kernel_rfl
theorem runA380 : litOk stA379 (runOps Tryz.prog iA (rops pA74).toList (cutOps pA74 0 3) stA377.act stA377.st) = true := by kernel_rfl
theorem runA383 : litOk stA382 (runSeq iA.exec (hds 1 cdA118) ({ n := 17, t := PT.ofList 0 (PT.nil 8) vsA381, defers := [] }) stA379.st) = true := by kernel_rfl
theorem runA396 : litOk stA395 (runOps Tryz.prog iA (rops pA88).toList (cutOps pA88 0 3) stA393.act stA393.st) = true := by kernel_rfl
theorem runA401 : litOk stA400 (runSeq iA.exec (hds 1 pA98) stA398.act stA398.st) = true := by kernel_rfl
theorem runA405 : litOk stA404 (runSeq iA.exec (hds 1 pA104) stA402.act stA402.st) = true := by kernel_rfl
theorem runA407 : litOk stA406 (runOps Tryz.prog iA (rops pA106).toList (cutOps pA106 0 3) stA404.act stA404.st) = true := by kernel_rfl
theorem runA422 : litX .normal stA421 (iA.exec none pA124 stA418.act stA418.st) = true := by kernel_rfl
theorem runA528 : litX .normal stA527 (iA.exec none pA145 stA524.act stA524.st) = true := by kernel_rfl
theorem runA534 : litOk stA533 (runSeq iA.exec (hds 1 pA150) stA531.act stA531.st) = true := by kernel_rfl
theorem runA551 : litOk stA550 (runOps Tryz.prog iA (rops pA88).toList (cutOps pA88 0 3) stA548.act stA548.st) = true := by kernel_rfl
theorem runA556 : litOk stA555 (runSeq iA.exec (hds 1 pA98) stA553.act stA553.st) = true := by kernel_rfl
theorem runA560 : litOk stA559 (runSeq iA.exec (hds 1 pA104) stA557.act stA557.st) = true := by kernel_rfl
theorem runA562 : litOk stA561 (runOps Tryz.prog iA (rops pA106).toList (cutOps pA106 0 3) stA559.act stA559.st) = true := by kernel_rfl
theorem runA577 : litX .normal stA576 (iA.exec none pA124 stA573.act stA573.st) = true := by kernel_rfl
theorem runA688 : litOk stA687 (runSeq iA.exec (hds 1 cdA71) ({ n := 45, t := PT.ofList 0 (PT.nil 8) vsA686, defers := [] }) stA684.st) = true := by kernel_rfl
theorem runA7 : litOk stA6 (runSeq iA.exec (hds 1 cdA22) ({ n := 38, t := PT.ofList 0 (PT.nil 8) vsA5, defers := [] }) stA3.st) = true := by kernel_rfl
theorem runA21 : litOk stA20 (runSeq iA.exec (hds 2 pA41) stA18.act stA18.st) = true := by kernel_rfl
theorem runA52 : litOk stA51 (runSeq iA.exec (hds 2 pA64) stA49.act stA49.st) = true := by kernel_rfl
theorem runA61 : litOk stA60 (runOps Tryz.prog iA (rops pA78).toList (cutOps pA78 0 2) stA58.act stA58.st) = true := by kernel_rfl
theorem runA66 : litOk stA65 (runSeq iA.exec (hds 1 pA80) stA63.act stA63.st) = true := by kernel_rfl
theorem runA68 : litOk stA67 (runSeq iA.exec (hds 2 pA83) stA65.act stA65.st) = true := by kernel_rfl
theorem runA70 : litOk stA69 (runSeq iA.exec (hds 1 pA86) stA67.act stA67.st) = true := by kernel_rfl
theorem runA79 : litOk stA78 (runSeq iA.exec (hds 2 pA101) stA76.act stA76.st) = true := by kernel_rfl
theorem runA104 : litX .normal stA103 (iA.exec none pA125 stA97.act stA97.st) = true := by kernel_rfl
theorem runA109 : litX (.exit 0) stA108 (iA.exec none pA101 stA103.act stA103.st) = true := by kernel_rfl
theorem runA132 : litX .normal stA131 (iA.exec none pA135 stA125.act stA125.st) = true := by kernel_rfl
theorem runA137 : litX (.exit 0) stA136 (iA.exec none pA83 stA131.act stA131.st) = true := by kernel_rfl
theorem runA171 : litX .normal stA170 (iA.exec none pA141 stA164.act stA164.st) = true := by kernel_rfl
theorem runA176 : litX (.exit 0) stA175 (iA.exec none pA64 stA170.act stA170.st) = true := by kernel_rfl
theorem runA212 : litOk stA211 (runSeq iA.exec (hds 2 pA153) stA209.act stA209.st) = true := by kernel_rfl
theorem runA221 : litOk stA220 (runSeq iA.exec (hds 1 pA80) stA218.act stA218.st) = true := by kernel_rfl
theorem runA223 : litOk stA222 (runSeq iA.exec (hds 2 pA83) stA220.act stA220.st) = true := by kernel_rfl
theorem runA225 : litOk stA224 (runSeq iA.exec (hds 1 pA86) stA222.act stA222.st) = true := by kernel_rfl
theorem runA234 : litOk stA233 (runSeq iA.exec (hds 2 pA101) stA231.act stA231.st) = true := by kernel_rfl
theorem runA259 : litX .normal stA258 (iA.exec none pA125 stA252.act stA252.st) = true := by kernel_rfl
theorem runA264 : litX (.exit 0) stA263 (iA.exec none pA101 stA258.act stA258.st) = true := by kernel_rfl
theorem runA287 : litX .normal stA286 (iA.exec none pA135 stA280.act stA280.st) = true := by kernel_rfl
theorem runA292 : litX (.exit 0) stA291 (iA.exec none pA83 stA286.act stA286.st) = true := by kernel_rfl
theorem runA311 : litX .normal stA310 (iA.exec none pA187 stA305.act stA305.st) = true := by kernel_rfl
theorem runA316 : litX (.exit 0) stA315 (iA.exec none pA153 stA310.act stA310.st) = true := by kernel_rfl
theorem runA376 : litOk stA375 (runSeq iA.exec (hds 2 pA64) stA373.act stA373.st) = true := by kernel_rfl
theorem runA385 : litOk stA384 (runOps Tryz.prog iA (rops pA78).toList (cutOps pA78 0 2) stA382.act stA382.st) = true := by kernel_rfl
theorem runA390 : litOk stA389 (runSeq iA.exec (hds 1 pA80) stA387.act stA387.st) = true := by kernel_rfl
theorem runA392 : litOk stA391 (runSeq iA.exec (hds 2 pA83) stA389.act stA389.st) = true := by kernel_rfl
theorem runA394 : litOk stA393 (runSeq iA.exec (hds 1 pA86) stA391.act stA391.st) = true := by kernel_rfl
theorem runA403 : litOk stA402 (runSeq iA.exec (hds 2 pA101) stA400.act stA400.st) = true := by kernel_rfl
theorem runA428 : litX .normal stA427 (iA.exec none pA125 stA421.act stA421.st) = true := by kernel_rfl
theorem runA433 : litX (.exit 0) stA432 (iA.exec none pA101 stA427.act stA427.st) = true := by kernel_rfl
theorem runA456 : litX .normal stA455 (iA.exec none pA135 stA449.act stA449.st) = true := by kernel_rfl
theorem runA461 : litX (.exit 0) stA460 (iA.exec none pA83 stA455.act stA455.st) = true := by kernel_rfl
theorem runA495 : litX .normal stA494 (iA.exec none pA141 stA488.act stA488.st) = true := by kernel_rfl
theorem runA500 : litX (.exit 0) stA499 (iA.exec none pA64 stA494.act stA494.st) = true := by kernel_rfl
theorem runA536 : litOk stA535 (runSeq iA.exec (hds 2 pA153) stA533.act stA533.st) = true := by kernel_rfl
theorem runA545 : litOk stA544 (runSeq iA.exec (hds 1 pA80) stA542.act stA542.st) = true := by kernel_rfl
theorem runA547 : litOk stA546 (runSeq iA.exec (hds 2 pA83) stA544.act stA544.st) = true := by kernel_rfl
theorem runA549 : litOk stA548 (runSeq iA.exec (hds 1 pA86) stA546.act stA546.st) = true := by kernel_rfl
theorem runA558 : litOk stA557 (runSeq iA.exec (hds 2 pA101) stA555.act stA555.st) = true := by kernel_rfl
theorem runA583 : litX .normal stA582 (iA.exec none pA125 stA576.act stA576.st) = true := by kernel_rfl
theorem runA588 : litX (.exit 0) stA587 (iA.exec none pA101 stA582.act stA582.st) = true := by kernel_rfl
theorem runA611 : litX .normal stA610 (iA.exec none pA135 stA604.act stA604.st) = true := by kernel_rfl
theorem runA616 : litX (.exit 0) stA615 (iA.exec none pA83 stA610.act stA610.st) = true := by kernel_rfl
theorem runA635 : litX .normal stA634 (iA.exec none pA187 stA629.act stA629.st) = true := by kernel_rfl
theorem runA640 : litX (.exit 0) stA639 (iA.exec none pA153 stA634.act stA634.st) = true := by kernel_rfl
theorem runA665 : litX (.exit 2) stA664 (iA.exec none pA267 stA662.act stA662.st) = true := by kernel_rfl
theorem runA676 : litX .normal stA675 (iA.exec none pA280 stA664.act stA664.st) = true := by kernel_rfl
theorem runA681 : litOk stA680 (runSeq iA.exec (hds 2 pA41) stA675.act stA675.st) = true := by kernel_rfl
theorem runA757 : litX .normal stA756 (iA.exec none pA280 stA748.act stA748.st) = true := by kernel_rfl
theorem runA762 : litX (.exit 0) stA761 (iA.exec none pA41 stA756.act stA756.st) = true := by kernel_rfl
theorem runA798 : litOk stA797 (runOps Tryz.prog iA (rops pA18).toList ((rops pA18).toList.drop 31) stA795.act stA795.st) = true := by kernel_rfl
theorem runA9 : litOk stA8 (runOps Tryz.prog iA (rops pA30).toList (cutOps pA30 0 1) stA6.act stA6.st) = true := by kernel_rfl
theorem runA14 : litOk stA13 (runOps Tryz.prog iA (rops pA32).toList (cutOps pA32 0 1) stA11.act stA11.st) = true := by kernel_rfl
theorem runA25 : litOk stA24 (runOps Tryz.prog iA (rops pA48).toList (cutOps pA48 0 1) stA22.act stA22.st) = true := by kernel_rfl
theorem runA30 : litOk stA29 (runOps Tryz.prog iA (rops pA50).toList (cutOps pA50 0 1) stA27.act stA27.st) = true := by kernel_rfl
theorem runA35 : litOk stA34 (runOps Tryz.prog iA (rops pA52).toList (cutOps pA52 0 1) stA32.act stA32.st) = true := by kernel_rfl
theorem runA40 : litOk stA39 (runOps Tryz.prog iA (rops pA55).toList (cutOps pA55 0 1) stA37.act stA37.st) = true := by kernel_rfl
theorem runA45 : litOk stA44 (runOps Tryz.prog iA (rops pA57).toList (cutOps pA57 0 1) stA42.act stA42.st) = true := by kernel_rfl
theorem runA93 : litOk stA92 (match stA82.act.put (some 60) (vvA123) with | some a => some (.normal, a, stA87.st) | none => none) = true := by kernel_rfl
theorem runA121 : litOk stA120 (match stA71.act.put (some 29) (vvA132) with | some a => some (.normal, a, stA114.st) | none => none) = true := by kernel_rfl
theorem runA149 : litOk stA148 (match stA60.act.put (some 11) (vvA137) with | some a => some (.normal, a, stA142.st) | none => none) = true := by kernel_rfl
theorem runA160 : litOk stA159 (match stA55.act.put (some 40) (.tuple #[.int .i64 2, .int .i64 0]) with | some a => some (.normal, a, stA153.st) | none => none) = true := by kernel_rfl
theorem runA188 : litOk stA187 (match stA44.act.put (some 11) (vvA143) with | some a => some (.normal, a, stA181.st) | none => none) = true := by kernel_rfl
theorem runA199 : litOk stA198 (match stA39.act.put (some 18) (.tuple #[.int .i64 2, .int .i64 0]) with | some a => some (.normal, a, stA192.st) | none => none) = true := by kernel_rfl
theorem runA248 : litOk stA247 (match stA237.act.put (some 60) (vvA177) with | some a => some (.normal, a, stA242.st) | none => none) = true := by kernel_rfl

end Go.Proofs.YtgnhcamhcnkbfaaGreatDoor

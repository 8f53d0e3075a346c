/-
  The chapter's examples, stages.
-/
import Derived.Test.YteclhllliigapaaGreatDoorRe1
namespace Go.Proofs.YteclhllliigapaaGreatDoor
open Go.Cm

set_option maxRecDepth 100000
theorem runB1105 : litOk stB1104 (runSeq iB.exec (List.replicate 2 pB153) stB1099.act stB1099.st) = true := by kernel_rfl
theorem runA324 : litOk stA323 (runSeq iA.exec (List.replicate 1 pA180) stA321.act stA321.st) = true := by kernel_rfl
theorem runA393 : litOk stA392 (runSeq iA.exec (hds 1 pA54) stA390.act stA390.st) = true := by kernel_rfl
theorem runA397 : litOk stA396 (runSeq iA.exec (hds 1 pA60) stA394.act stA394.st) = true := by kernel_rfl
theorem runA399 : litOk stA398 (runOps Tryz.prog iA (rops pA62).toList (cutOps pA62 0 3) stA396.act stA396.st) = true := by kernel_rfl
theorem runA414 : litX .normal stA413 (iA.exec none pA80 stA410.act stA410.st) = true := by kernel_rfl
theorem runM7 : litOk stM6 (runSeq iM.exec (hds 1 cdM28) ({ n := 45, t := PT.ofList 0 (PT.nil 8) vsM5, defers := [] }) stM3.st) = true := by kernel_rfl
theorem runM63 : litOk stM62 (runSeq iM.exec (hds 1 cdM28) ({ n := 45, t := PT.ofList 0 (PT.nil 8) vsM61, defers := [] }) stM59.st) = true := by kernel_rfl
theorem runB9 : litOk stB8 (runSeq iB.exec (hds 1 pB8) stB6.act stB6.st) = true := by kernel_rfl
theorem runB15 : litOk stB14 (runOps Tryz.prog iB (rops pB21).toList (cutOps pB21 0 3) stB12.act stB12.st) = true := by kernel_rfl
theorem runB18 : litOk stB17 (runSeq iB.exec (hds 1 cdB22) ({ n := 17, t := PT.ofList 0 (PT.nil 8) vsB16, defers := [] }) stB14.st) = true := by kernel_rfl
theorem runB31 : litOk stB30 (runOps Tryz.prog iB (rops pB35).toList (cutOps pB35 0 3) stB28.act stB28.st) = true := by kernel_rfl
theorem runB36 : litOk stB35 (runSeq iB.exec (hds 1 pB45) stB33.act stB33.st) = true := by kernel_rfl
theorem runB40 : litOk stB39 (runSeq iB.exec (hds 1 pB51) stB37.act stB37.st) = true := by kernel_rfl
theorem runB42 : litOk stB41 (runOps Tryz.prog iB (rops pB53).toList (cutOps pB53 0 3) stB39.act stB39.st) = true := by kernel_rfl
theorem runB57 : litX .normal stB56 (iB.exec none pB71 stB53.act stB53.st) = true := by kernel_rfl
theorem runB157 : litOk stB156 (runSeq iB.exec (hds 1 cdB6) ({ n := 66, t := PT.ofList 0 (PT.nil 8) vsB155, defers := [] }) stB153.st) = true := by kernel_rfl
theorem runB162 : litOk stB161 (runSeq iB.exec (hds 1 cdB17) ({ n := 30, t := PT.ofList 0 (PT.nil 8) vsB160, defers := [] }) stB158.st) = true := by kernel_rfl
theorem runB169 : litOk stB168 (runSeq iB.exec (hds 1 pB8) stB166.act stB166.st) = true := by kernel_rfl
theorem runB175 : litOk stB174 (runOps Tryz.prog iB (rops pB21).toList (cutOps pB21 0 3) stB172.act stB172.st) = true := by kernel_rfl
theorem runB178 : litOk stB177 (runSeq iB.exec (hds 1 cdB22) ({ n := 17, t := PT.ofList 0 (PT.nil 8) vsB176, defers := [] }) stB174.st) = true := by kernel_rfl
theorem runB191 : litOk stB190 (runOps Tryz.prog iB (rops pB35).toList (cutOps pB35 0 3) stB188.act stB188.st) = true := by kernel_rfl
theorem runB196 : litOk stB195 (runSeq iB.exec (hds 1 pB45) stB193.act stB193.st) = true := by kernel_rfl
theorem runB200 : litOk stB199 (runSeq iB.exec (hds 1 pB51) stB197.act stB197.st) = true := by kernel_rfl
theorem runB202 : litOk stB201 (runOps Tryz.prog iB (rops pB53).toList (cutOps pB53 0 3) stB199.act stB199.st) = true := by kernel_rfl
theorem runB217 : litX .normal stB216 (iB.exec none pB71 stB213.act stB213.st) = true := by kernel_rfl
theorem runB325 : litX .normal stB324 (iB.exec none pB144 stB321.act stB321.st) = true := by kernel_rfl
theorem runB331 : litOk stB330 (runSeq iB.exec (hds 1 pB150) stB328.act stB328.st) = true := by kernel_rfl
theorem runB348 : litOk stB347 (runOps Tryz.prog iB (rops pB35).toList (cutOps pB35 0 3) stB345.act stB345.st) = true := by kernel_rfl
theorem runB353 : litOk stB352 (runSeq iB.exec (hds 1 pB45) stB350.act stB350.st) = true := by kernel_rfl
theorem runB357 : litOk stB356 (runSeq iB.exec (hds 1 pB51) stB354.act stB354.st) = true := by kernel_rfl
theorem runB359 : litOk stB358 (runOps Tryz.prog iB (rops pB53).toList (cutOps pB53 0 3) stB356.act stB356.st) = true := by kernel_rfl
theorem runB374 : litX .normal stB373 (iB.exec none pB71 stB370.act stB370.st) = true := by kernel_rfl
theorem runB473 : litOk stB472 (runSeq iB.exec (hds 1 cdB6) ({ n := 66, t := PT.ofList 0 (PT.nil 8) vsB471, defers := [] }) stB469.st) = true := by kernel_rfl
theorem runB478 : litOk stB477 (runSeq iB.exec (hds 1 cdB17) ({ n := 30, t := PT.ofList 0 (PT.nil 8) vsB476, defers := [] }) stB474.st) = true := by kernel_rfl
theorem runB485 : litOk stB484 (runSeq iB.exec (hds 1 pB8) stB482.act stB482.st) = true := by kernel_rfl
theorem runB491 : litOk stB490 (runOps Tryz.prog iB (rops pB21).toList (cutOps pB21 0 3) stB488.act stB488.st) = true := by kernel_rfl
theorem runB494 : litOk stB493 (runSeq iB.exec (hds 1 cdB22) ({ n := 17, t := PT.ofList 0 (PT.nil 8) vsB492, defers := [] }) stB490.st) = true := by kernel_rfl
theorem runB507 : litOk stB506 (runOps Tryz.prog iB (rops pB35).toList (cutOps pB35 0 3) stB504.act stB504.st) = true := by kernel_rfl
theorem runB512 : litOk stB511 (runSeq iB.exec (hds 1 pB45) stB509.act stB509.st) = true := by kernel_rfl
theorem runB516 : litOk stB515 (runSeq iB.exec (hds 1 pB51) stB513.act stB513.st) = true := by kernel_rfl
theorem runB518 : litOk stB517 (runOps Tryz.prog iB (rops pB53).toList (cutOps pB53 0 3) stB515.act stB515.st) = true := by kernel_rfl
theorem runB533 : litX .normal stB532 (iB.exec none pB71 stB529.act stB529.st) = true := by kernel_rfl
theorem runB641 : litX .normal stB640 (iB.exec none pB144 stB637.act stB637.st) = true := by kernel_rfl
theorem runB647 : litOk stB646 (runSeq iB.exec (hds 1 pB150) stB644.act stB644.st) = true := by kernel_rfl
theorem runB664 : litOk stB663 (runOps Tryz.prog iB (rops pB35).toList (cutOps pB35 0 3) stB661.act stB661.st) = true := by kernel_rfl
theorem runB669 : litOk stB668 (runSeq iB.exec (hds 1 pB45) stB666.act stB666.st) = true := by kernel_rfl
theorem runB673 : litOk stB672 (runSeq iB.exec (hds 1 pB51) stB670.act stB670.st) = true := by kernel_rfl
theorem runB675 : litOk stB674 (runOps Tryz.prog iB (rops pB53).toList (cutOps pB53 0 3) stB672.act stB672.st) = true := by kernel_rfl
theorem runB690 : litX .normal stB689 (iB.exec none pB71 stB686.act stB686.st) = true := by kernel_rfl
theorem runB776 : litOk stB775 (runSeq iB.exec (hds 1 pB329) stB773.act stB773.st) = true := by kernel_rfl
theorem runB825 : litOk stB824 (runSeq iB.exec (hds 1 cdB6) ({ n := 66, t := PT.ofList 0 (PT.nil 8) vsB823, defers := [] }) stB821.st) = true := by kernel_rfl
theorem runB830 : litOk stB829 (runSeq iB.exec (hds 1 cdB17) ({ n := 30, t := PT.ofList 0 (PT.nil 8) vsB828, defers := [] }) stB826.st) = true := by kernel_rfl
theorem runB837 : litOk stB836 (runSeq iB.exec (hds 1 pB8) stB834.act stB834.st) = true := by kernel_rfl
theorem runB843 : litOk stB842 (runOps Tryz.prog iB (rops pB21).toList (cutOps pB21 0 3) stB840.act stB840.st) = true := by kernel_rfl
theorem runB846 : litOk stB845 (runSeq iB.exec (hds 1 cdB22) ({ n := 17, t := PT.ofList 0 (PT.nil 8) vsB844, defers := [] }) stB842.st) = true := by kernel_rfl
theorem runB859 : litOk stB858 (runOps Tryz.prog iB (rops pB35).toList (cutOps pB35 0 3) stB856.act stB856.st) = true := by kernel_rfl
theorem runB864 : litOk stB863 (runSeq iB.exec (hds 1 pB45) stB861.act stB861.st) = true := by kernel_rfl
theorem runB868 : litOk stB867 (runSeq iB.exec (hds 1 pB51) stB865.act stB865.st) = true := by kernel_rfl
theorem runB870 : litOk stB869 (runOps Tryz.prog iB (rops pB53).toList (cutOps pB53 0 3) stB867.act stB867.st) = true := by kernel_rfl
theorem runB885 : litX .normal stB884 (iB.exec none pB71 stB881.act stB881.st) = true := by kernel_rfl
theorem runB993 : litX .normal stB992 (iB.exec none pB144 stB989.act stB989.st) = true := by kernel_rfl
theorem runB999 : litOk stB998 (runSeq iB.exec (hds 1 pB150) stB996.act stB996.st) = true := by kernel_rfl
theorem runB1016 : litOk stB1015 (runOps Tryz.prog iB (rops pB35).toList (cutOps pB35 0 3) stB1013.act stB1013.st) = true := by kernel_rfl
theorem runB1021 : litOk stB1020 (runSeq iB.exec (hds 1 pB45) stB1018.act stB1018.st) = true := by kernel_rfl
theorem runB1025 : litOk stB1024 (runSeq iB.exec (hds 1 pB51) stB1022.act stB1022.st) = true := by kernel_rfl
theorem runB1027 : litOk stB1026 (runOps Tryz.prog iB (rops pB53).toList (cutOps pB53 0 3) stB1024.act stB1024.st) = true := by kernel_rfl
theorem runB1042 : litX .normal stB1041 (iB.exec none pB71 stB1038.act stB1038.st) = true := by kernel_rfl
theorem runB1128 : litOk stB1127 (runSeq iB.exec (hds 1 pB329) stB1125.act stB1125.st) = true := by kernel_rfl
theorem runA31 : litOk stA30 (runSeq iA.exec (hds 2 pA20) stA28.act stA28.st) = true := by kernel_rfl
theorem runA40 : litOk stA39 (runOps Tryz.prog iA (rops pA34).toList (cutOps pA34 0 2) stA37.act stA37.st) = true := by kernel_rfl
theorem runA45 : litOk stA44 (runSeq iA.exec (hds 1 pA36) stA42.act stA42.st) = true := by kernel_rfl
theorem runA47 : litOk stA46 (runSeq iA.exec (hds 2 pA39) stA44.act stA44.st) = true := by kernel_rfl
theorem runA49 : litOk stA48 (runSeq iA.exec (hds 1 pA42) stA46.act stA46.st) = true := by kernel_rfl
theorem runA58 : litOk stA57 (runSeq iA.exec (hds 2 pA57) stA55.act stA55.st) = true := by kernel_rfl
theorem runA83 : litX .normal stA82 (iA.exec none pA81 stA76.act stA76.st) = true := by kernel_rfl
theorem runA88 : litX (.exit 0) stA87 (iA.exec none pA57 stA82.act stA82.st) = true := by kernel_rfl
theorem runA111 : litX .normal stA110 (iA.exec none pA91 stA104.act stA104.st) = true := by kernel_rfl
theorem runA116 : litX (.exit 0) stA115 (iA.exec none pA39 stA110.act stA110.st) = true := by kernel_rfl
theorem runA150 : litX .normal stA149 (iA.exec none pA97 stA143.act stA143.st) = true := by kernel_rfl
theorem runA157 : litX (.exit 0) stA156 (iA.exec none pA20 stA154.act stA154.st) = true := by kernel_rfl
theorem runA193 : litOk stA192 (runSeq iA.exec (hds 2 pA117) stA190.act stA190.st) = true := by kernel_rfl
theorem runA202 : litOk stA201 (runSeq iA.exec (hds 1 pA36) stA199.act stA199.st) = true := by kernel_rfl
theorem runA204 : litOk stA203 (runSeq iA.exec (hds 2 pA39) stA201.act stA201.st) = true := by kernel_rfl
theorem runA206 : litOk stA205 (runSeq iA.exec (hds 1 pA42) stA203.act stA203.st) = true := by kernel_rfl
theorem runA215 : litOk stA214 (runSeq iA.exec (hds 2 pA57) stA212.act stA212.st) = true := by kernel_rfl
theorem runA240 : litX .normal stA239 (iA.exec none pA81 stA233.act stA233.st) = true := by kernel_rfl
theorem runA245 : litX (.exit 0) stA244 (iA.exec none pA57 stA239.act stA239.st) = true := by kernel_rfl
theorem runA268 : litX .normal stA267 (iA.exec none pA91 stA261.act stA261.st) = true := by kernel_rfl
theorem runA273 : litX (.exit 0) stA272 (iA.exec none pA39 stA267.act stA267.st) = true := by kernel_rfl
theorem runA292 : litX .normal stA291 (iA.exec none pA151 stA286.act stA286.st) = true := by kernel_rfl
theorem runA299 : litX (.exit 0) stA298 (iA.exec none pA117 stA296.act stA296.st) = true := by kernel_rfl
theorem runA326 : litX (.exit 0) stA325 (iA.exec none pA180 stA323.act stA323.st) = true := by kernel_rfl
theorem runA368 : litOk stA367 (runSeq iA.exec (hds 2 pA20) stA365.act stA365.st) = true := by kernel_rfl
theorem runA377 : litOk stA376 (runOps Tryz.prog iA (rops pA34).toList (cutOps pA34 0 2) stA374.act stA374.st) = true := by kernel_rfl
theorem runA382 : litOk stA381 (runSeq iA.exec (hds 1 pA36) stA379.act stA379.st) = true := by kernel_rfl
theorem runA384 : litOk stA383 (runSeq iA.exec (hds 2 pA39) stA381.act stA381.st) = true := by kernel_rfl
theorem runA386 : litOk stA385 (runSeq iA.exec (hds 1 pA42) stA383.act stA383.st) = true := by kernel_rfl
theorem runA395 : litOk stA394 (runSeq iA.exec (hds 2 pA57) stA392.act stA392.st) = true := by kernel_rfl
theorem runA420 : litX .normal stA419 (iA.exec none pA81 stA413.act stA413.st) = true := by kernel_rfl
theorem runA425 : litX (.exit 0) stA424 (iA.exec none pA57 stA419.act stA419.st) = true := by kernel_rfl
theorem runA448 : litX .normal stA447 (iA.exec none pA91 stA441.act stA441.st) = true := by kernel_rfl
theorem runA453 : litX (.exit 0) stA452 (iA.exec none pA39 stA447.act stA447.st) = true := by kernel_rfl
theorem runA487 : litX .normal stA486 (iA.exec none pA97 stA480.act stA480.st) = true := by kernel_rfl
theorem runA494 : litX (.exit 0) stA493 (iA.exec none pA20 stA491.act stA491.st) = true := by kernel_rfl
theorem runM2 : litOk stM1 (runSeq iM.exec (hds 1 cdM12) ({ n := 20, t := PT.ofList 0 (PT.nil 8) vsM0, defers := [] }) (addAll start0 mbM0)) = true := by kernel_rfl
theorem runM58 : litOk stM57 (runSeq iM.exec (hds 1 cdM12) ({ n := 20, t := PT.ofList 0 (PT.nil 8) vsM56, defers := [] }) (addAll start0 mbM1)) = true := by kernel_rfl
theorem runB11 : litOk stB10 (runSeq iB.exec (hds 2 pB11) stB8.act stB8.st) = true := by kernel_rfl
theorem runB20 : litOk stB19 (runOps Tryz.prog iB (rops pB25).toList (cutOps pB25 0 2) stB17.act stB17.st) = true := by kernel_rfl
theorem runB25 : litOk stB24 (runSeq iB.exec (hds 1 pB27) stB22.act stB22.st) = true := by kernel_rfl
theorem runB27 : litOk stB26 (runSeq iB.exec (hds 2 pB30) stB24.act stB24.st) = true := by kernel_rfl
theorem runB29 : litOk stB28 (runSeq iB.exec (hds 1 pB33) stB26.act stB26.st) = true := by kernel_rfl
theorem runB38 : litOk stB37 (runSeq iB.exec (hds 2 pB48) stB35.act stB35.st) = true := by kernel_rfl
theorem runB63 : litX .normal stB62 (iB.exec none pB72 stB56.act stB56.st) = true := by kernel_rfl
theorem runB68 : litX (.exit 0) stB67 (iB.exec none pB48 stB62.act stB62.st) = true := by kernel_rfl
theorem runB91 : litX .normal stB90 (iB.exec none pB82 stB84.act stB84.st) = true := by kernel_rfl
theorem runB96 : litX (.exit 0) stB95 (iB.exec none pB30 stB90.act stB90.st) = true := by kernel_rfl
theorem runB130 : litX .normal stB129 (iB.exec none pB88 stB123.act stB123.st) = true := by kernel_rfl
theorem runB137 : litX (.exit 0) stB136 (iB.exec none pB11 stB134.act stB134.st) = true := by kernel_rfl
theorem runB171 : litOk stB170 (runSeq iB.exec (hds 2 pB11) stB168.act stB168.st) = true := by kernel_rfl
theorem runB180 : litOk stB179 (runOps Tryz.prog iB (rops pB25).toList (cutOps pB25 0 2) stB177.act stB177.st) = true := by kernel_rfl
theorem runB185 : litOk stB184 (runSeq iB.exec (hds 1 pB27) stB182.act stB182.st) = true := by kernel_rfl
theorem runB187 : litOk stB186 (runSeq iB.exec (hds 2 pB30) stB184.act stB184.st) = true := by kernel_rfl
theorem runB189 : litOk stB188 (runSeq iB.exec (hds 1 pB33) stB186.act stB186.st) = true := by kernel_rfl
theorem runB198 : litOk stB197 (runSeq iB.exec (hds 2 pB48) stB195.act stB195.st) = true := by kernel_rfl
theorem runB223 : litX .normal stB222 (iB.exec none pB72 stB216.act stB216.st) = true := by kernel_rfl
theorem runB228 : litX (.exit 0) stB227 (iB.exec none pB48 stB222.act stB222.st) = true := by kernel_rfl
theorem runB251 : litX .normal stB250 (iB.exec none pB82 stB244.act stB244.st) = true := by kernel_rfl
theorem runB256 : litX (.exit 0) stB255 (iB.exec none pB30 stB250.act stB250.st) = true := by kernel_rfl
theorem runB290 : litX .normal stB289 (iB.exec none pB88 stB283.act stB283.st) = true := by kernel_rfl
theorem runB297 : litX (.exit 0) stB296 (iB.exec none pB11 stB294.act stB294.st) = true := by kernel_rfl
theorem runB333 : litOk stB332 (runSeq iB.exec (hds 2 pB153) stB330.act stB330.st) = true := by kernel_rfl
theorem runB342 : litOk stB341 (runSeq iB.exec (hds 1 pB27) stB339.act stB339.st) = true := by kernel_rfl
theorem runB344 : litOk stB343 (runSeq iB.exec (hds 2 pB30) stB341.act stB341.st) = true := by kernel_rfl
theorem runB346 : litOk stB345 (runSeq iB.exec (hds 1 pB33) stB343.act stB343.st) = true := by kernel_rfl

end Go.Proofs.YteclhllliigapaaGreatDoor

/-
  The chapter's examples, stages.
-/
import Derived.Test.YtblhfojaiipboaaGreatDoorBp1
namespace Go.Proofs.YtblhfojaiipboaaGreatDoor
open Go.Cm
set_option maxRecDepth 100000
theorem runA56 : litOk stA55 (runSeq iA.exec (List.replicate 1 pA64) stA53.act stA53.st) = true := by kernel_rfl
theorem runA28 : litOk stA27 (runSeq iA.exec (hds 4 cdA33) ({ n := 46, t := PT.ofList 0 (PT.nil 8) vsA26, defers := [] }) stA24.st) = true := by kernel_rfl
theorem runA92 : finOk Tryz.prog Tryz.f42.results.toList (vvA93) stA91 (iA.exec none pA87 stA85.act stA85.st) = true := by kernel_rfl
theorem runA276 : finOk Tryz.prog Tryz.f42.results.toList (vvA169) stA275 (iA.exec none pA87 stA269.act stA269.st) = true := by kernel_rfl
theorem runA188 : litOk stA187 (runOps Tryz.prog iA (rops pA126).toList (cutOps pA126 0 2) stA185.act stA185.st) = true := by kernel_rfl
theorem runA4 : litOk stA3 (runOps Tryz.prog iA (rops pA1).toList (cutOps pA1 0 1) stA1.act stA1.st) = true := by kernel_rfl
theorem runA326 : litX .normal stA325 (iA.exec none pA102 stA322.act stA322.st) = true := by kernel_rfl
theorem runA365 : finOk Tryz.prog Tryz.f19.results.toList (vt) stA364 (iA.exec none pA184 stA361.act stA361.st) = true := by kernel_rfl
theorem runA142 : litX .normal stA141 (iA.exec none pA102 stA138.act stA138.st) = true := by kernel_rfl
theorem runA170 : finOk Tryz.prog Tryz.f13.results.toList (vvA111) stA169 (iA.exec none pA110 stA166.act stA166.st) = true := by kernel_rfl
theorem runA287 : litX .normal stA286 (iA.exec none pA94 stA283.act stA283.st) = true := by kernel_rfl
theorem runA23 : litOk stA22 (runSeq iA.exec (hds 4 cdA23) ({ n := 94, t := PT.ofList 0 (PT.nil 8) vsA21, defers := [] }) stA19.st) = true := by kernel_rfl
theorem runA120 : finOk Tryz.prog Tryz.f33.results.toList (vvA98) stA119 (iA.exec none pA97 stA113.act stA113.st) = true := by kernel_rfl
theorem runA304 : finOk Tryz.prog Tryz.f33.results.toList (vvA171) stA303 (iA.exec none pA97 stA297.act stA297.st) = true := by kernel_rfl
theorem runA351 : litOk stA350 (runOps Tryz.prog iA (rops pA131).toList ((rops pA131).toList.drop 2) stA348.act stA348.st) = true := by kernel_rfl
theorem runA167 : litOk stA166 (runOps Tryz.prog iA (rops pA6).toList ((rops pA6).toList.drop 2) stA164.act stA164.st) = true := by kernel_rfl
theorem runA159 : finOk Tryz.prog Tryz.f10.results.toList (vvA109) stA158 (iA.exec none pA108 stA152.act stA152.st) = true := by kernel_rfl
theorem runA343 : finOk Tryz.prog Tryz.f10.results.toList (vvA179) stA342 (iA.exec none pA108 stA336.act stA336.st) = true := by kernel_rfl
theorem runA72 : litOk stA71 (runOps Tryz.prog iA (rops pA58).toList ((rops pA58).toList.drop 4) stA69.act stA69.st) = true := by kernel_rfl
theorem runA100 : litOk stA99 (runOps Tryz.prog iA (rops pA40).toList ((rops pA40).toList.drop 4) stA97.act stA97.st) = true := by kernel_rfl
theorem runA128 : litOk stA127 (runOps Tryz.prog iA (rops pA30).toList ((rops pA30).toList.drop 3) stA125.act stA125.st) = true := by kernel_rfl
theorem runA139 : litOk stA138 (runOps Tryz.prog iA (rops pA23).toList ((rops pA23).toList.drop 4) stA136.act stA136.st) = true := by kernel_rfl
theorem runA178 : litOk stA177 (runOps Tryz.prog iA (rops pA1).toList ((rops pA1).toList.drop 2) stA175.act stA175.st) = true := by kernel_rfl
theorem runA256 : litOk stA255 (runOps Tryz.prog iA (rops pA58).toList ((rops pA58).toList.drop 4) stA253.act stA253.st) = true := by kernel_rfl
theorem runA284 : litOk stA283 (runOps Tryz.prog iA (rops pA40).toList ((rops pA40).toList.drop 4) stA281.act stA281.st) = true := by kernel_rfl
theorem runA312 : litOk stA311 (runOps Tryz.prog iA (rops pA30).toList ((rops pA30).toList.drop 3) stA309.act stA309.st) = true := by kernel_rfl
theorem runA323 : litOk stA322 (runOps Tryz.prog iA (rops pA23).toList ((rops pA23).toList.drop 4) stA320.act stA320.st) = true := by kernel_rfl
theorem runA362 : litOk stA361 (runOps Tryz.prog iA (rops pA126).toList ((rops pA126).toList.drop 3) stA359.act stA359.st) = true := by kernel_rfl
theorem runA7 : litOk stA6 (runSeq iA.exec (hds 1 cdA13) ({ n := 18, t := PT.ofList 0 (PT.nil 8) vsA5, defers := [] }) stA3.st) = true := by kernel_rfl
theorem runA14 : litOk stA13 (runSeq iA.exec (hds 1 pA10) stA11.act stA11.st) = true := by kernel_rfl
theorem runA20 : litOk stA19 (runOps Tryz.prog iA (rops pA23).toList (cutOps pA23 0 3) stA17.act stA17.st) = true := by kernel_rfl
theorem runA36 : litOk stA35 (runOps Tryz.prog iA (rops pA40).toList (cutOps pA40 0 3) stA33.act stA33.st) = true := by kernel_rfl
theorem runA41 : litOk stA40 (runSeq iA.exec (hds 1 pA50) stA38.act stA38.st) = true := by kernel_rfl
theorem runA45 : litOk stA44 (runSeq iA.exec (hds 1 pA56) stA42.act stA42.st) = true := by kernel_rfl
theorem runA47 : litOk stA46 (runOps Tryz.prog iA (rops pA58).toList (cutOps pA58 0 3) stA44.act stA44.st) = true := by kernel_rfl
theorem runA75 : litX .normal stA74 (iA.exec none pA85 stA71.act stA71.st) = true := by kernel_rfl
theorem runA191 : litOk stA190 (runSeq iA.exec (hds 1 cdA5) ({ n := 53, t := PT.ofList 0 (PT.nil 8) vsA189, defers := [] }) stA187.st) = true := by kernel_rfl
theorem runA198 : litOk stA197 (runSeq iA.exec (hds 1 pA10) stA195.act stA195.st) = true := by kernel_rfl
theorem runA204 : litOk stA203 (runOps Tryz.prog iA (rops pA23).toList (cutOps pA23 0 3) stA201.act stA201.st) = true := by kernel_rfl
theorem runA220 : litOk stA219 (runOps Tryz.prog iA (rops pA40).toList (cutOps pA40 0 3) stA217.act stA217.st) = true := by kernel_rfl
theorem runA225 : litOk stA224 (runSeq iA.exec (hds 1 pA50) stA222.act stA222.st) = true := by kernel_rfl
theorem runA229 : litOk stA228 (runSeq iA.exec (hds 1 pA56) stA226.act stA226.st) = true := by kernel_rfl
theorem runA231 : litOk stA230 (runOps Tryz.prog iA (rops pA58).toList (cutOps pA58 0 3) stA228.act stA228.st) = true := by kernel_rfl
theorem runA259 : litX .normal stA258 (iA.exec none pA85 stA255.act stA255.st) = true := by kernel_rfl
theorem runA16 : litOk stA15 (runSeq iA.exec (hds 2 pA13) stA13.act stA13.st) = true := by kernel_rfl
theorem runA25 : litOk stA24 (runOps Tryz.prog iA (rops pA30).toList (cutOps pA30 0 2) stA22.act stA22.st) = true := by kernel_rfl
theorem runA30 : litOk stA29 (runSeq iA.exec (hds 1 pA32) stA27.act stA27.st) = true := by kernel_rfl
theorem runA32 : litOk stA31 (runSeq iA.exec (hds 2 pA35) stA29.act stA29.st) = true := by kernel_rfl
theorem runA34 : litOk stA33 (runSeq iA.exec (hds 1 pA38) stA31.act stA31.st) = true := by kernel_rfl
theorem runA43 : litOk stA42 (runSeq iA.exec (hds 2 pA53) stA40.act stA40.st) = true := by kernel_rfl
theorem runA52 : litOk stA51 (runSeq iA.exec (hds 1 pA61) stA49.act stA49.st) = true := by kernel_rfl
theorem runA58 : litX (.exit 0) stA57 (iA.exec none pA64 stA55.act stA55.st) = true := by kernel_rfl
theorem runA81 : litX .normal stA80 (iA.exec none pA86 stA74.act stA74.st) = true := by kernel_rfl
theorem runA86 : litX (.exit 0) stA85 (iA.exec none pA53 stA80.act stA80.st) = true := by kernel_rfl
theorem runA109 : litX .normal stA108 (iA.exec none pA96 stA102.act stA102.st) = true := by kernel_rfl
theorem runA114 : litX (.exit 0) stA113 (iA.exec none pA35 stA108.act stA108.st) = true := by kernel_rfl
theorem runA148 : litX .normal stA147 (iA.exec none pA107 stA141.act stA141.st) = true := by kernel_rfl
theorem runA153 : litX (.exit 0) stA152 (iA.exec none pA13 stA147.act stA147.st) = true := by kernel_rfl
theorem runA200 : litOk stA199 (runSeq iA.exec (hds 2 pA13) stA197.act stA197.st) = true := by kernel_rfl
theorem runA209 : litOk stA208 (runOps Tryz.prog iA (rops pA30).toList (cutOps pA30 0 2) stA206.act stA206.st) = true := by kernel_rfl
theorem runA214 : litOk stA213 (runSeq iA.exec (hds 1 pA32) stA211.act stA211.st) = true := by kernel_rfl
theorem runA216 : litOk stA215 (runSeq iA.exec (hds 2 pA35) stA213.act stA213.st) = true := by kernel_rfl
theorem runA218 : litOk stA217 (runSeq iA.exec (hds 1 pA38) stA215.act stA215.st) = true := by kernel_rfl
theorem runA227 : litOk stA226 (runSeq iA.exec (hds 2 pA53) stA224.act stA224.st) = true := by kernel_rfl
theorem runA236 : litOk stA235 (runSeq iA.exec (hds 1 pA61) stA233.act stA233.st) = true := by kernel_rfl
theorem runA242 : litX (.exit 0) stA241 (iA.exec none pA64 stA239.act stA239.st) = true := by kernel_rfl
theorem runA265 : litX .normal stA264 (iA.exec none pA86 stA258.act stA258.st) = true := by kernel_rfl
theorem runA270 : litX (.exit 0) stA269 (iA.exec none pA53 stA264.act stA264.st) = true := by kernel_rfl
theorem runA293 : litX .normal stA292 (iA.exec none pA96 stA286.act stA286.st) = true := by kernel_rfl
theorem runA298 : litX (.exit 0) stA297 (iA.exec none pA35 stA292.act stA292.st) = true := by kernel_rfl
theorem runA332 : litX .normal stA331 (iA.exec none pA107 stA325.act stA325.st) = true := by kernel_rfl
theorem runA337 : litX (.exit 0) stA336 (iA.exec none pA13 stA331.act stA331.st) = true := by kernel_rfl
theorem runA373 : litOk stA372 (runOps Tryz.prog iA (rops pA118).toList ((rops pA118).toList.drop 23) stA370.act stA370.st) = true := by kernel_rfl
theorem runA2 : litOk stA1 (runSeq iA.exec (hds 1 cdA6) ({ n := 39, t := PT.ofList 0 (PT.nil 8) vsA0, defers := [] }) start0) = true := by kernel_rfl
theorem runA9 : litOk stA8 (runOps Tryz.prog iA (rops pA6).toList (cutOps pA6 0 1) stA6.act stA6.st) = true := by kernel_rfl
theorem runA70 : litOk stA69 (match stA46.act.put (some 60) (vvA84) with | some a => some (.normal, a, stA63.st) | none => none) = true := by kernel_rfl
theorem runA98 : litOk stA97 (match stA35.act.put (some 29) (vvA93) with | some a => some (.normal, a, stA91.st) | none => none) = true := by kernel_rfl
theorem runA126 : litOk stA125 (match stA24.act.put (some 34) (vvA98) with | some a => some (.normal, a, stA119.st) | none => none) = true := by kernel_rfl
theorem runA137 : litOk stA136 (match stA19.act.put (some 47) (vvA101) with | some a => some (.normal, a, stA130.st) | none => none) = true := by kernel_rfl
theorem runA165 : litOk stA164 (match stA8.act.put (some 9) (vvA109) with | some a => some (.normal, a, stA158.st) | none => none) = true := by kernel_rfl
theorem runA176 : litOk stA175 (match stA3.act.put (some 7) (vvA111) with | some a => some (.normal, a, stA169.st) | none => none) = true := by kernel_rfl
theorem runA186 : litOk stA185 (runSeq iA.exec (hds 1 cdA19) ({ n := 20, t := PT.ofList 0 (PT.nil 8) vsA184, defers := [] }) stA182.st) = true := by kernel_rfl
theorem runA193 : litOk stA192 (runOps Tryz.prog iA (rops pA131).toList (cutOps pA131 0 1) stA190.act stA190.st) = true := by kernel_rfl
theorem runA254 : litOk stA253 (match stA230.act.put (some 60) (vvA163) with | some a => some (.normal, a, stA247.st) | none => none) = true := by kernel_rfl
theorem runA282 : litOk stA281 (match stA219.act.put (some 29) (vvA169) with | some a => some (.normal, a, stA275.st) | none => none) = true := by kernel_rfl
theorem runA310 : litOk stA309 (match stA208.act.put (some 34) (vvA171) with | some a => some (.normal, a, stA303.st) | none => none) = true := by kernel_rfl
theorem runA321 : litOk stA320 (match stA203.act.put (some 47) (vvA173) with | some a => some (.normal, a, stA314.st) | none => none) = true := by kernel_rfl
theorem runA349 : litOk stA348 (match stA192.act.put (some 13) (vvA179) with | some a => some (.normal, a, stA342.st) | none => none) = true := by kernel_rfl
theorem runA360 : litOk stA359 (match stA187.act.put (some 10) (vvA183) with | some a => some (.normal, a, stA353.st) | none => none) = true := by kernel_rfl
theorem runA371 : litOk stA370 (match stA182.act.put (some 37) (vt) with | some a => some (.normal, a, stA364.st) | none => none) = true := by kernel_rfl
theorem runA376 : finOk Tryz.prog Tryz.f6.results.toList (vt) stA375 (iA.exec none pA185 stA372.act stA372.st) = true := by kernel_rfl
end Go.Proofs.YtblhfojaiipboaaGreatDoor

/-
  The chapter's examples, stages.
-/
import Derived.Test.YtkmhecihkckcmaaGreatDoorBc1
namespace Go.Proofs.YtkmhecihkckcmaaGreatDoor
open Go.Cm
set_option maxRecDepth 100000
theorem runA50 : litOk stA49 (runSeq iA.exec (hds 3 cdA78) ({ n := 62, t := PT.ofList 0 (PT.nil 8) vsA48, defers := [] }) stA46.st) = true := by kernel_rfl
theorem runA4 : litOk stA3 (runOps Tryz.prog iA (rops pA1).toList (cutOps pA1 0 1) stA1.act stA1.st) = true := by kernel_rfl
theorem runA339 : finOk Tryz.prog Tryz.f18.results.toList (vt) stA338 (iA.exec none pA172 stA335.act stA335.st) = true := by kernel_rfl
theorem runA129 : litX .normal stA128 (iA.exec none pA93 stA125.act stA125.st) = true := by kernel_rfl
theorem runA194 : litOk stA193 (runSeq iA.exec (hds 4 cdA40) ({ n := 94, t := PT.ofList 0 (PT.nil 8) vsA192, defers := [] }) stA190.st) = true := by kernel_rfl
theorem runA90 : litX .normal stA89 (iA.exec none pA85 stA86.act stA86.st) = true := by kernel_rfl
theorem runA23 : litOk stA22 (runSeq iA.exec (hds 4 cdA40) ({ n := 94, t := PT.ofList 0 (PT.nil 8) vsA21, defers := [] }) stA19.st) = true := by kernel_rfl
theorem runA261 : litX .normal stA260 (iA.exec none pA85 stA257.act stA257.st) = true := by kernel_rfl
theorem runA107 : finOk Tryz.prog Tryz.f52.results.toList (vvA89) stA106 (iA.exec none pA88 stA100.act stA100.st) = true := by kernel_rfl
theorem runA278 : finOk Tryz.prog Tryz.f52.results.toList (vvA159) stA277 (iA.exec none pA88 stA271.act stA271.st) = true := by kernel_rfl
theorem runA325 : litOk stA324 (runOps Tryz.prog iA (rops pA122).toList ((rops pA122).toList.drop 2) stA322.act stA322.st) = true := by kernel_rfl
theorem runA154 : litOk stA153 (runOps Tryz.prog iA (rops pA6).toList ((rops pA6).toList.drop 2) stA151.act stA151.st) = true := by kernel_rfl
theorem runA146 : finOk Tryz.prog Tryz.f27.results.toList (vvA100) stA145 (iA.exec none pA99 stA139.act stA139.st) = true := by kernel_rfl
theorem runA317 : finOk Tryz.prog Tryz.f27.results.toList (vvA167) stA316 (iA.exec none pA99 stA310.act stA310.st) = true := by kernel_rfl
theorem runA59 : litOk stA58 (runOps Tryz.prog iA (rops pA58).toList ((rops pA58).toList.drop 4) stA56.act stA56.st) = true := by kernel_rfl
theorem runA87 : litOk stA86 (runOps Tryz.prog iA (rops pA40).toList ((rops pA40).toList.drop 4) stA84.act stA84.st) = true := by kernel_rfl
theorem runA115 : litOk stA114 (runOps Tryz.prog iA (rops pA30).toList ((rops pA30).toList.drop 3) stA112.act stA112.st) = true := by kernel_rfl
theorem runA126 : litOk stA125 (runOps Tryz.prog iA (rops pA23).toList ((rops pA23).toList.drop 4) stA123.act stA123.st) = true := by kernel_rfl
theorem runA165 : litOk stA164 (runOps Tryz.prog iA (rops pA1).toList ((rops pA1).toList.drop 2) stA162.act stA162.st) = true := by kernel_rfl
theorem runA230 : litOk stA229 (runOps Tryz.prog iA (rops pA58).toList ((rops pA58).toList.drop 4) stA227.act stA227.st) = true := by kernel_rfl
theorem runA258 : litOk stA257 (runOps Tryz.prog iA (rops pA40).toList ((rops pA40).toList.drop 4) stA255.act stA255.st) = true := by kernel_rfl
theorem runA286 : litOk stA285 (runOps Tryz.prog iA (rops pA30).toList ((rops pA30).toList.drop 3) stA283.act stA283.st) = true := by kernel_rfl
theorem runA297 : litOk stA296 (runOps Tryz.prog iA (rops pA23).toList ((rops pA23).toList.drop 4) stA294.act stA294.st) = true := by kernel_rfl
theorem runA336 : litOk stA335 (runOps Tryz.prog iA (rops pA117).toList ((rops pA117).toList.drop 3) stA333.act stA333.st) = true := by kernel_rfl
theorem runA7 : litOk stA6 (runSeq iA.exec (hds 1 cdA13) ({ n := 18, t := PT.ofList 0 (PT.nil 8) vsA5, defers := [] }) stA3.st) = true := by kernel_rfl
theorem runA14 : litOk stA13 (runSeq iA.exec (hds 1 pA10) stA11.act stA11.st) = true := by kernel_rfl
theorem runA20 : litOk stA19 (runOps Tryz.prog iA (rops pA23).toList (cutOps pA23 0 3) stA17.act stA17.st) = true := by kernel_rfl
theorem runA36 : litOk stA35 (runOps Tryz.prog iA (rops pA40).toList (cutOps pA40 0 3) stA33.act stA33.st) = true := by kernel_rfl
theorem runA41 : litOk stA40 (runSeq iA.exec (hds 1 pA50) stA38.act stA38.st) = true := by kernel_rfl
theorem runA45 : litOk stA44 (runSeq iA.exec (hds 1 pA56) stA42.act stA42.st) = true := by kernel_rfl
theorem runA47 : litOk stA46 (runOps Tryz.prog iA (rops pA58).toList (cutOps pA58 0 3) stA44.act stA44.st) = true := by kernel_rfl
theorem runA62 : litX .normal stA61 (iA.exec none pA76 stA58.act stA58.st) = true := by kernel_rfl
theorem runA178 : litOk stA177 (runSeq iA.exec (hds 1 cdA33) ({ n := 53, t := PT.ofList 0 (PT.nil 8) vsA176, defers := [] }) stA174.st) = true := by kernel_rfl
theorem runA185 : litOk stA184 (runSeq iA.exec (hds 1 pA10) stA182.act stA182.st) = true := by kernel_rfl
theorem runA191 : litOk stA190 (runOps Tryz.prog iA (rops pA23).toList (cutOps pA23 0 3) stA188.act stA188.st) = true := by kernel_rfl
theorem runA207 : litOk stA206 (runOps Tryz.prog iA (rops pA40).toList (cutOps pA40 0 3) stA204.act stA204.st) = true := by kernel_rfl
theorem runA212 : litOk stA211 (runSeq iA.exec (hds 1 pA50) stA209.act stA209.st) = true := by kernel_rfl
theorem runA216 : litOk stA215 (runSeq iA.exec (hds 1 pA56) stA213.act stA213.st) = true := by kernel_rfl
theorem runA218 : litOk stA217 (runOps Tryz.prog iA (rops pA58).toList (cutOps pA58 0 3) stA215.act stA215.st) = true := by kernel_rfl
theorem runA233 : litX .normal stA232 (iA.exec none pA76 stA229.act stA229.st) = true := by kernel_rfl
theorem runA16 : litOk stA15 (runSeq iA.exec (hds 2 pA13) stA13.act stA13.st) = true := by kernel_rfl
theorem runA25 : litOk stA24 (runOps Tryz.prog iA (rops pA30).toList (cutOps pA30 0 2) stA22.act stA22.st) = true := by kernel_rfl
theorem runA30 : litOk stA29 (runSeq iA.exec (hds 1 pA32) stA27.act stA27.st) = true := by kernel_rfl
theorem runA32 : litOk stA31 (runSeq iA.exec (hds 2 pA35) stA29.act stA29.st) = true := by kernel_rfl
theorem runA34 : litOk stA33 (runSeq iA.exec (hds 1 pA38) stA31.act stA31.st) = true := by kernel_rfl
theorem runA43 : litOk stA42 (runSeq iA.exec (hds 2 pA53) stA40.act stA40.st) = true := by kernel_rfl
theorem runA68 : litX .normal stA67 (iA.exec none pA77 stA61.act stA61.st) = true := by kernel_rfl
theorem runA73 : litX (.exit 0) stA72 (iA.exec none pA53 stA67.act stA67.st) = true := by kernel_rfl
theorem runA96 : litX .normal stA95 (iA.exec none pA87 stA89.act stA89.st) = true := by kernel_rfl
theorem runA101 : litX (.exit 0) stA100 (iA.exec none pA35 stA95.act stA95.st) = true := by kernel_rfl
theorem runA135 : litX .normal stA134 (iA.exec none pA98 stA128.act stA128.st) = true := by kernel_rfl
theorem runA140 : litX (.exit 0) stA139 (iA.exec none pA13 stA134.act stA134.st) = true := by kernel_rfl
theorem runA187 : litOk stA186 (runSeq iA.exec (hds 2 pA13) stA184.act stA184.st) = true := by kernel_rfl
theorem runA196 : litOk stA195 (runOps Tryz.prog iA (rops pA30).toList (cutOps pA30 0 2) stA193.act stA193.st) = true := by kernel_rfl
theorem runA201 : litOk stA200 (runSeq iA.exec (hds 1 pA32) stA198.act stA198.st) = true := by kernel_rfl
theorem runA203 : litOk stA202 (runSeq iA.exec (hds 2 pA35) stA200.act stA200.st) = true := by kernel_rfl
theorem runA205 : litOk stA204 (runSeq iA.exec (hds 1 pA38) stA202.act stA202.st) = true := by kernel_rfl
theorem runA214 : litOk stA213 (runSeq iA.exec (hds 2 pA53) stA211.act stA211.st) = true := by kernel_rfl
theorem runA239 : litX .normal stA238 (iA.exec none pA77 stA232.act stA232.st) = true := by kernel_rfl
theorem runA244 : litX (.exit 0) stA243 (iA.exec none pA53 stA238.act stA238.st) = true := by kernel_rfl
theorem runA267 : litX .normal stA266 (iA.exec none pA87 stA260.act stA260.st) = true := by kernel_rfl
theorem runA272 : litX (.exit 0) stA271 (iA.exec none pA35 stA266.act stA266.st) = true := by kernel_rfl
theorem runA306 : litX .normal stA305 (iA.exec none pA98 stA299.act stA299.st) = true := by kernel_rfl
theorem runA311 : litX (.exit 0) stA310 (iA.exec none pA13 stA305.act stA305.st) = true := by kernel_rfl
theorem runA347 : litOk stA346 (runOps Tryz.prog iA (rops pA109).toList ((rops pA109).toList.drop 23) stA344.act stA344.st) = true := by kernel_rfl
theorem runA2 : litOk stA1 (runSeq iA.exec (hds 1 cdA4) ({ n := 39, t := PT.ofList 0 (PT.nil 8) vsA0, defers := [] }) start0) = true := by kernel_rfl
theorem runA9 : litOk stA8 (runOps Tryz.prog iA (rops pA6).toList (cutOps pA6 0 1) stA6.act stA6.st) = true := by kernel_rfl
theorem runA57 : litOk stA56 (match stA46.act.put (some 60) (vvA75) with | some a => some (.normal, a, stA51.st) | none => none) = true := by kernel_rfl
theorem runA85 : litOk stA84 (match stA35.act.put (some 29) (vvA84) with | some a => some (.normal, a, stA78.st) | none => none) = true := by kernel_rfl
theorem runA113 : litOk stA112 (match stA24.act.put (some 34) (vvA89) with | some a => some (.normal, a, stA106.st) | none => none) = true := by kernel_rfl
theorem runA124 : litOk stA123 (match stA19.act.put (some 47) (vvA92) with | some a => some (.normal, a, stA117.st) | none => none) = true := by kernel_rfl
theorem runA152 : litOk stA151 (match stA8.act.put (some 9) (vvA100) with | some a => some (.normal, a, stA145.st) | none => none) = true := by kernel_rfl
theorem runA163 : litOk stA162 (match stA3.act.put (some 7) (vvA102) with | some a => some (.normal, a, stA156.st) | none => none) = true := by kernel_rfl
theorem runA173 : litOk stA172 (runSeq iA.exec (hds 1 cdA18) ({ n := 20, t := PT.ofList 0 (PT.nil 8) vsA171, defers := [] }) stA169.st) = true := by kernel_rfl
theorem runA180 : litOk stA179 (runOps Tryz.prog iA (rops pA122).toList (cutOps pA122 0 1) stA177.act stA177.st) = true := by kernel_rfl
theorem runA228 : litOk stA227 (match stA217.act.put (some 60) (vvA151) with | some a => some (.normal, a, stA222.st) | none => none) = true := by kernel_rfl
theorem runA256 : litOk stA255 (match stA206.act.put (some 29) (vvA157) with | some a => some (.normal, a, stA249.st) | none => none) = true := by kernel_rfl
theorem runA284 : litOk stA283 (match stA195.act.put (some 34) (vvA159) with | some a => some (.normal, a, stA277.st) | none => none) = true := by kernel_rfl
theorem runA295 : litOk stA294 (match stA190.act.put (some 47) (vvA161) with | some a => some (.normal, a, stA288.st) | none => none) = true := by kernel_rfl
theorem runA323 : litOk stA322 (match stA179.act.put (some 13) (vvA167) with | some a => some (.normal, a, stA316.st) | none => none) = true := by kernel_rfl
theorem runA334 : litOk stA333 (match stA174.act.put (some 10) (vvA171) with | some a => some (.normal, a, stA327.st) | none => none) = true := by kernel_rfl
theorem runA345 : litOk stA344 (match stA169.act.put (some 37) (vt) with | some a => some (.normal, a, stA338.st) | none => none) = true := by kernel_rfl
theorem runA350 : finOk Tryz.prog Tryz.f4.results.toList (vt) stA349 (iA.exec none pA173 stA346.act stA346.st) = true := by kernel_rfl
end Go.Proofs.YtkmhecihkckcmaaGreatDoor
